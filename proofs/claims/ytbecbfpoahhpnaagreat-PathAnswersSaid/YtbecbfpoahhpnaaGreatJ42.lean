/- A block's plan (layer 29), in numbers: shapes, sizes, who is needed until when, places; what a node takes and makes does not meet. -/
import Derived.Test.YtbecbfpoahhpnaaGreatJ39
import Derived.Test.YtbecbfpoahhpnaaGreatJ38
set_option linter.unusedVariables false
set_option linter.unusedSimpArgs false
set_option maxRecDepth 100000
set_option maxHeartbeats 16000000
namespace Go.Proofs.YtbecbfpoahhpnaaGreat
open Go.Proofs.YtbecbfpoahhpnaaGreat.Ar Tryz
def aJ (sl:List Sh3):List Int:=sl.map fun x=>ag x.1 x.2.1 x.2.2
theorem gC (sl:List Sh3):(aJ sl).length=sl.length:=by simp [aJ]
theorem lC (sl:List Sh3) (i:Nat) (h:i < sl.length):(aJ sl).getD i 0=ag (sl.getD i (0,0,0)).1 (sl.getD i (0,0,0)).2.1 (sl.getD i (0,0,0)).2.2:=by
 unfold aJ;rw [gD,List.getElem?_map,gD,List.getElem?_eq_getElem h];rfl
theorem fF (sl:List Sh3) (i:Nat):0≤(aJ sl).getD i 0∧(aJ sl).getD i 0≤1024:=by
 by_cases h:i < sl.length
 ·rw [lC sl i h];exact aF _ _ _
 ·rw [gD,List.getElem?_eq_none (by rw [gC];omega)];decide
theorem vG (sl:List Sh3) (k:Nat) (h:k < sl.length):aJ (sl.take (k+1))=aJ (sl.take k) ++ [ag (sl.getD k (0,0,0)).1 (sl.getD k (0,0,0)).2.1 (sl.getD k (0,0,0)).2.2]:=by
 rw [bG sl k (sl.getD k (0,0,0)) (by rw [gD,List.getElem?_eq_getElem h];rfl)];simp [aJ]
theorem oh {l:List af} {s:Sh3} {sl:List Sh3} {p:Int} (h:eH l s sl p):mayOk (aJ sl) (a8 l):=by
 refine ⟨by rw [gC,i9,h.len],by rw [gC,h.len];have:=h.few;omega,fun i hi=>?_⟩;have:=fF sl i;omega
def iJ (l:List af) (s:Sh3):(List Sh3 × List Int × Int) × Int × Int :=
 if (ao l s).2.2 ≠ 0 then (([],[],0),(ao l s).2.1,(ao l s).2.2)
 else (((ao l s).1,atTo (aJ (ao l s).1) (a8 l) (l.length+1),roomTo (aJ (ao l s).1) (a8 l) (l.length+1)),(l.length:Int),0)
theorem tK {l:List af} {v:Int} {i:Nat} {d:af} (t:l[i]?=some d) (a:gu d i v=true) (k:Nat) (o:i < k) (n:k≤l.length):(i:Int)+1≤hU l v k:=by
 induction k with
 | zero=>omega
 | succ k ih =>
  unfold hU;by_cases q:gu (l.getD k aM) k v=true
  ·rw [if_pos q];omega
  ·rw [if_neg q];by_cases e:i < k
   ·exact ih e oM
   ·obtain rfl:i=k:=oM;rw [gD,t] at q;exact absurd a q
theorem De {l:List af} {sl:List Sh3} (k:Nat) (e:k≤l.length):(atTo (aJ sl) (a8 l) (l.length+1)).getD k 0+(aJ sl).getD k 0≤roomTo (aJ sl) (a8 l) (l.length+1) :=
 in_room (l.length+1) k oM
theorem mN {l:List af} {s:Sh3} {sl:List Sh3} {p:Int} (h:eH l s sl p) (k:Nat) (t:k≤l.length):0≤(atTo (aJ sl) (a8 l) (l.length+1)).getD k 0∧(atTo (aJ sl) (a8 l) (l.length+1)).getD k 0+(aJ sl).getD k 0≤1073741824:=by
 have a:=oh h;have e:∀ j,j < l.length+1 → 0≤(aJ sl).getD j 0∧(aJ sl).getD j 0≤1048576:=fun j _=>by have:=fF sl j;omega
 exact (good_at e (l.length+1) (lR _)).small (n:=l.length+1) (lR _) (by have:=h.few;omega) e k oM
theorem vU {l:List af} {s:Sh3} {sl:List Sh3} {p:Int} (h:eH l s sl p):0≤roomTo (aJ sl) (a8 l) (l.length+1)∧roomTo (aJ sl) (a8 l) (l.length+1)≤1073741824:=by
 have e:∀ j,j < l.length+1 → 0≤(aJ sl).getD j 0∧(aJ sl).getD j 0≤1048576:=fun j _=>by have:=fF sl j;omega
 have t:=room_sum (un:=a8 l) e (l.length+1) (lR _);have a:=sumTo_bd e (l.length+1) (lR _);have:=h.few;omega
open Go.RowKit Go.ChangeShapes Go.WideShapes
section
variable {P:Program} {fn:Func} {R:Ending → World → Prop} {a:Act} {w:World} {g:Nat} {e ty:TypeId} {cs:Array Value} {fs:Array Field} {p u v:Tmp}
theorem eu (h:fn.results=#[.cell p ty,.tmp u,.tmp v]) (i:Blk w g e cs) (s:a.tmps.getD p undef=.pointer (some ⟨g,0,none⟩)) (r:P.underlying ty=some (.struct fs)) (hi:(P.info? ty).map (·.size)=some cs.size) (n:a.defers=[])
  (o:R (.returned (.tuple #[.agg cs,a.tmps.getD u undef,a.tmps.getD v undef])) w):bodyPost P fn R .ret a w:=by
 refine bodyPost_ret (v:=.tuple #[.agg cs,a.tmps.getD u undef,a.tmps.getD v undef]) ?_ n o;have t:a.tmps[p]?.getD undef=.pointer (some ⟨g,0,none⟩):=by simpa using s
 simp [results,h,Sem.run_bind,t,df,run_loadVar_row w g e ty cs (0,0) (.struct fs) i.heap r rfl hi,Result.andThen]
end
theorem uN (A:QA) (n a:Nat) (o:QA) (s t:Nat) (sz un:List Int) (w:World) (h:Sl (ab .i64) w (blo w) A n a sz) (r:Sl (ab .i64) w (blo w) o s t un) (c:mayOk sz un) :
  Calls prog 86 #[.slice A n a,.slice o s t] w fun e w'=>∃ A c,e=.returned (.tuple #[.slice A n c,.int .i64 (roomTo sz un n),.bool true])∧Sl (ab .i64) w' (bin w w') A n c (atTo sz un n)∧Below w w w' :=
 (uM A n a o s t sz un w h r).mono fun e w' i=>by unfold jQ at i;rw [if_pos c] at i;exact i
def Cz (x:(List Sh3 × List Int × Int) × Int × Int) (w:World) (e:Ending) (w':World):Prop :=
 ∃ A m c A2 m2 c2,e=.returned (.tuple #[.agg #[.slice A m c,.slice A2 m2 c2,.int .i64 x.1.2.2],.int .i64 x.2.1,.int .i64 x.2.2])∧Sl dg w' (bin w w') A m c x.1.1∧Sl (ab .i64) w' (bin w w') A2 m2 c2 x.1.2.1∧Below w w w'
theorem xL (A:QA) (n q:Nat) (l:List af) (h v c:Int) (w:World) (hs:Sl di w (blo w) A n q l) (i0:InK .i64 h) (i1:InK .i64 v) (i2:InK .i64 c) (hf:pW l) :
  Calls prog 62 #[.slice A n q,.agg (sN h v c)] w (Cz (iJ l (h,v,c)) w):=by
 have hn:=hs.n_eq;obtain ⟨r,J⟩:∃ r,iJ l (h,v,c)=r:=⟨_,rfl⟩;rw [J];unfold iJ at J;have d:=zW w;obtain ⟨w1,w2,Y,Z,_,_,BA,K,X⟩:=bk2 w (sN h v c) 23 #[.slice none 0 0,.slice none 0 0,.int .i64 0] 146;replace d:=zF X d;clear X;have H:=zH (hs.later d.u (lR _));obtain ⟨PS,g⟩:=zh2 (hZ A n q l h v c w2 H.o i0 i1 i2 hf.2) (fun (sl:List Sh3) (p:Int) (h':ao l (h,v,c)=(sl,p,0))=>ly h');obtain ⟨⟨sl,p,er⟩,U⟩:∃ r,ao l (h,v,c)=r:=⟨_,rfl⟩;rw [U] at J PS g;simp only at J;obtain ⟨R,I,F⟩:=zh3 J.symm hn hf;have l1:=zL Y;have l2:=zL Z;clear J U hs hn i0 i1 i2 hf;go_in
 go_wp2_with (refine lG BA.o ?_)
 clear Y Z;refine PS.o.mono ?_;rintro e w3 ⟨A1,m,c1,rfl,S,a⟩;have S1:=zH S;have z2:=a.size;have G3:=zH (Far.mk a);obtain ⟨d,K⟩:=uz2 a d K;clear a;clear S PS BA;by_cases he:er=0;rotate_left
 ·have t1:(er != 0)=true:=by simpa using he
  rw [if_pos he] at R;clear he g
  go_wp2_with (refine sG #[.slice none 0 0,.slice none 0 0,.int .i64 0] K.o ?_;intro w4 D s;have D:=zH D;have s:=zH s)
  have BF:=Below.grown d.u s.out d.o.size (fun k P=>by have:=sI P;omega);refine eu rfl D.o rfl underlying146 kM rfl ?_;rw [R.o];exact ⟨none,0,0,none,0,0,rfl,Sl.nil _ _ _,Sl.nil _ _ _,BF⟩
 subst he;have t1:((0:Int) != 0)=false:=rfl;rw [if_neg dM] at R;have L:=zH (g.o _ _ rfl);have hm:=S1.o.n_eq;obtain rfl:m=n+1:=by rw [← hm,L.o.len,I.o]
 have h8:n≤8:=by rw [← I.o];exact L.o.few
 have HM:=zH hm;clear g hm t1;have T1:=zH S1.o.old;go_wp2;go_loopw [10,30] (fun u i wr=>∃ k:Nat,k≤n+1∧i=.int .i64 k∧Own (ab .i64) wr (fun _=>False) w3.heap.size 3 u k (aJ (sl.take k))∧Below w3 w3 wr) (fun _ i _=>n+1 - (intOf i).toNat)
 case atStart=>exact ⟨0,zl _,rfl,by simpa [aJ] using Own.nil _ _ _ _ _,qB _ _⟩
 case round =>
  obtain ⟨k,P,rfl,C,a⟩:=hrel;obtain ⟨f,M⟩:=zh2 a C;clear C a;by_cases E:k < n+1
  ·have p1:(k:Int) < (n:Int)+1:=oM;obtain ⟨b1,V,rfl,_,_,j1,j2,j3,_,r1⟩:=(T1.o.below f.o (fun _ h=>h)).shape_at k E;have z:=vG sl k (by rw [HM.o];exact E);obtain ⟨⟨x1,x2,x3⟩,hx⟩:∃ x,sl.getD k (0,0,0)=x:=⟨_,rfl⟩;rw [hx] at r1 j1 j2 j3 z;simp only at r1 j1 j2 j3 z;obtain ⟨RG,ST,EL⟩:=zh3 r1 z (fun w=>bL x1 x3 x2 w j1 j2 j3);have eb:=aF x1 x2 x3;obtain ⟨y,hy⟩:∃ y,ag x1 x2 x3=y:=⟨_,rfl⟩;rw [hy] at ST EL eb;obtain ⟨ah,ad⟩:=eb;have zr:=f.o.size;clear hx r1 j1 j2 j3 z hy
   go_wp2_with (first
    | (refine wpList_load_mid rfl 23 (.tmp 32) rfl b1 (V+k*3) rfl _ _ RG.o underlying23 rfl kM ?_)
    | (refine sG (sN x1 x2 x3) (Blk.now _ _ _ _ rfl) ?_;intro w7 B7 g7;have G7:=zH (show Below wr wr w7 from ((qB _ _).alloc (lR _) _).grown g7 sM (fun k h=>by have:=sI h;omega));have BX:=zH B7;clear B7 g7)
    | (refine lG BX.o ?_))
   refine qM (EL.o _) fun w8 a=>?_;obtain ⟨G8,O8⟩:=zh2 (aa a (aa G7.o f.o)) ((M.o.below G7.o (lR _) (fun _ h=>h.elim)).below a (lR _) (fun _ h=>h.elim));have z0:=G8.o.size;clear a EL M
   go_wp2_with (at_builtin;refine wpList_push (t:=ab .i64) rfl (.tmp 34) (.tmp 37) rfl iN rfl O8.o 1 rfl y ⟨rfl,by rw [ai];omega⟩ mL oM z0 (fun _ h=>h.elim) ?_;intro v' w9 W g9 an)
   have b9:=G8.o.grown g9 z0 (fun j hj=>(O8.o.lt j hj).1);exact ⟨⟨k+1,by omega,by go_num,by rw [ST.o];exact W,b9⟩,by simp [intOf];omega⟩
  ·obtain rfl:k=n+1:=oM;have B:sl.take (n+1)=sl:=List.take_of_length_le (by rw [HM.o];exact lR _);rw [B] at M;have zr:=f.o.size;obtain ⟨H4,F4,T4,N⟩:=zh4 ((H.o.later G3.o.out (lR _)).later f.o (lR _)) (d.o.fut f.o) ((S1.o.since ⟨(qB _ _)⟩).below f.o (fun _ h=>h.2)) (K.o.fut f.o);obtain ⟨A9,c9,rfl,s9⟩:=M.o.sl (S':=bin w3 wr) dM (fun b h1 h2=>⟨h1,h2⟩) (fun _ h=>h.elim);have S9:=zH s9;clear M s9 T1 H d K E P B f;go_wp2_with fail;refine (Bh A n q l wr H4.o oM).mono ?_;rintro e w5 ⟨A5,m5,c5,rfl,G,a⟩;obtain rfl:m5=n+1:=by rw [← G.n_eq,i9,I.o]
   have S5:=zH G;have z5:=a.size;obtain ⟨S9,T5⟩:=zh2 (S9.o.old.fut a) (T4.o.below a (fun _ h=>Nat.lt_of_lt_of_le h.2 zr));obtain ⟨F4,N⟩:=uz2 a F4 N;clear a;clear G H4 T4;go_wp2_with fail;refine (uN A9 (n+1) c9 A5 (n+1) c5 (aJ sl) (a8 l) w5 S9.o S5.o.old (oh L.o)).mono ?_;rintro e w6 ⟨A6,c6,rfl,T,a⟩;obtain ⟨T6,S6⟩:=zh2 (T5.o.below a (fun _ h=>Nat.lt_of_lt_of_le h.2 (lT zr z5))) T;have z6:=a.size;obtain ⟨F4,N⟩:=uz2 a F4 N;clear a;rw [I.o] at R;have RB:=zH (vU L.o);rw [I.o] at RB;obtain ⟨rm,Q⟩:∃ x,roomTo (aJ sl) (a8 l) (n+1)=x:=⟨_,rfl⟩;obtain ⟨al,O⟩:∃ x,atTo (aJ sl) (a8 l) (n+1)=x:=⟨_,rfl⟩;rw [Q] at R ⊢;rw [O] at R S6;have hp:=L.o.at_;rw [I.o] at hp;have HP:=zH hp;clear T S9 S5 T5 Q O RB hp
   go_wp2_with (refine sG #[.slice A1 (n+1) c1,.slice A6 (n+1) c6,.int .i64 rm] N.o ?_;intro w7 D s;have D:=zH D;have s:=zH s)
   have BF:=F4.o.out.grown s.out F4.o.size (fun k P=>by have:=sI P;omega);refine eu rfl D.o rfl underlying146 kM rfl ?_;rw [R.o,HP.o];have zq:=s.out.size;refine ⟨A1,n+1,c1,A6,n+1,c6,rfl,?_,?_,BF⟩
   ·exact (T6.o.keep fun b a=>s.out.block b (by have:=a.2;omega) (by have:=a.1;simp;omega)).more fun b a=>⟨by have:=a.1;omega,by have:=a.2;omega⟩
   ·exact (S6.o.keep fun b a=>s.out.block b a.2 (by have:=a.1;simp;omega)).more fun b a=>⟨by have:=a.1;omega,by have:=a.2;omega⟩
theorem zu {l:List af} {s:Sh3} {sl:List Sh3} {p e:Int} (h:ao l s=(sl,p,e)) (t:e ≠ 0):iJ l s=(([],[],0),p,e):=by
 unfold iJ;rw [h];simp only;rw [if_pos t]
theorem BU {l:List af} {s:Sh3} {sl:List Sh3} {p:Int} (h:ao l s=(sl,p,0)):iJ l s=((sl,atTo (aJ sl) (a8 l) (l.length+1),roomTo (aJ sl) (a8 l) (l.length+1)),(l.length:Int),0):=by
 unfold iJ;rw [h];simp only;rw [if_neg dM]
theorem Apart.two {o un e t:Value} {m a:Nat} (h:Apart o un) (i:e.ownBlock=o.ownBlock ∨ e.ownBlock=some m) (s:∀ k,un.ownBlock=some k → k < m) (n:t.ownBlock=un.ownBlock ∨ t.ownBlock=some a) (r:∀ k,e.ownBlock=some k → k < a):Apart e t :=
 ((h.push i s).symm.push n r).symm
open Go.Proofs.YtbecbfpoahhpnaaGreat.Rk
/-! ### what an exit tells -/
structure Ver where
 cls:Int
 marg:Int
 lg:List Int
 en:Bool
def pc:Ver:=⟨0,0,[],false⟩
def fM (t:ae) (d:Hd) (cl:Int):Ver × Int :=
 if t.ok=false then (pc,5)
 else if aU (ag t.h t.v t.c) d.w.length d.bias.length d.need cl ≠ 0 then (pc,aU (ag t.h t.v t.c) d.w.length d.bias.length d.need cl)
 else (⟨bestI (bE t.data d.w d.bias 0),marginI (bE t.data d.w d.bias 0),bE t.data d.w d.bias 0,decide (d.need≤marginI (bE t.data d.w d.bias 0))⟩,0)
def yc (x:Ver) (code:Int) (w:World) (e:Ending) (w':World):Prop :=
 ∃ A n cap,e=.returned (.tuple #[.agg #[.int .i64 x.cls,.int .i64 x.marg,.slice A n cap,.bool x.en],.int .i64 code])∧Sl (ab .i32) w' (bin w w') A n cap x.lg∧Below w w w'
theorem zX (t:ae) (A:QA) (n b:Nat) (d:Hd) (W:QA) (nw I:Nat) (B:QA) (nb cb:Nat) (w:World)
  (O:xA w A n b t.data) (P:xA w W nw I d.w) (s:xB w B nb cb d.bias) (Z:n≤1048576) (h2:nw≤1048576) (h3:2≤nb) (h4:nb≤16) (r:(bE t.data d.w d.bias 0).length=nb) :
  Calls prog 66 #[.agg (tN t.h t.v t.c A n b),.agg #[.slice W nw I,.slice B nb cb,.int .i32 d.need]] w fun e w' =>
   ∃ q j a,e=.returned (.agg #[.int .i64 (bestI (bE t.data d.w d.bias 0)),.int .i64 (marginI (bE t.data d.w d.bias 0)),.slice q j a])∧Sl (ab .i32) w' (bin w w') q j a (bE t.data d.w d.bias 0)∧Below w w w':=by
 obtain ⟨F,H,G⟩:=zh3 O P s;obtain ⟨l,J⟩:∃ l,bE t.data d.w d.bias 0=l:=⟨_,rfl⟩;rw [J] at r ⊢;obtain ⟨x,S⟩:=zh2 r J;clear O P s r J;have f:=zW w;obtain ⟨w1,y,M,D,E,N,_,_,_,Q,R,m,C⟩:=bk3 w (tN t.h t.v t.c A n b) 29 #[.slice W nw I,.slice B nb cb,.int .i32 d.need] 49 #[.int .i64 0,.int .i64 0,.slice none 0 0] 158;obtain ⟨f,F,H,G⟩:=uz4 C f F H G;clear C;have T:=fun i=>Q.o.cell i;have U:=fun i=>R.o.cell i;have k:y.heap.size < M.heap.size:=m.o.lt;have g:w.heap.size≤y.heap.size:=by rw [← E,← D];simp;omega
 go_in;go_wp2_with fail;clear D E N T U;refine (tL _ _ _ _ _ _ _ _ _ t.data d.w d.bias 0 M F.o H.o G.o dM oM oM oM).mono ?_;rintro e w4 ⟨q,j,a,rfl,z,s⟩;rw [S.o] at z;have p:=zH (New.of z (Far.refl M));have L:2≤j:=by have:=z.n_eq;have:=x.o;omega
 have K:j < 20:=by have:=z.n_eq;have:=x.o;omega
 clear z;obtain ⟨f,m⟩:=uz2 s f m;clear s;go_wp2_with fail;refine qM (uc _ _ _ _ w4 p.o.old) fun V s=>?_;obtain ⟨f,m,p⟩:=uz3 s f m p;clear s;go_wp2_with fail;refine qM (qh _ _ _ _ V p.o.old L K) fun w6 s=>?_;obtain ⟨f,m,p⟩:=uz3 s f m p;clear s;have Y:=fun i=>m.o.frozen i;have X:=fun i=>m.o.cell i;go_wp2_with fail;refine ret_cell rfl (((m.o.set_ 0 _).set_ 1 _).set_ 2 _) rfl underlying158 kM rfl ?_;refine ⟨q,j,a,rfl,?_,?_⟩
 ·have:=(((p.o.set ⟨y.heap.size,0,none⟩ (.int .i64 (bestI l)) k).set ⟨y.heap.size,1,none⟩ (.int .i64 (marginI l)) k).set ⟨y.heap.size,2,none⟩ (.slice q j a) k).out;exact this.more (aW oM (lR _))
 ·exact (((f.o.set ⟨y.heap.size,0,none⟩ _ g).set ⟨y.heap.size,1,none⟩ _ g).set ⟨y.heap.size,2,none⟩ _ g).out
theorem oN {m:Int} {nw nb:Nat} {need cl:Int} (h:aU m nw nb need cl=0):2≤cl∧cl≤16∧nw≤16384∧(nb:Int)=cl∧0≤need∧(nw:Int)=cl*m∧m ≠ 0:=by
 unfold aU at h;split at h
 ·omega
 split at h
 ·omega
 split at h
 ·omega
 split at h
 ·omega
 ·rename_i e t a o;exact ⟨by omega,by omega,by omega,by omega,by omega,by omega,e⟩
theorem yO {t:ae} {d:Hd} {cl:Int} (h:(fM t d cl).2=0) :
  t.ok=true∧aU (ag t.h t.v t.c) d.w.length d.bias.length d.need cl=0∧(bE t.data d.w d.bias 0).length=d.bias.length∧∃ l,bE t.data d.w d.bias 0=l∧fM t d cl=(⟨bestI l,marginI l,l,decide (d.need≤marginI l)⟩,0):=by
 unfold fM at h ⊢;by_cases o:t.ok=false
 ·rw [if_pos o] at h;cases h
 ·rw [if_neg o] at h ⊢;have e:t.ok=true:=by simpa using o
  by_cases a:aU (ag t.h t.v t.c) d.w.length d.bias.length d.need cl ≠ 0
  ·rw [if_pos a] at h;exact absurd h a
  ·rw [if_neg a];have i:=by simpa using a
   obtain ⟨m,f,y,s,p,r,b⟩:=oN i;have c4:=e;simp only [ae.ok,decide_eq_true_eq] at c4;have n:d.w.length=t.data.length*d.bias.length:=by
    rw [c4.2,← s,← Int.natCast_mul,Nat.mul_comm] at r;omega
   refine ⟨e,i,?_,_,rfl,rfl⟩;unfold bE;rw [if_neg (by rintro (h|h|h) <;> first|omega|exact h n)];simp
theorem uH (t:ae) (A:QA) (n f:Nat) (d:Hd) (W:QA) (nw I:Nat) (B:QA) (nb cb:Nat) (cl:Int) (w:World) (z:aw t) (hn:InK .i32 d.need) (an:InK .i64 cl)
  (K:xA w A n f t.data) (L:xA w W nw I d.w) (a:xB w B nb cb d.bias) (h0:(fM t d cl).2=0) :
  Calls prog 40 #[.agg (tN t.h t.v t.c A n f),.agg #[.slice W nw I,.slice B nb cb,.int .i32 d.need],.int .i64 cl] w (yc (fM t d cl).1 (fM t d cl).2 w):=by
 obtain ⟨HT,k,q,j⟩:=zh4 z K L a;have mA:=lT K.cap_le K.max_le;have mW:=lT L.cap_le L.max_le;have mB:=lT a.cap_le a.max_le;have C:=K.n_eq;have J:=L.n_eq;have D:=a.n_eq;obtain ⟨V,CK⟩:=zh2 (fun w=>av t.h t.v t.c A n f w z.h z.v z.c mA) (fun w=>lK t.h t.v t.c W nw I B nb cb d.need cl w z.h z.v z.c mW mB an);have G:t.ok=decide (0 < ag t.h t.v t.c∧ag t.h t.v t.c=n):=by unfold ae.ok;rw [C]
 rw [← G] at V;obtain ⟨h1,Q,R,l,h3,h4⟩:=yO h0;rw [J,D] at Q;rw [D] at R;obtain ⟨LA,U⟩:=zh2 C G;rw [cE] at hn;clear z K L a mA mW mB C J D G h0;have m:=zW w;obtain ⟨w1,y,w3,O,P,ad,_,_,_,p,r,s,M⟩:=bk3 w (tN t.h t.v t.c A n f) 29 #[.slice W nw I,.slice B nb cb,.int .i32 d.need] 49 #[.int .i64 0,.int .i64 0,.slice none 0 0,.bool false] 44;obtain ⟨m,k,q,j⟩:=uz4 M m k q j;clear M;have ay:y.heap.size < w3.heap.size:=s.o.lt;have b:w.heap.size≤y.heap.size:=by rw [← P,← O];simp;omega
 rw [h1] at V;rw [h4];obtain ⟨z1,z2,z3,z4,z5,z6,z7⟩:=oN Q;rw [Q] at CK;have ac:n≤1024:=by
  have:=U.o;rw [h1] at this;have:=of_decide_eq_true this.symm;have:=(jS t.h t.v t.c).2;omega
 have HL:=zH h3;rw [h3] at R;have H6:=zH R;clear h1 Q h3 h4 R z6 z7;obtain ⟨mg,F⟩:∃ x,marginI l=x:=⟨_,rfl⟩;obtain ⟨bs,E⟩:∃ x,bestI l=x:=⟨_,rfl⟩;obtain ⟨en,ah⟩:∃ x,decide (d.need≤mg)=x:=⟨_,rfl⟩;rw [F,E,ah];obtain ⟨MG,BS⟩:=zh2 F E;clear F E;have Z:=fun i=>p.o.cell i;go_in
 go_wp2_with (refine lG p.o ?_)
 clear O P ad Z;refine qM (V.o _) fun w4 a=>?_;obtain ⟨m,s,p,r,k,q,j⟩:=uz7 a m s p r k q j;clear a;have Z:=fun i=>p.o.cell i
 go_wp2_with (refine lG r.o ?_)
 clear Z;refine qM (CK.o _) fun w5 a=>?_;obtain ⟨m,s,p,r,k,q,j⟩:=uz7 a m s p r k q j;clear a;have H:=zW w5;have g:y.heap.size < w5.heap.size:=s.o.lt
 go_wp2_with (first|(refine lG p.o ?_)|(refine lG r.o ?_))
 refine (zX t A n f d W nw I B nb cb w5 k.o q.o j.o oM oM oM oM (by rw [HL.o];exact H6.o)).mono ?_;rintro e w6 ⟨S,n6,Y,rfl,s6,a⟩;rw [HL.o] at s6 ⊢;rw [MG.o,BS.o];have X:=zH (New.of s6 H.o);clear s6 k q j p;obtain ⟨m,s,r,H⟩:=uz4 a m s r H;clear a;obtain ⟨w7,al,T,N⟩:=nB w6 #[.int .i64 bs,.int .i64 mg,.slice S n6 Y] 158;obtain ⟨m,s,r,H,X⟩:=uz5 N m s r H X;clear N;have fR:=fun i=>s.o.frozen i;have cR:=fun i=>s.o.cell i;have cH:=fun i=>r.o.cell i;have cS:=fun i=>T.o.cell i;go_wp2_with fail;clear al;refine ret_cell_tmp rfl ((((s.o.set_ 0 _).set_ 1 _).set_ 2 _).set_ 3 _) rfl underlying44 kM rfl ?_;refine ⟨S,n6,Y,rfl,?_,((((m.o.set ⟨y.heap.size,0,none⟩ _ b).set ⟨y.heap.size,1,none⟩ _ b).set ⟨y.heap.size,2,none⟩ _ b).set ⟨y.heap.size,3,none⟩ _ b).out⟩;have:=((((X.o.set ⟨y.heap.size,0,none⟩ (.int .i64 bs) g).set ⟨y.heap.size,1,none⟩ (.int .i64 mg) g).set ⟨y.heap.size,2,none⟩ (.slice S n6 Y) g).set ⟨y.heap.size,3,none⟩ (.bool en) g).out;exact this.more (aW oM (lR _))
end Go.Proofs.YtbecbfpoahhpnaaGreat
namespace Go.Proofs.YtbecbfpoahhpnaaGreat
open Tryz
theorem uP {d:af} (h:bu d=0):(aG d.kind=true → aD d.qm d.qs=true)∧(d.kind=6 → aD d.rm d.rs=true):=by
 unfold bu at h;split at h
 ·cases h
 split at h
 ·cases h
 split at h
 ·cases h
 rename_i c;exact ⟨fun k=>by cases q:aD d.qm d.qs with|true=>rfl|false=>exact absurd (.inl ⟨k,q⟩) c,fun k=>by cases q:aD d.rm d.rs with|true=>rfl|false=>exact absurd (.inr ⟨k,q⟩) c⟩
theorem xf {d:af} {a b:ae} (i:bu d=0) (n:a.ok=true) (x:d.kind=6 → b.ok=true) (t:(aE a.h a.v a.c b.h b.v b.c d).2=0):(fA d a b).2=0:=by
 obtain ⟨s,j⟩:=uP i;have C:1≤d.kind∧d.kind≤9:=by
  unfold bu at i;split at i
  ·cases i
  ·rename_i q;exact Decidable.not_not.1 q
 unfold fA;rw [if_neg (not_not_intro i),if_neg (by rw [n];decide)];unfold aE at t;by_cases l:d.kind=4
 ·rw [if_pos l];rw [if_neg oM,if_neg oM,if_neg oM,if_pos (.inl l)] at t;unfold cU;rw [if_pos t]
 rw [if_neg l];by_cases m:d.kind=5
 ·rw [if_pos m];rw [if_neg oM,if_neg oM,if_neg oM,if_pos (.inr m)] at t;unfold cU;rw [if_pos t]
 rw [if_neg m];by_cases o:d.kind=6
 ·rw [if_pos o];rw [if_neg oM,if_neg oM,if_neg oM,if_neg oM] at t;have y:=s (by rw [o];rfl);have B:=j o;unfold cG at t;unfold jg;rw [if_neg (by rw [x o];decide)];split at t
  ·cases t
  split at t
  ·cases t
  rename_i c;rw [if_neg (fun e=>c ⟨o,e⟩),if_neg (by rw [y];decide),if_neg (by rw [B];decide)]
 rw [if_neg o];by_cases f:d.kind=7
 ·rw [if_pos f];unfold kN;rw [if_pos (s (by rw [f];rfl))]
 rw [if_neg f];by_cases w:d.kind=8
 ·rw [if_pos w];rw [if_neg oM,if_neg oM,if_neg oM,if_neg oM] at t;unfold cG at t;by_cases g:ag a.h a.v a.c=0
  ·rw [if_pos g] at t;cases t
  rw [if_neg g,if_neg (fun q=>by omega),if_pos w] at t;unfold dt at t;split at t
  ·cases t
  rename_i c;split at t
  ·cases t
  rename_i e;unfold nZ;rw [if_neg c];unfold oc;rw [show ((d.p.toNat:Nat):Int)=d.p by omega,if_neg e]
 rw [if_neg w];by_cases k:d.kind=9
 ·rw [if_pos k]
 rw [if_neg k];have y:=s (by
  have:d.kind=1 ∨ d.kind=2 ∨ d.kind=3:=oM;rcases this with e|e|e <;> rw [e] <;> rfl)
 have z:(dB a d).2=0:=by
  unfold dB;by_cases k1:d.kind=1
  ·rw [if_pos k1] at t ⊢;unfold cg;rw [if_pos n,if_pos t]
  rw [if_neg k1] at t ⊢;by_cases k2:d.kind=2
  ·rw [if_pos k2] at t ⊢;unfold db;rw [if_pos n,if_pos t]
  rw [if_neg k2] at t ⊢;have A:d.kind=3:=oM;rw [if_pos A] at t ⊢;unfold d9 at t;unfold dU;rw [if_pos n];have c:aR a.h a.v a.c d=0:=by
   unfold aR;split at t
   ·cases t
   ·rename_i q;rw [if_neg q];split at t
    ·cases t
    ·rename_i r;rw [if_neg r]
  rw [if_pos c]
 unfold oy;rw [if_pos z];unfold lk;rw [if_pos y]
end Go.Proofs.YtbecbfpoahhpnaaGreat
