/- What tells of one block behind the other what it costs (layer 31): cost.meter. -/
import Derived.Test.YtbecbfpoahhpnaaGreatJ30
import Derived.Test.YtbecbfpoahhpnaaGreatJ37
set_option linter.unusedVariables false
set_option linter.unusedSimpArgs false
set_option maxRecDepth 100000
set_option maxHeartbeats 16000000
namespace Go.Proofs.YtbecbfpoahhpnaaGreat
open Go.RowKit Go.ChangeShapes Go.WideShapes Tryz
def mtr (g1 g2:Nat):Value:=.func (.func 82) #[] #[.pointer (some ⟨g1,0,none⟩),.pointer (some ⟨g2,0,none⟩)]
theorem yT (i n s c:Int) (w:World) :
  Calls prog 56 #[.agg (sN i n s),.int .i64 c] w fun e w'=>∃ t a,e=.returned (mtr t a)∧w.heap.size≤t∧t < a∧Blk w' t 23 (sN i n s)∧Blk w' a 3 #[.int .i64 c]∧Below w w w':=by
 have H:=zW w;obtain ⟨l,h,r,k1⟩:=nB w (sN i n s) 23;replace H:=zN k1 H r;obtain ⟨y,f,d,k2⟩:=nB l #[.int .i64 c] 3;replace H:=zN k2 H d;have m:=zL h;clear r k1 d k2;go_in;go_wp2;go_ret;exact ⟨w.heap.size,l.heap.size,rfl,lR _,m,H.o.1.2,H.o.2,H.o.1.1.out⟩
theorem wV (b:aN) (L:QA) (y cl:Nat) (W:QA) (nw m:Nat) (B:QA) (nb cb:Nat) (t a i c:Int) (n q C:Nat) (w:World) (s:dz b L y cl W nw m B nb cb (blo C) w) (R:C≤n) (Q:n < q)
  (k:Blk w n 23 (sN t a i)) (j:Blk w q 3 #[.int .i64 c]) (A:InK .i64 t∧InK .i64 a∧InK .i64 i) (z:iu b) (ok:(ao b.nodes (t,a,i)).2.2=0) (f:2≤c∧c≤16) :
  Calls prog 82 #[.agg #[.slice L y cl,.bool b.exit,.slice W nw m,.slice B nb cb,.int .i32 b.head.need],.pointer (some ⟨n,0,none⟩),.pointer (some ⟨q,0,none⟩)] w fun e w'=>e=.returned (.tuple #[.int .i64 (dC b (t,a,i) c),.int .i64 0])∧Blk w' n 23 (sN (cQ b (t,a,i)).1 (cQ b (t,a,i)).2.1 (cQ b (t,a,i)).2.2)∧w.grownBy w' (some n):=by
 have V:=k.lt;have X:=j.lt;obtain ⟨E,p,v⟩:=zh3 (s.keep (S':=blo w) (fun _ _=>rfl) (fun x (g:x < C)=>show x < w.heap.size by omega)) (fun w h=>rK b L y cl W nw m B nb cb (t,a,i) c w h A z ok f) (fun w h=>mV b L y cl W nw m B nb cb (t,a,i) w h A z ok);obtain ⟨P,r⟩:∃ x,dC b (t,a,i) c=x:=⟨_,rfl⟩;obtain ⟨⟨M,N,O⟩,g⟩:∃ x,cQ b (t,a,i)=x:=⟨_,rfl⟩;rw [r] at p;rw [r];simp only [g] at v;simp only [g];obtain ⟨need,l⟩:∃ x,b.head.need=x:=⟨_,rfl⟩;obtain ⟨J,d⟩:∃ x,b.exit=x:=⟨_,rfl⟩;simp only [l,d] at p v;rw [l,d];have H:=zH (And.intro (And.intro (Far.refl w) k) j);clear r g l d s A z ok f k j;obtain ⟨S,D,F,k1⟩:=nB w #[.slice L y cl,.bool J,.slice W nw m,.slice B nb cb,.int .i32 need] 51;replace H:=zN k1 H F;clear F k1;have I:=H.o.1.2.cell 0;go_in
 go_wp2_with (first|(refine lG H.o.2 ?_)|(refine lB 23 (.tmp 1) n H.o.1.1.2 underlying23 ?_))
 refine qM (p.o _ (E.o.fut H.o.1.1.1.out)) fun T s=>?_;replace H:=zF s H;clear s I p D
 go_wp2_with (first|(refine lG H.o.2 ?_)|(refine lB 23 (.tmp 1) n H.o.1.1.2 underlying23 ?_))
 refine qM (v.o _ (E.o.fut H.o.1.1.1.out)) fun U s=>?_;replace H:=zF s H;clear s v
 go_wp2_with (refine sB 23 (.tmp 1) (.tmp 22) n (sN M N O) H.o.1.1.2 ?_;intro w4 G K)
 go_ret2
 exact ⟨rfl,G,(bm H.o.1.1.1.out).trans K⟩
theorem vF {l:List af} {s:Sh3} (h:(ao l s).2.2=0):dp ((ao l s).1.getD l.length (0,0,0)):=by
 unfold ao at h ⊢;split at h
 ·cases h
 split at h
 ·cases h
 split at h
 ·cases h
 rename_i n r d;rw [if_neg n,if_neg r,if_neg d];obtain ⟨k,m⟩:∃ k,l.length=k+1:=⟨l.length - 1,by omega⟩;rw [m] at h ⊢;cases t:bS l s (k+1) with
 | bad i e=>rw [t] at h;exact absurd h (jK _ t)
 | on out =>
  have f:=(gO _ t).len;unfold bS at t;cases a:bS l s k with
  | bad i e=>rw [a] at t;cases t
  | on o =>
   rw [a] at t;simp only at t;by_cases c:(bP (l.getD k aM) o).2=0
   ·rw [if_neg (by simpa using c)] at t;cases t;have w:o.length=k+1:=by simpa using f
    show dp ((o ++ [(bP (l.getD k aM) o).1]).getD (k+1) (0,0,0));rw [gD,List.getElem?_append_right oM,w,Nat.sub_self];exact ld c
   ·rw [if_pos c] at t;cases t
theorem dp.in_ {x y z:Int} (h:dp (x,y,z)):InK .i64 x∧InK .i64 y∧InK .i64 z:=by
 have e:=h.h;have t:=h.v;have a:=h.c;simp only at e t a;exact ⟨by rw [ai];omega,by rw [ai];omega,by rw [ai];omega⟩
theorem kX {m:List aN} {s:Sh3} {cl:Int} (h:ku m s cl) (e:dp s):∀ {k:Nat},k≤m.length → dp (inV m s k)
 | 0,_=>e
 | k+1,hk=>vF (h.blocks k hk).shapes
theorem jJ (m:List aN) (s:Sh3) (cl:Int):(dW m s cl).length=m.length:=by unfold dW;rw [List.length_map,List.length_range]
theorem mQ {m:List aN} {s:Sh3} {cl:Int} {k:Nat} (h:k < m.length):(dW m s cl)[k]?=some (dC (m.getD k eA) (inV m s k) cl):=by
 unfold dW;rw [List.getElem?_map,List.getElem?_range h];rfl
theorem lL {b:aN} {s:Sh3} {cl:Int} (h:(ao b.nodes s).2.2=0):1≤dC b s cl∧dC b s cl≤300000000:=by
 have e:=jq b.nodes (ao b.nodes s).1 b.nodes.length;have t:=AM b (cQ b s) cl;have a:=(ie h).2;unfold dC;omega
theorem qK {b:aN} {s:Sh3} {cl:Int} (h:(ao b.nodes s).2.2=0):InK .i64 (dC b s cl):=by
 have:=lL (cl:=cl) h;rw [ai];omega
theorem dn.good {u:Bun} (h:dn u):dp (u.h,u.v,u.c):=dp.of h.input
theorem dn.model {u:Bun} (h:dn u) {k:Nat} {m:List aN} (e:u.models[k]?=some m):ku m (u.h,u.v,u.c) u.cl:=by
 have:=h.models k (List.getElem?_eq_some_iff.1 e).1;rwa [aX e] at this
theorem iX {u:Bun} {k:Nat} {m:List aN} (e:u.models[k]?=some m):(aO u)[k]?=some (dW m (u.h,u.v,u.c) u.cl):=by
 unfold aO;rw [List.getElem?_map,e];rfl
theorem mI {m:List aN} {s:Sh3} {k:Nat} (h:k≤m.length):(gJ m s)[k]?=some (inV m s k):=by
 unfold gJ;rw [List.getElem?_map,List.getElem?_range oM];rfl
theorem p9 {u:Bun} {k:Nat} {m:List aN} (e:u.models[k]?=some m):(fT u)[k]?=some (gJ m (u.h,u.v,u.c)):=by
 unfold fT;rw [List.getElem?_map,e];rfl
theorem mS (u:Bun):(aO u).length=u.models.length:=by unfold aO;rw [List.length_map]
theorem uC {u:Bun} (t:iw u):∀ r ∈ aO u,r.length≤100:=fun r e=>by
 unfold aO at e;obtain ⟨m,a,rfl⟩:=List.mem_map.1 e;rw [jJ];have:=(t.2 m a).1;omega
def fi:Ty (List Int):=tSlice (ab .i64)
theorem pV:EI prog 55 58 (.slice none 0 0) 1 24:=⟨underlying55,by kernel_rfl,rfl,by decide⟩
theorem qw:fi.size=1:=rfl
def sU (l:List (List Int)) (w:World) (e:Ending) (w':World):Prop :=
 ∃ A n cap,e=.returned (.tuple #[.slice A n cap,.int .i64 0])∧Sl fi w' (bin w w') A n cap l∧Below w w w'
theorem rL (u:Bun) (A:QA) (n M:Nat) (w:World) (hu:Sl bJ w (blo w) A n M u.models) (hf:iw u) (ok:dn u) :
  Calls prog 31 #[.agg #[.int .i64 u.h,.int .i64 u.v,.int .i64 u.c,.int .i64 u.cl,.slice A n M]] w (sU (aO u) w):=by
 have n3:n≤3:=by have:=ok.three;rw [hu.n_eq] at this;exact this
 obtain ⟨HU,FU,OK,GS,CL,TA,TL⟩:=zh7 (Old.now hu) (fun m C=>hf.2 m C) (fun k m C=>ok.model (k:=k) (m:=m) C) ok.good ok.cl (fun k m C=>iX (u:=u) (k:=k) (m:=m) C) (show (aO u).length=n by unfold aO;rw [List.length_map,hu.n_eq]);obtain ⟨tb,O⟩:∃ x,aO u=x:=⟨_,rfl⟩;obtain ⟨d,hh⟩:∃ x,u.h=x:=⟨_,rfl⟩;obtain ⟨l,hv⟩:∃ x,u.v=x:=⟨_,rfl⟩;obtain ⟨a,hc⟩:∃ x,u.c=x:=⟨_,rfl⟩;obtain ⟨p,hl⟩:∃ x,u.cl=x:=⟨_,rfl⟩;rw [hh,hv,hc,hl,O];simp only [hh,hv,hc,hl,O] at OK GS CL TA TL;clear hh hv hc hl O hu hf ok;have H:=zW w;obtain ⟨w1,ax,V,k1⟩:=nB w #[.int .i64 d,.int .i64 l,.int .i64 a,.int .i64 p,.slice A n M] 26;replace H:=zN k1 H V;clear V k1;have l1:=zL ax;have cA:=fun i=>H.o.2.cell i;go_in;go_wp2_with fail;have H2:=H;clear H cA ax;go_loopw [4,16] (fun v i wr=>∃ (k:Nat) (S:Nat → Prop),k≤n∧i=.int .i64 k∧Own fi wr S w1.heap.size 58 v k (tb.take k)∧(∀ b,S b → w1.heap.size≤b∧b < wr.heap.size∧some b ≠ v.ownBlock)∧Below w1 w1 wr) (fun _ i _=>n - (intOf i).toNat)
 case atStart=>exact ⟨0,fun _=>False,zl _,rfl,Own.nil _ _ _ _ _,fun _ h=>h.elim,qB _ _⟩
 case round =>
  obtain ⟨k,S,hk,rfl,hO,hS,f⟩:=hrel;obtain ⟨wo,bh⟩:∃ x,x=wr:=⟨_,rfl⟩;subst bh;have H:=zF f H2;obtain ⟨X,T,G1⟩:=zh3 hO hS f;have z1:=f.size;clear hO hS f;by_cases bn:k < n
  ·have p1:(k:Int) < (n:Int):=oM;have gk:IntKind.i64.wrap ((k:Int)+1)=((k+1:Nat):Int):=(wJ).trans sM;obtain ⟨m,ga,oa,A',y,c',C,rfl,bt,al,hA⟩:=(HU.o.fut H.o.1.out).out.model_at k bn;obtain ⟨MO,TK⟩:=zh2 (OK.o k m C) (bG _ _ _ (TA.o k m C));have FM:=zH (FU.o m (mG C)).2;have LM:=hA.n_eq;have m6:y≤6:=by have:=MO.o.six;omega
   obtain ⟨R,Y⟩:=zh2 (show Old w eQ wo A' y c' m from ⟨hA,H.o.1.size⟩) (qZ al);have z:=zW wo;clear C bt al hA;have cA:=fun i=>H.o.2.cell i
   go_wp2_with (first
    | (refine lM 54 (.tmp 18) Y.o underlying54 ?_)
    | (refine sF 54 (.tmp 6) (.tmp 19) #[.slice A' y c'] ?_;intro w5 b5 k5;replace z:=zN k5 z b5;replace H:=zF k5 H;clear cA b5;have cA:=fun i=>H.o.2.cell i)
    | (refine lM 23 (.tmp 20) (aq (off:=0) (vs:=[.int .i64 d,.int .i64 l,.int .i64 a]) H.o.2 rfl) underlying23 ?_))
   refine (yT d l a p w5).mono ?_;rintro e P ⟨G,g2,rfl,bd,be,K,b2,f⟩;have z5:=z.o.1.size;replace H:=zN f H (zH (And.intro K b2));replace z:=zF f z;have y1:=K.lt;have y2:=b2.lt;replace R:=zF z.o.1.out R;unfold mtr;clear cA f K b2 Y;have cB:=z.o.2.cell 0;go_wp2;go_loopw [8,28] (fun rv i wr=>∃ j:Nat,j≤y∧i=.int .i64 j∧Own (ab .i64) wr (fun _=>False) P.heap.size 3 rv j ((dW m (d,l,a) p).take j)∧Blk wr G 23 (sN (inV m (d,l,a) j).1 (inV m (d,l,a) j).2.1 (inV m (d,l,a) j).2.2)∧P.grownBy wr (some G)) (fun _ i _=>y - (intOf i).toNat)
   case atStart=>exact ⟨0,zl _,rfl,Own.nil _ _ _ _ _,H.o.2.1,World.grownBy.refl _ _⟩
   case round =>
    obtain ⟨j,hj,rfl,hO,K,U⟩:=hrel;obtain ⟨Q,bs⟩:∃ x,x=wr:=⟨_,rfl⟩;subst bs;obtain ⟨RO,V,G8⟩:=zh3 hO K U;replace R:=zA U R;have B2:=zA U (zH H.o.2.2);replace H:=zA U (zH H.o.1);have z8:=U.size;have x1:=K.lt;clear hO K U cB;by_cases bo:j < y
    ·have p2:(j:Int) < (y:Int):=oM;have gj:IntKind.i64.wrap ((j:Int)+1)=((j+1:Nat):Int):=(wJ).trans sM;obtain ⟨b,gb,ob,L,nl,cl,W,nw,cw,B,nb,cb,f,rfl,ba,rg,ad⟩:=R.o.out.blk_at j bo;have BO:=zH (MO.o.blocks j oM).shapes;rw [aX f] at BO;obtain ⟨BC,RK,IV⟩:=zh3 (qK (cl:=p) BO.o) (bG _ _ _ (mQ (m:=m) (s:=(d,l,a)) (cl:=p) (show j < m.length by omega))) (show inV m (d,l,a) (j+1)=cQ (m.getD j eA) (inV m (d,l,a) j) from rfl);rw [aX f] at RK IV;have II:=zH (kX MO.o GS.o (k:=j) oM).in_;obtain ⟨⟨s1,s2,s3⟩,hs⟩:∃ x,inV m (d,l,a) j=x:=⟨_,rfl⟩;rw [hs] at BO BC RK IV II V;have FB:=zH (FM.o b (mG f));obtain ⟨ME,AT,Y,HW⟩:=zh4 (fun ww h F h2=>wV b L nl cl W nw cw B nb cb s1 s2 s3 p G g2 w.heap.size ww h oM be F h2 II.o FB.o BO.o CL.o) ad rg R.o.le;obtain ⟨need,ay⟩:∃ x,b.head.need=x:=⟨_,rfl⟩;obtain ⟨ex,ac⟩:∃ x,b.exit=x:=⟨_,rfl⟩;simp only [ay,ac] at ME Y;obtain ⟨bc,N⟩:∃ x,dC b (s1,s2,s3) p=x:=⟨_,rfl⟩;obtain ⟨⟨t1,t2,t3⟩,ht⟩:∃ x,cQ b (s1,s2,s3)=x:=⟨_,rfl⟩;rw [ht] at IV;rw [N] at BC RK;simp only [N,ht] at ME;have D:=zW Q;clear hs f ba rg ad ay ac N ht
     go_wp2_with (first
      | (refine lM 51 (.tmp 30) Y.o underlying51 ?_)
      | (refine sF 51 (.tmp 10) (.tmp 31) #[.slice L nl cl,.bool ex,.slice W nw cw,.slice B nb cb,.int .i32 need] ?_;intro w9 b9 k9;replace D:=zN k9 D b9;clear b9 k9)
      | (refine lG D.o.2 ?_))
     have y9:=D.o.1.size;refine (ME.o _ (AT.o.keep (fun x hx=>D.o.1.out.block x (Nat.lt_of_lt_of_le (show x < w.heap.size from hx) HW.o)) (fun x hx=>hx)) (V.o.fut D.o.1.out) (B2.o.fut D.o.1.out)).mono ?_;rintro e br ⟨rfl,an,ah⟩;have I:=zH ((bm D.o.1.out).trans ah);have bl:=I.o.size;have Z:=zH (RO.o.flat I.o (by
      by_cases h:u8.ownBlock=none
      ·exact .inl h
      ·refine .inr fun e=>?_;have:=(RO.o.lt G e).1
       omega) (fun _ h=>h))
     clear ah ME D
     go_wp2_with (first
      | (at_builtin;refine wpList_push (W:=br) (cs:=#[.int .i64 bc]) (E:=3) (t:=ab .i64) (S:=fun _=>False) (base:=P.heap.size) rfl (.tmp 41) (.tmp 43) rfl iN rfl Z.o 1 rfl bc ⟨rfl,BC.o⟩ mL oM oM (fun _ h=>h.elim) ?_;intro v' wz g gz J))
     have OB:=fun q e=>(Z.o.lt q e).1;refine ⟨⟨j+1,by omega,by go_num,by rw [RK.o];exact g,?_,je (G8.o.trans I.o) gz (fun q e=>OB q e)⟩,by simp [intOf];omega⟩;rw [IV.o];refine ⟨(gz.block G an.lt ?_).trans an.heap⟩;intro e;have:=OB G e.symm;omega
    ·obtain rfl:y=j:=oM;have p2:¬ (y:Int) < (y:Int):=oM;have RL:=zH (show (dW m (d,l,a) p).take y=dW m (d,l,a) p from List.take_of_length_le (by rw [jJ];omega));rw [RL.o] at RO;obtain ⟨Ar,cr,rfl,sr⟩:=RO.o.sl (S':=bin P Q) dM (fun b F h2=>⟨F,h2⟩) (fun _ h=>h.elim);obtain ⟨SR,GO⟩:=zh2 sr (bm (r:=some G) z.o.1.out);have O2:=zH ((X.o.kept (GO.o.trans G8.o) (by
      by_cases h:u4.ownBlock=none
      ·exact .inl h
      ·refine .inr fun e=>?_;have:=(X.o.lt G e).2
       omega) (fun b h=>⟨(T.o b h).2.1,fun e=>by have:=(T.o b h).2.1;have:=sI e;omega⟩)).more (S':=fun b=>S b ∨ (P.heap.size≤b∧b < Q.heap.size)) (fun b h=>.inl h))
     have z6:=z.o.1.size;have VB:=zH (fun q (e:u4.ownBlock=some q)=>X.o.lt q e);have RP:=zH (show ∀ S',(∀ b,bin P Q b → S' b) → fi.rep Q S' [.slice Ar y cr] (dW m (d,l,a) p) from fun S' h=>by
      have e:=SR.o.n_eq;have q:=SR.o.more h;rw [← e] at q;rw [← e];exact aZ.2 ⟨_,_,rfl,q⟩)
     clear sr
     go_wp2_with (first
      | (at_builtin;refine wpList_push (W:=Q) (cs:=#[.slice Ar y cr]) (E:=58) (t:=fi) (S:=fun b=>S b ∨ (P.heap.size≤b∧b < Q.heap.size)) (base:=w1.heap.size) rfl (.tmp 46) (.tmp 48) rfl pV rfl O2.o 1 rfl (dW m (d,l,a) p) (RP.o _ (fun b h=>.inr h)) mL oM oM (fun b h=>?_) ?_;rotate_left;intro v' wz g gz J))
     ·have zz:=gz.size;refine ⟨⟨k+1,_,by omega,by go_num,by rw [TK.o];exact g,?_,?_⟩,by simp [intOf];omega⟩
      ·rintro b (h|h)
       ·have F:=T.o b h;refine ⟨F.1,by omega,?_⟩;rcases J with e|e
        ·rw [e];exact F.2.2
        ·rw [e];intro q;have:=sI q;omega
       ·refine ⟨by omega,by omega,fun q=>?_⟩;rcases J with e|e
        ·have:=VB.o b (e.symm.trans q.symm);omega
        ·rw [e] at q;have:=sI q;omega
      ·exact ((aa (z.o.1.out) G1.o).grown G8.o oM (fun q e=>by have:=sI e;omega)).grown gz oM (fun q e=>(VB.o q e).1)
     ·rcases h with h|h
      ·have F:=T.o b h;exact ⟨by omega,F.2.2⟩
      ·exact ⟨h.2,fun e=>by have:=VB.o b e.symm;omega⟩
  ·obtain rfl:n=k:=oM;have p1:¬ (n:Int) < (n:Int):=oM;have TT:=zH (show tb.take n=tb from List.take_of_length_le (by rw [TL.o];exact lR _));rw [TT.o] at X;obtain ⟨Ar,cr,rfl,sr⟩:=X.o.sl (S':=bin w wo) dM (fun b F h2=>⟨by omega,h2⟩) (fun b h=>⟨by have:=(T.o b h).1;omega,(T.o b h).2.1⟩);go_wp2_with fail
   go_ret2
   exact ⟨Ar,n,cr,rfl,sr,H.o.1.out⟩
end Go.Proofs.YtbecbfpoahhpnaaGreat
namespace Go.Proofs.YtbecbfpoahhpnaaGreat.Ar
open Tryz
theorem good_at {sz un:List Int} {n:Nat} (e:∀ j,j < n → 0≤sz.getD j 0∧sz.getD j 0≤1048576) (i:Nat) (hi:i≤n):Good sz un i (atTo sz un i):=by
 induction i with
 | zero=>exact Good.nil sz un
 | succ i ih =>
  have g:=ih oM;obtain ⟨t,a,_⟩:=vO (un:=un) (i:=i) (at_:=atTo sz un i) (sz:=sz) (fun j o=>by have:=(g.bd j o).1;have:=(e j oM).1;omega);exact g.push (n:=n) oM e t a
theorem fits_at {sz un:List Int} {n:Nat} (e:∀ j,j < n → 0≤sz.getD j 0∧sz.getD j 0≤1048576) (i:Nat) (hi:i < n) :
  0≤best sz un (atTo sz un i) i∧cand sz (atTo sz un i) i (best sz un (atTo sz un i) i)∧fits sz un (atTo sz un i) i (best sz un (atTo sz un i) i)=true:=by
 have g:=good_at (un:=un) e i oM;exact vO (fun j t=>by have:=(g.bd j t).1;have:=(e j oM).1;omega)
theorem at_old (sz un:List Int) (i j:Nat) (e:j < i):(atTo sz un (i+1)).getD j 0=(atTo sz un i).getD j 0:=by
 rw [atTo,getD_append,atTo_len,if_pos e]
theorem at_new (sz un:List Int) (i:Nat):(atTo sz un (i+1)).getD i 0=best sz un (atTo sz un i) i:=by
 rw [atTo,getD_append,atTo_len,if_neg oM,if_pos rfl]
theorem rows_at {sz un:List Int} (h:mayOk sz un) (n:Nat) (d:n≤sz.length):rowsOk sz un (atTo sz un n) n:=by
 have a:=h.2.2
 induction n with
 | zero=>exact fun i hi=>by omega
 | succ n s =>
  have s:=s oM;have g:=good_at (un:=un) a (n+1) d;have f:=good_at (un:=un) a n oM;intro i hi;by_cases e:i=n
  ·subst e;have y:=g.small d h.2.1 a i oM;have w:=a i oM;refine ⟨by omega,by omega,fun j t=>?_⟩;have o:=(fits_at (un:=un) a i oM).2.2;unfold fits at o;rw [decide_eq_true_eq] at o;have r:=o j t;rw [← at_new,← at_old sz un i j t] at r;exact (meet_pair t oM (fun j t=>(a j t).1)).1 r
  ·obtain ⟨l,c,m⟩:=s i oM;refine ⟨by rw [at_old sz un n i oM];exact l,by rw [at_old sz un n i oM];exact c,fun j t=>?_⟩;have:=m j t;unfold pairOk at this ⊢;rw [at_old sz un n i oM,at_old sz un n j oM];exact this
theorem sound_at {sz un:List Int} (h:mayOk sz un):soundOk sz un (atTo sz un sz.length) :=
 ⟨h,atTo_len _ _ _,by rw [atTo_len];exact rows_at h _ (lR _)⟩
/-! ### no more than all -/
theorem room_sum {sz un:List Int} {n:Nat} (e:∀ j,j < n → 0≤sz.getD j 0∧sz.getD j 0≤1048576) (i:Nat) (hi:i≤n):0≤roomTo sz un i∧roomTo sz un i≤sumTo sz i:=by
 induction i with
 | zero=>exact ⟨Int.le_refl _,Int.le_refl _⟩
 | succ i t =>
  have t:=t oM;have g:=(good_at (un:=un) e (i+1) hi).bd i oM;rw [at_new] at g;have s:=e i oM;have a:roomTo sz un (i+1)=max (roomTo sz un i) (best sz un (atTo sz un i) i+sz.getD i 0):=rfl;have o:sumTo sz (i+1)=sumTo sz i+sz.getD i 0:=rfl;omega
theorem in_room {sz un:List Int} (i:Nat) (k:Nat) (a:k < i):(atTo sz un i).getD k 0+sz.getD k 0≤roomTo sz un i:=by
 induction i with
 | zero=>omega
 | succ i ih =>
  have t:roomTo sz un (i+1)=max (roomTo sz un i) (best sz un (atTo sz un i) i+sz.getD i 0):=rfl;by_cases e:k=i
  ·rw [e,at_new];omega
  ·rw [at_old sz un i k oM];have:=ih oM;omega
/-! ### no less than the peak: intervals that do not meet, side by side -/
end Go.Proofs.YtbecbfpoahhpnaaGreat.Ar
namespace Go.Proofs.YtbecbfpoahhpnaaGreat
open Tryz
theorem mM {x:ae} (e:ag x.h x.v x.c=(x.data.length:Int)) (t:0 < x.data.length):x.ok=true:=by
 unfold ae.ok;rw [decide_eq_true_eq];exact ⟨by omega,e⟩
theorem pj {U:List Int → Int} {a x:ae} {d:af} (o:a.ok=true) (h:cU U a d=(x,0)):aH a.h a.v a.c d.k d.s d.p a.c=((x.h,x.v,x.c),0)∧x.ok=true:=by
 have i:(aH a.h a.v a.c d.k d.s d.p a.c).2=0:=by
  unfold cU at h;split at h
  ·assumption
  ·exact (Prod.mk.inj h).2
 obtain ⟨H,V,C,K,S,P,Ho,Wo,m,t,l,n,r⟩:=ua (U:=U) o i;rw [r] at h;obtain ⟨e,-⟩:=Prod.mk.inj h;subst e;refine ⟨l,mM ?_ ?_⟩
 ·simpa using n
 ·have:=t.ho1;have:=t.wo1;have:=t.co1;simp only [List.length_map,List.length_range];exact Nat.mul_pos (Nat.mul_pos oM oM) oM
theorem Aj {a y:ae} {d:af} (g:d.kind=1 ∨ d.kind=2 ∨ d.kind=3) (h:dB a d=(y,0)) (f b t:Int):aE a.h a.v a.c f b t d=((y.h,y.v,y.c),0):=by
 unfold dB at h;unfold aE;by_cases k1:d.kind=1
 ·rw [if_pos k1] at h ⊢;unfold cg at h;by_cases o:a.ok=true
  ·rw [if_pos o] at h;by_cases t:(bq a.h a.v a.c d).2=0
   ·obtain ⟨H,V,C,K,S,P,Ho,Wo,Co,s,l,n,p,lb,k,m,i⟩:=kR o t;unfold cg at i;rw [if_pos o] at i;rw [i] at h;obtain ⟨e,-⟩:=Prod.mk.inj h;subst e;exact n
   ·rw [if_neg t] at h;exact absurd (Prod.mk.inj h).2 t
  ·rw [if_neg o] at h;cases (Prod.mk.inj h).2
 rw [if_neg k1] at h ⊢;by_cases k2:d.kind=2
 ·rw [if_pos k2] at h ⊢;unfold db at h;by_cases o:a.ok=true
  ·rw [if_pos o] at h;by_cases t:(bF a.h a.v a.c d).2=0
   ·obtain ⟨H,V,C,K,S,P,Ho,Wo,s,l,n,p,lb,m,i⟩:=lQ o t;unfold db at i;rw [if_pos o] at i;rw [i] at h;obtain ⟨e,-⟩:=Prod.mk.inj h;subst e;exact n
   ·rw [if_neg t] at h;exact absurd (Prod.mk.inj h).2 t
  ·rw [if_neg o] at h;cases (Prod.mk.inj h).2
 rw [if_neg k2] at h ⊢;have w:d.kind=3:=oM;rw [if_pos w] at h ⊢;unfold dU at h;by_cases o:a.ok=true
 ·rw [if_pos o] at h;by_cases t:aR a.h a.v a.c d=0
  ·rw [if_pos t] at h;obtain ⟨e,-⟩:=Prod.mk.inj h;subst e;unfold aR at t;unfold d9;split at t
   ·cases t
   ·rename_i q;rw [if_neg q];split at t
    ·cases t
    ·rename_i r;rw [if_neg r]
  ·rw [if_neg t] at h;exact absurd (Prod.mk.inj h).2 t
 ·rw [if_neg o] at h;cases (Prod.mk.inj h).2
theorem pe {d:af} {a b x:ae} (h:fA d a b=(x,0)):aE a.h a.v a.c b.h b.v b.c d=((x.h,x.v,x.c),0)∧x.ok=true∧1≤d.kind∧d.kind≤9:=by
 unfold fA at h;by_cases r:bu d=0
 ·rw [if_neg (not_not_intro r)] at h;have s:1≤d.kind∧d.kind≤9:=by
   unfold bu at r;split at r
   ·cases r
   ·rename_i q;exact Decidable.not_not.1 q
  by_cases l:a.ok=true
  ·rw [if_neg (by rw [l];decide)] at h;have o:=l;simp only [ae.ok,decide_eq_true_eq] at o;obtain ⟨H,V,C,I⟩:=fK l;have i:¬ ag a.h a.v a.c=0:=oM;have t:0 < a.data.length:=oM;by_cases j:d.kind=4
   ·rw [if_pos j] at h;obtain ⟨n,w⟩:=pj l h;refine ⟨?_,w,s⟩;unfold aE;rw [if_neg oM,if_neg oM,if_neg oM,if_pos (.inl j)];exact n
   rw [if_neg j] at h;by_cases z:d.kind=5
   ·rw [if_pos z] at h;obtain ⟨n,w⟩:=pj l h;refine ⟨?_,w,s⟩;unfold aE;rw [if_neg oM,if_neg oM,if_neg oM,if_pos (.inr z)];exact n
   rw [if_neg z] at h;by_cases E:d.kind=6
   ·rw [if_pos E] at h;unfold jg at h;split at h
    ·cases (Prod.mk.inj h).2
    split at h
    ·cases (Prod.mk.inj h).2
    rename_i P;split at h
    ·cases (Prod.mk.inj h).2
    split at h
    ·cases (Prod.mk.inj h).2
    obtain ⟨e,-⟩:=Prod.mk.inj h;subst e;refine ⟨?_,mM ?_ ?_,s⟩
    ·unfold aE cG;rw [if_neg oM,if_neg oM,if_neg oM,if_neg oM,if_neg i,if_neg (fun e=>P e.2),if_neg oM,if_neg oM]
    ·simpa using o.2
    ·simpa using t
   rw [if_neg E] at h;by_cases F:d.kind=7
   ·rw [if_pos F] at h;unfold kN at h;split at h
    ·obtain ⟨e,-⟩:=Prod.mk.inj h;subst e;refine ⟨?_,mM ?_ ?_,s⟩
     ·unfold aE cG;rw [if_neg oM,if_neg oM,if_neg oM,if_neg oM,if_neg i,if_neg (fun e=>by omega),if_neg oM,if_neg oM]
     ·simpa using o.2
     ·simpa using t
    ·cases (Prod.mk.inj h).2
   rw [if_neg F] at h;by_cases A:d.kind=8
   ·rw [if_pos A] at h;unfold nZ at h;split at h
    ·cases (Prod.mk.inj h).2
    rename_i O;have g:((d.p.toNat:Nat):Int)=d.p:=oM;unfold oc at h;rw [g] at h;split at h
    ·cases (Prod.mk.inj h).2
    rename_i G;obtain ⟨R,S,Q,J,K,L,T,U,W,M,N⟩:=iP G;obtain ⟨e,-⟩:=Prod.mk.inj h;subst e;refine ⟨?_,mM ?_ ?_,s⟩
    ·unfold aE cG dt;rw [if_neg oM,if_neg oM,if_neg oM,if_neg oM,if_neg i,if_neg (fun e=>by omega),if_pos A,if_neg O,if_neg G]
    ·simp only [List.length_map,List.length_range];omega
    ·simp only [List.length_map,List.length_range];omega
   rw [if_neg A] at h;by_cases B:d.kind=9
   ·rw [if_pos B] at h;obtain ⟨e,-⟩:=Prod.mk.inj h;subst e;have X:=I.n_le;have n:ag 1 1 (a.data.length:Int)=(a.data.length:Int):=by rw [cO,if_pos oM];omega
    refine ⟨?_,mM n t,s⟩;unfold aE cG;rw [if_neg oM,if_neg oM,if_neg oM,if_neg oM,if_neg i,if_neg (fun e=>by omega),if_neg oM,if_pos B,o.2]
   rw [if_neg B] at h;unfold oy at h;split at h
   ·rename_i m;obtain ⟨⟨y,k⟩,D⟩:∃ q,dB a d=q:=⟨_,rfl⟩;have f:=v6 a d m;rw [D] at m h f;obtain rfl:k=0:=m;have n:=Aj oM D b.h b.v b.c;simp only at h f;unfold lk at h;split at h
    ·obtain ⟨e,-⟩:=Prod.mk.inj h;subst e;refine ⟨n,mM ?_ ?_,s⟩
     ·rw [show (jz y.data d.qm d.qs d.qz d.lo d.hi).length=y.data.length by simp [jz]];exact f.1
     ·show 0 < (jz y.data d.qm d.qs d.qz d.lo d.hi).length;rw [show (jz y.data d.qm d.qs d.qz d.lo d.hi).length=y.data.length by simp [jz]];exact f.2.1
    ·cases (Prod.mk.inj h).2
   ·rename_i m;exact absurd (Prod.mk.inj h).2 m
  ·rw [if_pos (by simpa using l)] at h;cases (Prod.mk.inj h).2
 ·rw [if_pos r] at h;exact absurd (Prod.mk.inj h).2 r
end Go.Proofs.YtbecbfpoahhpnaaGreat
namespace Go.Proofs.YtbecbfpoahhpnaaGreat
open Go.RowKit Go.ChangeShapes Go.WideShapes Tryz
def pW (l:List af):Prop:=l.length≤12∧∀ d ∈ l,d.w.length≤1000∧d.bias.length≤100
theorem yx (A:QA) (n g:Nat) (l:List af) (h v c:Int) (D:QA) (m L:Nat) (w:World) (z:Sl di w (blo w) A n g l) :
  Calls prog 26 #[.slice A n g,.agg (tN h v c D m L)] w fun e w'=>∃ b:Bool,e=.returned (.bool b)∧(b=true → pW l∧m≤300)∧Below w w w':=by
 have O:=z.n_eq;have N:n≤9223372036854775807:=lT z.cap_le z.max_le;have s:=zW w;obtain ⟨T,C,U,s⟩:=nF s (tN h v c D m L) 29;have c3:=U.o.cell 3;have l1:=zL C;obtain ⟨H,J⟩:=zh2 (z.later s.u (lR _)) O;clear z O;by_cases c1:12 < n
 ·have R:decide (12 < (n:Int))=true:=sO;go_in;go_wp2;go_ret;exact ⟨false,rfl,(fun h=>by cases h),s.u⟩
 have R:decide (12 < (n:Int))=false:=sO;by_cases c2:300 < m
 ·have S:decide (300 < (m:Int))=true:=sO;go_in;go_wp2;go_ret;exact ⟨false,rfl,(fun h=>by cases h),s.u⟩
 have S:decide (300 < (m:Int))=false:=sO;go_in;go_wp2_with fail;clear c3 R S C;go_loopw [5] (fun i wr=>∃ k:Nat,k≤n∧i=.int .i64 k∧Below T T wr∧∀ j d,j < k → l[j]?=some d → d.w.length≤1000∧d.bias.length≤100) (fun i _=>n - (intOf i).toNat)
 case atStart=>exact ⟨0,zl _,rfl,qB _ _,fun j d q=>absurd q (Nat.not_lt_zero _)⟩
 case round =>
  obtain ⟨k,hk,rfl,M,P⟩:=hrel;obtain ⟨p,K⟩:=zh2 M P;clear M P;by_cases x:k < n
  ·have p1:(k:Int) < (n:Int):=oM;obtain ⟨d,b0,off,W,nw,cw,B,nb,cb,E,rfl,_,_,F,a,t,f⟩:=(H.o.below p.o (fun _ h=>h)).node_at k x;have c9:=f 9 _ rfl;have Z:=f 10 _ rfl;have I:=a.n_eq;have y:=t.n_eq;have m8:=lT a.cap_le a.max_le;have an:=lT t.cap_le t.max_le;have X:=zH E;clear E F a t f;by_cases g1:1000 < nw
   ·have t3:decide (1000 < (nw:Int))=true:=sO;clear I y;go_wp2;go_ret;exact ⟨false,rfl,(fun h=>by cases h),aa p.o s.u⟩
   have t3:decide (1000 < (nw:Int))=false:=sO;by_cases g2:100 < nb
   ·have t4:decide (100 < (nb:Int))=true:=sO;clear I y;go_wp2;go_ret;exact ⟨false,rfl,(fun h=>by cases h),aa p.o s.u⟩
   have t4:decide (100 < (nb:Int))=false:=sO;have Q:=zH (show d.w.length≤1000∧d.bias.length≤100 by omega);clear I y;go_wp2_with fail;refine ⟨⟨k+1,by omega,by go_num,p.o,fun j d' q r=>?_⟩,by simp [intOf];omega⟩;by_cases G:j < k
   ·exact K.o j d' G r
   ·obtain rfl:j=k:=oM;rw [X.o] at r;cases r;exact Q.o
  ·obtain rfl:k=n:=oM;have V:=zH (show pW l from ⟨by rw [J.o];omega,fun d E=>by
    obtain ⟨j,q⟩:=List.getElem?_of_mem E;exact K.o j d (by have:=(List.getElem?_eq_some_iff.1 q).1;rw [J.o] at this;exact this) q⟩)
   have Y:=zH (show m≤300 by omega);clear x hk;go_wp2;go_ret;exact ⟨true,rfl,fun _=>⟨V.o,Y.o⟩,aa p.o s.u⟩
end Go.Proofs.YtbecbfpoahhpnaaGreat
