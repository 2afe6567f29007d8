/- A block in one piece of room (layer 29), as plain lists: what is still needed stays where it is. -/
import Derived.Test.YtbecbfpoahhpnaaGreatJ42
import Derived.Test.YtbecbfpoahhpnaaGreatJ40
set_option linter.unusedVariables false
set_option linter.unusedSimpArgs false
set_option maxRecDepth 100000
set_option maxHeartbeats 16000000
namespace Go.Proofs.YtbecbfpoahhpnaaGreat
open Go Go.Proofs.YtbecbfpoahhpnaaGreat.Ar Tryz
theorem vx {l:List af} {s:Sh3} {sl:List Sh3} {p:Int} (h:eH l s sl p) {i j v:Nat} {d:af} (o:l[i]?=some d) (y:(v:Int)=d.a ∨ (v:Int)=ar d) (b:v≤j) (f:j≤i) :
  (atTo (aJ sl) (a8 l) (l.length+1)).getD v 0+(aJ sl).getD v 0≤(atTo (aJ sl) (a8 l) (l.length+1)).getD (j+1) 0 ∨
  (atTo (aJ sl) (a8 l) (l.length+1)).getD (j+1) 0+(aJ sl).getD (j+1) 0≤(atTo (aJ sl) (a8 l) (l.length+1)).getD v 0 ∨ (aJ sl).getD (j+1) 0=0 ∨ (aJ sl).getD v 0=0:=by
 have hi:i < l.length:=(List.getElem?_eq_some_iff.1 o).1;have c:=sound_at (oh h);rw [gC,h.len] at c;obtain ⟨_,_,r⟩:=c;rw [atTo_len] at r;have n:=(r (j+1) oM).2.2 v oM;unfold pairOk at n;have w:togI ((a8 l).getD v 0) v (j+1)=true:=by
  have t:=h.there i hi;rw [gD,o] at t;have m:gu d i (v:Int)=true:=by
   unfold gu;rw [show bi d ((i:Int)+1)=true from t];rcases y with e|e <;> simp [e]
  have g:=tK o m l.length hi (lR _);rw [wS l v oM];unfold togI o7;rw [if_neg oM];simp only [decide_eq_true_eq];have:=Int.le_max_left (hU l (v:Int) l.length) (v:Int);omega
 rw [w] at n;rcases n with h|h|h|h|h
 ·exact .inl h
 ·exact .inr (.inl h)
 ·exact .inr (.inr (.inl h))
 ·exact .inr (.inr (.inr h))
 ·cases h
def atV (l:List af) (sl:List Sh3) (v:Nat):Nat:=((atTo (aJ sl) (a8 l) (l.length+1)).getD v 0).toNat
def szV (sl:List Sh3) (v:Nat):Nat:=((aJ sl).getD v 0).toNat
def D7 (l:List af) (k v:Nat):Prop:=v=l.length ∨ ∃ i d,k≤i∧l[i]?=some d∧((v:Int)=d.a ∨ (v:Int)=ar d)
def sD (l:List af) (sl:List Sh3) (L:List Int) (v:Nat):List Int:=(L.drop (atV l sl v)).take (szV sl v)
structure jx (l:List af) (sl:List Sh3) (V:List ae) (k:Nat) (L:List Int):Prop where
 holds:∀ v,v≤k → D7 l k v → sD l sl L v=(V.getD v ak).data
theorem rr {L xs:List Int} {o:Nat} (h:o+xs.length≤L.length):((splice L o xs).drop o).take xs.length=xs:=by
 unfold splice;rw [List.drop_append_of_le_length (by rw [List.length_take];omega),List.drop_of_length_le (by rw [List.length_take];omega),List.nil_append,List.take_append_of_le_length (lR _),List.take_of_length_le (lR _)]
theorem xM {L xs:List Int} {o p n:Nat} (h:o+xs.length≤L.length) (s:p+n≤L.length) (a:p+n≤o ∨ o+xs.length≤p ∨ n=0 ∨ xs.length=0):((splice L o xs).drop p).take n=(L.drop p).take n:=by
 apply List.ext_getElem?;intro i;rw [List.getElem?_take,List.getElem?_take];by_cases hi:i < n
 ·rw [if_pos hi,if_pos hi,List.getElem?_drop,List.getElem?_drop];unfold splice;by_cases e:p+i < o
  ·rw [List.getElem?_append_left (by rw [List.length_take];omega),List.getElem?_take,if_pos e]
  ·rw [List.getElem?_append_right (by rw [List.length_take];omega),List.length_take,Nat.min_eq_left oM];by_cases t:p+i - o < xs.length
   ·omega
   ·rw [List.getElem?_append_right oM,List.getElem?_drop];congr 1;omega
 ·rw [if_neg hi,if_neg hi]
theorem oI {l:List af} {s:Sh3} {sl:List Sh3} {p:Int} {L:List Int} (h:eH l s sl p) (i:(L.length:Int)=roomTo (aJ sl) (a8 l) (l.length+1)) (v:Nat) (e:v≤l.length):atV l sl v+szV sl v≤L.length:=by
 have t:=mN h v e;have a:=De (l:=l) (sl:=sl) v e;have o:=fF sl v;unfold atV szV;omega
theorem jx.step {l:List af} {s:Sh3} {sl:List Sh3} {p:Int} {L:List Int} {V:List ae} {k:Nat} {t:ae} (g:jx l sl V k L) (h:eH l s sl p) (n:(L.length:Int)=roomTo (aJ sl) (a8 l) (l.length+1)) (D:k < l.length) (y:V.length=k+1) (c:t.data.length=szV sl (k+1)) :
  jx l sl (V ++ [t]) (k+1) (splice L (atV l sl (k+1)) t.data):=by
 have B:=oI h n (k+1) oM;refine ⟨fun v E r=>?_⟩;by_cases e:v=k+1
 ·subst e;unfold sD;rw [← c,rr oM,gD,List.getElem?_append_right oM,y,Nat.sub_self];rfl
 ·have a:v≤k:=oM;have m:=oI h n v oM;have old:=g.holds v a (r.imp id fun ⟨i,d,C,f,w⟩=>⟨i,d,by omega,f,w⟩);rw [gD,List.getElem?_append_left oM,← gD,← old];unfold sD;refine xM oM m ?_;rcases r with e|⟨i,d,hi,b,o⟩
  ·omega
  ·have j:=mN h v oM;have x:=mN h (k+1) oM;have z:=fF sl v;have A:=fF sl (k+1);rw [c];unfold atV szV;rcases vx h b o a oM with q|q|q|q <;> omega
theorem jx.first {l:List af} {s:Sh3} {sl:List Sh3} {p:Int} {L:List Int} {x:ae} (h:eH l s sl p) (e:(L.length:Int)=roomTo (aJ sl) (a8 l) (l.length+1)) (t:x.data.length=szV sl 0):jx l sl [x] 0 (splice L (atV l sl 0) x.data):=by
 have a:=oI h e 0 oM;refine ⟨fun v i o=>?_⟩;obtain rfl:v=0:=oM;unfold sD;rw [← t,rr oM];rfl
def eL (l:List af) (x:ae):ae × Int × Int :=
 if x.ok=false then (ak,-1,5) else if ¬ (ao l (x.h,x.v,x.c)).2.2=0 then (ak,(ao l (x.h,x.v,x.c)).2.1,(ao l (x.h,x.v,x.c)).2.2)
 else match fW l x l.length with
  | .on out=>(out.getD l.length ak,(l.length:Int),0)
  | .bad i e=>(ak,(i:Int),e)
open Go.RowKit Go.ChangeShapes Go.WideShapes
abbrev rmC (A1:QA) (m1 c1:Nat) (A2:QA) (m2 c2:Nat) (sz:Int) (q N:Nat):Array Value:=#[.slice A1 m1 c1,.slice A2 m2 c2,.int .i64 sz,.slice (some ⟨q,0,none⟩) N N]
theorem j9 (l:Nat) (X:QA) (v I:Nat) (Y:QA) (m D:Nat) (sz:Int) (q N:Nat) (sl:List Sh3) (al:List Int) (w:World) (c:Blk w l 151 (rmC X v I Y m D sz q N)) (E:Sl dg w (blo w) X v I sl) (F:Sl (ab .i64) w (blo w) Y m D al)
  (i:Nat) (x:Sh3) (hx:sl.getD i (0,0,0)=x) (hi:i < v) (M:i < m) (p s:Nat) (hp:al.getD i 0=p) (y:ag x.1 x.2.1 x.2.2=s) (s1:1≤s) (hf:p+s≤N) (hN:N≤1073741824) :
  Calls prog 63 #[.pointer (some ⟨l,0,none⟩),.int .i64 i] w fun e w'=>e=.returned (.agg (tN x.1 x.2.1 x.2.2 (some ⟨q,p,none⟩) s s))∧Below w w w':=by
 obtain ⟨g,A,B⟩:=x;simp only at y ⊢;have R:=lT E.cap_le E.max_le;have T:=lT F.cap_le F.max_le;unfold maxLen at R T;obtain ⟨b1,o1,rfl,-,-,P,Q,i3,-,V⟩:=E.shape_at i hi;rw [hx] at V P Q i3;obtain ⟨d,U,rfl,-,-,J,-⟩:=F.int_at i M;rw [hp] at J;have G:=zH (fun w=>bL g B A w P Q i3);simp only [y] at G;obtain ⟨R1,a,CP⟩:=zh3 V c J;have gl:l < w.heap.size:=c.lt;have an:(i:Int) < (v:Int):=oM;have ah:(i:Int) < (m:Int):=oM;obtain ⟨r,O⟩:∃ r:Nat,r=p+s:=⟨_,rfl⟩;have e1:IntKind.i64.wrap ((p:Int)+(s:Int))=(r:Int):=(wJ).trans oM;have y1:p≤r:=oM;have y2:r≤N:=oM;have y3:r - p=s:=oM;have y4:¬ r=p:=oM;clear E F hx c hp y hf J V P Q i3 O;have H:=zW w;obtain ⟨W,C,Z,k1⟩:=nB w (tN 0 0 0 none 0 0) 29;replace H:=zN k1 H Z;replace a:=zF k1 a;obtain ⟨RR,n⟩:=zh2 (de R1.o k1) (au k1 CP.o);have l1:=zL C;clear Z k1;have cA:=fun j=>a.o.cell j;go_in
 go_upto_region 2 with (first
  | (refine lM 23 (.tmp 14) RR.o underlying23 ?_)
  | (refine sF 23 (.tmp 5) (.tmp 15) (sN g A B) ?_;intro b d k2;replace H:=zN k2 H d;replace a:=zF k2 a;replace n:=zH (au k2 n.o);clear d cA))
 have z2:=k2.size;clear C k2 RR R1 CP;have R5:=zH (fun z:Ext b=>aq (off:=0) (vs:=[.int .i64 g,.int .i64 A,.int .i64 B]) (H.o.2.ext z) rfl);have ca:∀ z:Ext b,z.1.cell? ⟨l,1,none⟩=some (.slice (some ⟨d,U,none⟩) m D):=fun z=>(a.o.ext z).cell 1;have cb:∀ z:Ext b,z.1.cell? ⟨d,U+i,none⟩=some (.int .i64 p):=fun z=>au z.2 n.o;have E1:=zH (fun z:Ext b=>aB z (G.o z.1));try simp only [pX]
 refine am b kM kM (qB _ _) ?_;repeat (go_big_quiet_step (fail))
 refine aj kM 23 (.tmp 5) rfl W.heap.size 0 rfl _ _ (by rintro _ ⟨z,rfl⟩;exact R5.o z) underlying23 rfl kM ?_;simp only [pX];repeat (go_big_quiet_step ((with_reducible exact E1.o _)))
 refine wpQuiet_nil ?_;rintro wa ⟨⟨_,c⟩,rfl⟩;obtain ⟨H,a⟩:=uz2 c H a;clear c R5 ca cb E1 n G;have zz:=H.o.2.lt;go_wp2_with fail;refine wp_region_held_drew (S:=fun w'=>w'.cell? ⟨l,3,none⟩=some (.slice (some ⟨q,0,none⟩) N N)∧Blk w' l 151 (rmC (some ⟨b1,o1,none⟩) v I (some ⟨d,U,none⟩) m D sz q N)∧Blk w' W.heap.size 23 (sN g A B)∧Below w w w') kM ?_ (fun t=>?_)
 ·exact ⟨a.o.drew.cell 3,a.o.drew,H.o.2.drew,H.o.1.1.out.drew⟩
 refine tkH 0 rfl (yB 23 (.tmp 5) W (fun w y=>y.2.2.1) underlying23) t ?_;try simp only [pX]
 refine kH' 1 t ?_;refine kH' 2 t ?_;refine kH' 3 t ?_;refine kH' 4 t ?_;refine kH' 5 t ?_;refine kH' 6 t ?_;refine kH' 7 t ?_;refine kH' 8 t ?_;refine kH' 9 t ?_;refine rH 10 rfl (fun K hK=>?_)
 (rw [if_pos (by rfl)];refine oG (tN g A B (some ⟨q,p,none⟩) s s) H.o.1.2.drew ?_;intro w7 B7 L;have f:=t.2.1.away L oM;refine hK.out _ _ ⟨f.cell 3,f,t.2.2.1.away L oM,t.2.2.2.grown L t.2.2.2.size (fun k h=>by have:=sI h;omega)⟩ (fun t=>?_))
 clear hK K;try simp only [pX]
 refine wpAnyH_done kM ?_ _;have FZ:=t.2.2.2;go_wp2_with fail;refine ret_cell rfl B7 rfl underlying29 kM rfl ?_;exact ⟨rfl,FZ⟩
theorem og {w:World} {base q N:Nat} {L:List Int} (t:Own (ab .i8) w (fun _=>False) base 80 (.slice (some ⟨q,0,none⟩) N N) N L) (p s:Nat) (h:p+s≤N):xA w (some ⟨q,p,none⟩) s s ((L.drop p).take s):=by
 obtain ⟨A,c,e,sl⟩:=t.sl (S':=blo w) dM (fun b _ h=>h) (fun _ h=>h.elim);injection e with e e2 e3
 subst e e3;have:=sl.sub p s p s (by rw [show (ab .i8).size=1 from rfl,Nat.mul_one]) h (lR _) oM;rwa [Nat.zero_add] at this
theorem Aa {w:World} {S:Nat → Prop} {A:QA} {n c:Nat} {l:List Int} (h:Sl (ab .i8) w S A n c l) (m:1≤n):∃ a:Addr,A=some a∧(∀ x ∈ l,InK .i8 x)∧∀ j,j < l.length → w.cell? (a.add j)=some (.int .i8 (l.getD j 0)):=by
 have f:=h.n_eq;obtain ⟨b,o,e,-⟩:=h.int_at 0 oM;refine ⟨_,e,fun x r=>?_,fun j i=>?_⟩
 ·obtain ⟨j,i,rfl⟩:=List.getElem_of_mem r;have:=h.allK j;rwa [gD,List.getElem?_eq_getElem i] at this
 ·obtain ⟨d,y,t,-,-,s,-⟩:=h.int_at j oM;rw [e] at t;injection t with t
  injection t with e1 e2 e3
  subst e1 e2;rw [show (⟨b,o,none⟩:Addr).add j=⟨b,o+j,none⟩ by unfold Addr.add;split <;> simp_all <;> omega];exact s
theorem nU {w w':World} (h:Below w w w') (row:Option Nat):w.grownBy w' row:=⟨h.os,h.tape,h.output,h.size,fun b e _=>h.block b e⟩
theorem AC (gr:Nat) (A1:QA) (M c1:Nat) (A2:QA) (m2 c2:Nat) (sz:Int) (q N base:Nat) (sl:List Sh3) (al L:List Int) (w:World) (s:Blk w gr 151 (rmC A1 M c1 A2 m2 c2 sz q N)) (f:Sl dg w (blo w) A1 M c1 sl) (A:Sl (ab .i64) w (blo w) A2 m2 c2 al)
  (U:Own (ab .i8) w (fun _=>False) base 80 (.slice (some ⟨q,0,none⟩) N N) N L) (hN:N≤1073741824)
  (d:af) (W:QA) (nw cw:Nat) (B:QA) (nb cb:Nat) (hd:aQ d) (hw:xA w W nw cw d.w) (T:xB w B nb cb d.bias) (mw:nw≤2000∧nb≤200)
  (x:ae) (l:Int) (i ia ib:Nat) (bn:d.a=ia) (bs:ar d=ib) (O P:ae) (bh:O.ok=true) (br:P.ok=true)
  (la:ia < M∧ia < m2) (lb:ib < M∧ib < m2) (li:i+1 < M∧i+1 < m2) (pa pb po sa sb G:Nat)
  (xa:sl.getD ia (0,0,0)=(O.h,O.v,O.c)) (xb:sl.getD ib (0,0,0)=(P.h,P.v,P.c)) (xo:Sh3) (bd:sl.getD (i+1) (0,0,0)=xo)
  (ea:ag O.h O.v O.c=sa) (eb:ag P.h P.v P.c=sb) (eo:ag xo.1 xo.2.1 xo.2.2=G) (za:1≤sa) (zb:1≤sb) (zo:l=0 → 1≤G)
  (ya:al.getD ia 0=pa) (yb:al.getD ib 0=pb) (yo:al.getD (i+1) 0=po) (fa:pa+sa≤N) (fb:pb+sb≤N) (fo:po+G≤N)
  (va:(L.drop pa).take sa=O.data) (vb:(L.drop pb).take sb=P.data) (hx:fA d O P=(x,l)) (bl:l=0 → x.data.length=G) :
  Calls prog 64 #[.pointer (some ⟨gr,0,none⟩),.int .i64 i,.agg (nD d W nw cw B nb cb)] w fun e w'=>e=.returned (.int .i64 l)∧Own (ab .i8) w' (fun _=>False) base 80 (.slice (some ⟨q,0,none⟩) N N) N (if l=0 then splice L po x.data else L)∧w.grownBy w' (some q):=by
 have ka:=pf bh;have kb:=pf br;obtain ⟨VA,VB,VO,Z⟩:=zh4 (fun w s f A=>j9 gr A1 M c1 A2 m2 c2 sz q N sl al w s f A ia _ xa la.1 la.2 pa sa ya ea za fa hN) (fun w s f A=>j9 gr A1 M c1 A2 m2 c2 sz q N sl al w s f A ib _ xb lb.1 lb.2 pb sb yb eb zb fb hN) (fun w s f A (zo:1≤G)=>j9 gr A1 M c1 A2 m2 c2 sz q N sl al w s f A (i+1) _ bd li.1 li.2 po G yo eo zo fo hN) (fun w hw T ha bp=>vD d W nw cw B nb cb O P (some ⟨q,pa,none⟩) (some ⟨q,pb,none⟩) sa sa sb sb w ka kb hd hw T ha bp mw);rw [hx] at Z;unfold aT at Z;have HI:=zH (And.intro bn bs);clear bn bs;simp only at Z;have an:=og U pa sa fa;have ah:=og U pb sb fb;rw [va] at an;rw [vb] at ah;have ZO:=zH zo;clear zo;have KF:=zH (show (d.kind=6 → ar d=d.b)∧(d.kind ≠ 6 → ar d=d.a) from ⟨fun h=>if_pos h,fun h=>if_neg h⟩);have H:=zW w;obtain ⟨C,bw,BN,k1⟩:=nB w (nD d W nw cw B nb cb) 84;have l1:=zL bw;replace H:=zF k1 H;obtain ⟨V,X,Y,HW,HB,HA,HC,OW⟩:=zh8 (s.fut k1) (f.fut k1) (A.fut k1) (hw.fut k1) (T.fut k1) (an.fut k1) (ah.fut k1) (U.below k1 (lR _) (fun _ h=>h.elim));have XS:=zH bl;have mx:M≤9223372036854775807:=lT f.cap_le f.max_le;have bx:i+1 < M:=li.1;clear k1 s f A U hw T an ah va vb xa xb bd hx bl bh br ka kb hd la lb li ea eb eo za zb ya yb yo fa fb;have gi:IntKind.i64.wrap ((i:Int)+1)=((i+1:Nat):Int):=(wJ).trans sM;have cA:=fun j=>BN.o.cell j;go_in
 go_upto_if 14 with fail
 clear bw;go_cut [7] (fun v wx=>v=.int .i64 (ar d)∧wx=C)
 case first =>
  by_cases c6:d.kind=6
  ·have t6:(d.kind == 6)=true:=by simp [c6]
   have C6:=zH c6;clear c6;go_wp2_with fail;go_meet
   case rel=>exact ⟨by rw [KF.o.1 C6.o],rfl⟩
  ·have t6:(d.kind == 6)=false:=by simpa using c6
   have C6:=zH c6;clear c6;go_wp2_with fail;go_meet
   case rel=>exact ⟨by rw [KF.o.2 C6.o],rfl⟩
 case rest =>
 obtain ⟨rfl,bg⟩:=hcut;subst wc;clear KF cA;rw [← HI.o.1] at VA;rw [← HI.o.2] at VB
 go_upto_region 4 with fail
 go_cut [8,9] (fun b c wx=>∃ g D p z,b=.pointer (some ⟨g,0,none⟩)∧c=.int .i64 l∧Blk wx g 29 (tN x.h x.v x.c D p z)∧Sl (ab .i8) wx (bin C wx) D p z x.data∧Below C C wx)
 case first =>
  refine wp_region_held_drew (S:=fun w'=>w'.cell? ⟨w.heap.size,1,none⟩=some (.int .i64 d.a)∧Blk w' w.heap.size 84 (nD d W nw cw B nb cb)∧Below C C w') kM ?_ (fun t=>?_)
  ·exact ⟨BN.o.drew.cell 1,BN.o.drew,(qB _ _).drew⟩
  refine tkH 0 rfl (yB 84 (.tmp 5) w (fun w hs=>hs.2.1) underlying84) t ?_;try simp only [pX]
  refine kH' 1 t ?_;refine kH' 2 t ?_;refine kH' 3 t ?_;refine kH' 5 t ?_;refine kH' 6 t ?_;refine wpAnyH_ready (rs:=[4,12]) kM sM ?_;refine AllReadyH.cons rfl (fun K n=>?_) (AllReadyH.cons rfl (fun K n=>?_) AllReadyH.nil)
  ·go_simp;refine qM (VA.o _ (V.o.fut t.2.2) (X.o.fut t.2.2) (Y.o.fut t.2.2)) fun wa s=>?_;refine xK n (zR s t) fun t=>?_;clear n K;refine wpAnyH_ready (rs:=[7,12]) kM sM ?_;refine AllReadyH.cons rfl (fun K n=>?_) (AllReadyH.cons rfl (fun K n=>?_) AllReadyH.nil)
   ·go_simp;refine qM (VB.o _ (V.o.fut t.2.2) (X.o.fut t.2.2) (Y.o.fut t.2.2)) fun wb s=>?_;refine xK n (zR s t) fun t=>?_;clear n K;refine wpAnyH_ready (rs:=[8,12]) kM sM ?_;refine AllReadyH.cons rfl (fun K n=>?_) (AllReadyH.cons rfl (fun K n=>?_) AllReadyH.nil)
    ·go_simp;have ay:=t.2.2.size;refine (Z.o _ (HW.o.fut t.2.2) (HB.o.fut t.2.2) (HA.o.fut t.2.2) (HC.o.fut t.2.2)).mono ?_;rintro e wc ⟨D,p,z,rfl,J,s⟩;have R:=zH J;have ac:=s.size;clear J;refine xK n (zR s t) fun t=>?_;clear n K;refine kH' 9 t ?_;refine kH' 10 t ?_;refine kH' 11 t ?_;refine rH 12 rfl (fun K n=>?_);go_simp;obtain ⟨s,r⟩:=zB wc (tN 0 0 0 none 0 0) 29;have ax:C.heap.size≤wc.heap.size:=t.2.2.size;replace R:=zH (R.o.keep fun b h=>s.block b h.2);refine xK n (zR s t) fun t=>?_;clear n K;refine rH 13 rfl (fun K n=>?_);rw [if_pos (by rfl)];refine oG (tN x.h x.v x.c D p z) r.o ?_;intro wd Q y;have F:=y.size;have E:=r.o.lt;try simp at F
     try simp at E
     have Q8:=zH (R.o.keep fun b h=>y.block b (by have f:=h.1;have A:=h.2;first|omega|(simp;omega)) (fun e=>by have:=sI e;have f:=h.1;have A:=h.2;first|omega|(simp at f;omega)));have m:=t.2.1.away y oM;refine n.out _ _ ⟨m.cell 1,m,t.2.2.grown y t.2.2.size (fun k h=>by have:=sI h;omega)⟩ (fun t=>?_);clear n K;try simp only [pX]
     refine kH' 14 t ?_;refine wpAnyH_done kM ?_ _;have I:=t.2.2;go_wp2_with fail;go_meet
     case rel=>exact ⟨_,D,p,z,rfl,rfl,Q,Q8.o.more (fun b h=>⟨by have:=h.1;omega,by have:=h.2;omega⟩),I⟩
    ·go_simp;obtain ⟨s,r⟩:=zB wb (tN 0 0 0 none 0 0) 29;have ax:C.heap.size≤wb.heap.size:=t.2.2.size;refine xK n (zR s t) fun t=>?_;clear n K;refine rH 8 rfl (fun K n=>?_);go_simp;have zG:=r.o.lt;have ay:=t.2.2.size;refine (Z.o _ (HW.o.fut t.2.2) (HB.o.fut t.2.2) (HA.o.fut t.2.2) (HC.o.fut t.2.2)).mono ?_;rintro e wc ⟨D,p,z,rfl,J,s⟩;have R:=zH J;have ac:=s.size;clear J;replace r:=zH (r.o.later s);refine xK n (zR s t) fun t=>?_;clear n K;refine kH' 9 t ?_;refine kH' 10 t ?_;refine kH' 11 t ?_;refine rH 13 rfl (fun K n=>?_);rw [if_pos (by rfl)];refine oG (tN x.h x.v x.c D p z) r.o ?_;intro wd Q y;have F:=y.size;have E:=r.o.lt;try simp at F
     try simp at E
     have Q8:=zH (R.o.keep fun b h=>y.block b (by have f:=h.1;have A:=h.2;first|omega|(simp;omega)) (fun e=>by have:=sI e;have f:=h.1;have A:=h.2;first|omega|(simp at f;omega)));have m:=t.2.1.away y oM;refine n.out _ _ ⟨m.cell 1,m,t.2.2.grown y t.2.2.size (fun k h=>by have:=sI h;omega)⟩ (fun t=>?_);clear n K;try simp only [pX]
     refine kH' 14 t ?_;refine wpAnyH_done kM ?_ _;have I:=t.2.2;go_wp2_with fail;go_meet
     case rel=>exact ⟨_,D,p,z,rfl,rfl,Q,Q8.o.more (fun b h=>⟨by have:=h.1;omega,by have:=h.2;omega⟩),I⟩
   ·go_simp;obtain ⟨s,r⟩:=zB wa (tN 0 0 0 none 0 0) 29;have ax:C.heap.size≤wa.heap.size:=t.2.2.size;refine xK n (zR s t) fun t=>?_;clear n K;refine rH 7 rfl (fun K n=>?_);go_simp;refine qM (VB.o _ (V.o.fut t.2.2) (X.o.fut t.2.2) (Y.o.fut t.2.2)) fun wb s=>?_;replace r:=zH (r.o.later s);refine xK n (zR s t) fun t=>?_;clear n K;refine rH 8 rfl (fun K n=>?_);go_simp;have zG:=r.o.lt;have ay:=t.2.2.size;refine (Z.o _ (HW.o.fut t.2.2) (HB.o.fut t.2.2) (HA.o.fut t.2.2) (HC.o.fut t.2.2)).mono ?_;rintro e wc ⟨D,p,z,rfl,J,s⟩;have R:=zH J;have ac:=s.size;clear J;replace r:=zH (r.o.later s);refine xK n (zR s t) fun t=>?_;clear n K;refine kH' 9 t ?_;refine kH' 10 t ?_;refine kH' 11 t ?_;refine rH 13 rfl (fun K n=>?_);rw [if_pos (by rfl)];refine oG (tN x.h x.v x.c D p z) r.o ?_;intro wd Q y;have F:=y.size;have E:=r.o.lt;try simp at F
    try simp at E
    have Q8:=zH (R.o.keep fun b h=>y.block b (by have f:=h.1;have A:=h.2;first|omega|(simp;omega)) (fun e=>by have:=sI e;have f:=h.1;have A:=h.2;first|omega|(simp at f;omega)));have m:=t.2.1.away y oM;refine n.out _ _ ⟨m.cell 1,m,t.2.2.grown y t.2.2.size (fun k h=>by have:=sI h;omega)⟩ (fun t=>?_);clear n K;try simp only [pX]
    refine kH' 14 t ?_;refine wpAnyH_done kM ?_ _;have I:=t.2.2;go_wp2_with fail;go_meet
    case rel=>exact ⟨_,D,p,z,rfl,rfl,Q,Q8.o.more (fun b h=>⟨by have:=h.1;omega,by have:=h.2;omega⟩),I⟩
  ·go_simp;have s:Below C.drew.heap.size C.drew (C.drew.alloc (.cells (tN 0 0 0 none 0 0) 29)):=(qB _ _).alloc (lR _) _;have r:=zH (Blk.now C.drew C.heap.size 29 (tN 0 0 0 none 0 0) rfl);have ax:C.heap.size≤C.heap.size:=t.2.2.size;refine xK n (zR s t) fun t=>?_;clear n K;refine rH 4 rfl (fun K n=>?_);go_simp;refine qM (VA.o _ (V.o.fut t.2.2) (X.o.fut t.2.2) (Y.o.fut t.2.2)) fun wa s=>?_;replace r:=zH (r.o.later s);refine xK n (zR s t) fun t=>?_;clear n K;refine rH 7 rfl (fun K n=>?_);go_simp;refine qM (VB.o _ (V.o.fut t.2.2) (X.o.fut t.2.2) (Y.o.fut t.2.2)) fun wb s=>?_;replace r:=zH (r.o.later s);refine xK n (zR s t) fun t=>?_;clear n K;refine rH 8 rfl (fun K n=>?_);go_simp;have zG:=r.o.lt;have ay:=t.2.2.size;refine (Z.o _ (HW.o.fut t.2.2) (HB.o.fut t.2.2) (HA.o.fut t.2.2) (HC.o.fut t.2.2)).mono ?_;rintro e wc ⟨D,p,z,rfl,J,s⟩;have R:=zH J;have ac:=s.size;clear J;replace r:=zH (r.o.later s);refine xK n (zR s t) fun t=>?_;clear n K;refine kH' 9 t ?_;refine kH' 10 t ?_;refine kH' 11 t ?_;refine rH 13 rfl (fun K n=>?_);rw [if_pos (by rfl)];refine oG (tN x.h x.v x.c D p z) r.o ?_;intro wd Q y;have F:=y.size;have E:=r.o.lt;try simp at F
   try simp at E
   have Q8:=zH (R.o.keep fun b h=>y.block b (by have f:=h.1;have A:=h.2;first|omega|(simp;omega)) (fun e=>by have:=sI e;have f:=h.1;have A:=h.2;first|omega|(simp at f;omega)));have m:=t.2.1.away y oM;refine n.out _ _ ⟨m.cell 1,m,t.2.2.grown y t.2.2.size (fun k h=>by have:=sI h;omega)⟩ (fun t=>?_);clear n K;try simp only [pX]
   refine kH' 14 t ?_;refine wpAnyH_done kM ?_ _;have I:=t.2.2;go_wp2_with fail;go_meet
   case rel=>exact ⟨_,D,p,z,rfl,rfl,Q,Q8.o.more (fun b h=>⟨by have:=h.1;omega,by have:=h.2;omega⟩),I⟩
 case rest =>
 obtain ⟨g,D,p,z,rfl,rfl,be,bt,k7⟩:=hcut;obtain ⟨Q,S7⟩:=zh2 be bt;obtain ⟨H,V,X,Y⟩:=uz4 k7 H V X Y;replace OW:=zH (OW.o.below k7 (lR _) (fun _ h=>h.elim));clear k7 bt be HW HB HA HC VA VB Z;by_cases c0:l=0
 ·subst c0;have xs:=XS.o rfl;have nn:=S7.o.n_eq;have zo:=ZO.o rfl;obtain ⟨ad,rfl,ba,bo⟩:=Aa S7.o oM;obtain ⟨X0,X2,X1,X3,XX⟩:=zh5 ba bo (show x.data.length=Nat.min p G by rw [nn,← xs,nn];exact (Nat.min_self _).symm) (show po+x.data.length≤N by omega) (And.intro xs nn);clear ba bo xs nn S7 XS;have bb:∀ w:World,(Instr.field 29 (.agg (tN xo.1 xo.2.1 xo.2.2 (some ⟨q,po,none⟩) G G)) 1).run prog w=.ok (.slice (some ⟨q,po,none⟩) G G) w:=fun _=>by kernel_rfl
  go_upto_region 6 with fail
  refine wp_region_any kM ?_;refine wpAny_take (i:=0) (v:=?_) rfl (by as_aux_lemma=>kernel_rfl) (by as_aux_lemma=>kernel_rfl) (by as_aux_lemma=>kernel_rfl) (fun _ _ _ h=>h) (Or.inl ⟨by rfl,?_⟩) ?_;rotate_left
  ·intro w;go_simp;try with_reducible rfl
  try simp only [pX]
  refine wpAny_take (i:=1) (v:=?_) rfl (by as_aux_lemma=>kernel_rfl) (by as_aux_lemma=>kernel_rfl) (by as_aux_lemma=>kernel_rfl) (fun _ _ _ h=>h) (Or.inl ⟨by rfl,?_⟩) ?_;rotate_left
  ·intro w;go_simp;try with_reducible rfl
  try simp only [pX]
  refine wpAny_take (i:=2) (v:=?_) rfl (by as_aux_lemma=>kernel_rfl) (by as_aux_lemma=>kernel_rfl) (by as_aux_lemma=>kernel_rfl) (fun _ _ _ h=>h) (Or.inl ⟨by rfl,?_⟩) ?_;rotate_left
  ·intro w;go_simp;try with_reducible rfl
  try simp only [pX]
  refine wpAny_take (i:=5) (v:=?_) rfl (by as_aux_lemma=>kernel_rfl) (by as_aux_lemma=>kernel_rfl) (by as_aux_lemma=>kernel_rfl) (fun _ _ _ h=>h) (Or.inl ⟨by rfl,?_⟩) ?_;rotate_left
  ·intro w;go_simp;try with_reducible rfl
  try simp only [pX]
  refine wpAny_enterT (fun w'=>w'.cell? ⟨g,3,none⟩=some (.slice (some ad) p z)∧Below wc wc w') 7 ?_ (fun t=>?_)
  ·exact ⟨Q.o.drew.cell 3,(qB _ _).drew⟩
  refine kT' 6 t ?_;refine rT 3 (fun K n=>?_);go_simp;refine qM (VO.o _ (V.o.fut t.2) (X.o.fut t.2) (Y.o.fut t.2) zo) fun wv s=>?_;refine xK n (by first|exact zR s t|exact ⟨au s t.1,aa s t.2⟩|exact aa s t|exact au s t) fun t=>?_;clear n K;refine kT' 4 t ?_;refine wpAnyT_tail _ _ rfl rfl kM ?_;have O3:=OW.o.below t.2 (lR _) (fun _ h=>h.elim);refine jO (k:=.i8) rfl (.tmp 35) (.tmp 37) 27 27 rfl 80 underlying27 kM O3 po G G rfl ad p z rfl x.data X0.o X1.o (fun j hj=>au t.2 (X2.o j hj)) X3.o ?_;intro w4 bc g4;have I:=((nU H.o.out (some q)).trans (nU t.2 _)).trans g4;go_wp2;go_ret;exact ⟨rfl,bc,I⟩
 ·have t0:(l == 0)=false:=by simpa using c0
  have C0:=zH c0;clear c0;have I:=nU H.o.out (some q);go_wp2;go_ret;exact ⟨rfl,OW.o,I⟩
end Go.Proofs.YtbecbfpoahhpnaaGreat
