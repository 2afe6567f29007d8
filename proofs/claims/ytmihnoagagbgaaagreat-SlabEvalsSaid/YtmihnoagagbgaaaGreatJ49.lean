/-
  What a node makes (layer 26): the document's Node.
  The document's values of a block's nodes (layer 27).
  What the law SlabEvals stands on: the contracts of the base.
-/
import Derived.Test.YtmihnoagagbgaaaGreatJ47
import Derived.Test.YtmihnoagagbgaaaGreatJ48
set_option linter.unusedVariables false
set_option linter.unusedSimpArgs false
set_option maxRecDepth 100000
set_option maxHeartbeats 16000000
namespace Go.Proofs.YtmihnoagagbgaaaGreat
open Go.RowKit Go.ChangeShapes Go.WideShapes Tryz
set_option maxRecDepth 100000
set_option maxHeartbeats 16000000
def iV (S:Nat → Prop) (k:IntKind) (x:ae) (code:Int) (w:World) (e:Ending) (w':World):Prop :=
 ∃ A n cap,e=.returned (.tuple #[.agg (tN x.h x.v x.c A n cap),.int .i64 code])∧Sl (aa k) w' (fun b=>S b ∨ bin w w' b) A n cap x.data∧Below w w w'
theorem iV.none {S:Nat → Prop} {k:IntKind} {code:Int} {w w':World} (hb:Below w w w'):iV S k aj code w (.returned (.tuple #[.agg (tN 0 0 0 none 0 0),.int .i64 code])) w' :=
 ⟨Option.none,0,0,rfl,Sl.nil _ _ _,hb⟩
theorem pO:eO true=dG:=rfl
theorem nV:eO false=cP:=rfl
theorem mK (SS:Nat → Prop) (d:af) (W:QA) (nw cw:Nat) (B:QA) (nb cb:Nat) (a b:ae) (A A':QA) (n cap n' cap':Nat) (w:World) (ht:ak a) (hu:ak b) (hd:aE d)
  (hw:xA w W nw cw d.w) (hbi:xB w B nb cb d.bias) (ha:xA w A n cap a.data) (hbs:xA w A' n' cap' b.data) (mw:nw≤2000∧nb≤200) (hSa:Sl (aa .i8) w SS A n cap a.data) (hSb:∀ b,SS b → b < w.heap.size) :
  Calls prog 17 #[.agg (nD d W nw cw B nb cb),.agg (tN a.h a.v a.c A n cap),.agg (tN b.h b.v b.c A' n' cap')] w (iV SS .i8 (dn d a b).1 (dn d a b).2 w):=by
 have HSS:=zH (And.intro hSa hSb)
 have HW:=zH hw
 have HB:=zH hbi
 have HA:=zH ha
 have HB2:=zH hbs
 have CK:=zH (fun w hw hb=>jB d W nw cw B nb cb w hw hb oM oM)
 have c1':decide (0 < ab a.h a.v a.c∧ab a.h a.v a.c=n)=a.ok:=by unfold ae.ok;rw [HA.o.n_eq]
 have RA:=zH (fun w=>aF a.h a.v a.c A n cap w ht.h ht.v ht.c (lT ha.cap_le ha.max_le))
 rw [c1'] at RA
 have en:a.data.length=n:=ha.n_eq
 have NQ:=zH (show dn d a b=if ¬ bu d=0 then (aj,bu d) else if a.ok=false then (aj,5) else if d.kind=4 then a8 dG a d else if d.kind=5 then a8 cP a d else if d.kind=6 then dH a b d else if d.kind=7 then eC a d else if d.kind=8 then ij a d.p d.za else if d.kind=9 then (⟨1,1,n,a.data⟩,0) else iw a d by unfold dn;rw [en])
 obtain ⟨x,hx⟩:∃ x,dn d a b=x:=⟨_,rfl⟩
 rw [hx] at NQ ⊢
 have FR:=zW w
 obtain ⟨w1,w2,w3,w4,yw1,yw2,yw3,yw4,l1,l2,l3,l4,BN,BA,BB,BR,yk4⟩:=bk4 w (nD d W nw cw B nb cb) 42 (tN a.h a.v a.c A n cap) 27 (tN b.h b.v b.c A' n' cap') 27 (tN 0 0 0 none 0 0) 27
 replace FR:=zF yk4 FR
 clear yk4
 have HM:=zH (And.intro ht (And.intro hu (And.intro hd mw)))
 have mxa:n≤9223372036854775807:=lT ha.cap_le ha.max_le
 have hok0:=zH (show a.ok=true → a.ok=true from id)
 clear c1' en hx ht hu hd hw hbi ha hbs mw hSa hSb
 obtain ⟨ck,hck⟩:∃ k,bu d=k:=⟨_,rfl⟩
 rw [hck] at CK NQ
 clear hck
 by_cases q1:¬ ck=0
 ·rw [if_pos q1] at NQ
  rw [NQ.o]
  have hk2:(ck != 0)=true:=by rw [bne_iff_ne];exact q1
  clear q1 NQ
  go_in
  go_wp2_with (first|(refine lGJ19 BN.o ?_)|(go_at_call 26;refine qM (CK.o _ (zO HW FR) (zO HB FR)) fun w5 hb=>?_;have l5:=hb.size;obtain ⟨FR,BN,BA,BB,BR⟩:=uz5 hb FR BN BA BB BR;clear hb yw1 yw2 yw3 yw4)|(refine sGJ19 (tN 0 0 0 none 0 0) BR.o ?_;intro w9 B9 g9))
  refine rG B9 ?_
  exact iV.none (FR.o.away g9 oM).out
 rw [if_neg q1] at NQ
 rw [Decidable.not_not] at q1
 subst q1
 by_cases q2:a.ok=false
 ·rw [if_pos q2] at NQ
  rw [q2] at RA
  rw [NQ.o]
  clear q2 NQ
  go_in
  go_wp2_with (first|(refine lGJ19 BN.o ?_)|(go_at_call 26;refine qM (CK.o _ (zO HW FR) (zO HB FR)) fun w5 hb=>?_;have l5:=hb.size;obtain ⟨FR,BN,BA,BB,BR⟩:=uz5 hb FR BN BA BB BR;clear hb yw1 yw2 yw3 yw4)|(refine lGJ19 BA.o ?_)|(go_at_call 15;refine qM (RA.o _) fun w6 hb=>?_;have l6:=hb.size;obtain ⟨FR,BN,BA,BB,BR⟩:=uz5 hb FR BN BA BB BR;clear hb)|(refine sGJ19 (tN 0 0 0 none 0 0) BR.o ?_;intro w9 B9 g9))
  refine rG B9 ?_
  exact iV.none (FR.o.away g9 oM).out
 rw [if_neg q2] at NQ
 rw [Bool.not_eq_false] at q2
 rw [q2] at RA
 have C1:=zH q2
 by_cases k4:d.kind=4
 ·rw [if_pos k4] at NQ
  have S:=zH (show ∀ w,xA w A n cap a.data → Calls prog 29 #[.agg (tN a.h a.v a.c A n cap),.agg (nD d W nw cw B nb cb),.bool true] w (ar .i8 (a8 dG a d).1 (a8 dG a d).2 w) from fun w ha=>by have q:=ku true a A n cap d W nw cw B nb cb w ha C1.o;rw [pO] at q;exact q)
  rw [← NQ.o] at S
  have KE:=zH k4
  clear k4  NQ q2
  go_in
  go_wp2_with (first|(refine lGJ19 BN.o ?_)|(go_at_call 26;refine qM (CK.o _ (zO HW FR) (zO HB FR)) fun w5 hb=>?_;have l5:=hb.size;obtain ⟨FR,BN,BA,BB,BR⟩:=uz5 hb FR BN BA BB BR;clear hb yw1 yw2 yw3 yw4)|(refine lGJ19 BA.o ?_)|(go_at_call 15;refine qM (RA.o _) fun w6 hb=>?_;have l6:=hb.size;obtain ⟨FR,BN,BA,BB,BR⟩:=uz5 hb FR BN BA BB BR;clear hb;have c0:=BN.o.cell 0;simp only [gX] at c0;rw [KE.o] at c0))
  refine (S.o _ (zO HA FR)).mono ?_
  rintro e wm ⟨RA,rn,rc,rfl,rs,hb⟩
  have RS:=zH (show New w6 (aa .i8) wm RA rn rc x.1.data from ⟨rs⟩)
  have lbr:=BR.o.lt
  have lfr:=FR.o.size
  obtain ⟨BR,FR⟩:=uz2 hb BR FR
  clear hb rs c0
  go_wp2_with (refine sGJ19 (tN x.1.h x.1.v x.1.c RA rn rc) BR.o ?_;intro w9 B9 g9)
  refine rG B9 ?_
  exact ⟨RA,rn,rc,rfl,(RS.o.away g9 lbr).out.more fun b h=>.inr ⟨by have:=h.1;omega,h.2⟩,(FR.o.away g9 oM).out⟩
 rw [if_neg k4] at NQ
 have t4:(d.kind == 4)=false:=by simpa using k4
 by_cases k5:d.kind=5
 ·rw [if_pos k5] at NQ
  have S:=zH (show ∀ w,xA w A n cap a.data → Calls prog 29 #[.agg (tN a.h a.v a.c A n cap),.agg (nD d W nw cw B nb cb),.bool false] w (ar .i8 (a8 cP a d).1 (a8 cP a d).2 w) from fun w ha=>by have q:=ku false a A n cap d W nw cw B nb cb w ha C1.o;rw [nV] at q;exact q)
  rw [← NQ.o] at S
  have KE:=zH k5
  clear k5  k4 t4 NQ q2
  go_in
  go_wp2_with (first|(refine lGJ19 BN.o ?_)|(go_at_call 26;refine qM (CK.o _ (zO HW FR) (zO HB FR)) fun w5 hb=>?_;have l5:=hb.size;obtain ⟨FR,BN,BA,BB,BR⟩:=uz5 hb FR BN BA BB BR;clear hb yw1 yw2 yw3 yw4)|(refine lGJ19 BA.o ?_)|(go_at_call 15;refine qM (RA.o _) fun w6 hb=>?_;have l6:=hb.size;obtain ⟨FR,BN,BA,BB,BR⟩:=uz5 hb FR BN BA BB BR;clear hb;have c0:=BN.o.cell 0;simp only [gX] at c0;rw [KE.o] at c0))
  refine (S.o _ (zO HA FR)).mono ?_
  rintro e wm ⟨RA,rn,rc,rfl,rs,hb⟩
  have RS:=zH (show New w6 (aa .i8) wm RA rn rc x.1.data from ⟨rs⟩)
  have lbr:=BR.o.lt
  have lfr:=FR.o.size
  obtain ⟨BR,FR⟩:=uz2 hb BR FR
  clear hb rs c0
  go_wp2_with (refine sGJ19 (tN x.1.h x.1.v x.1.c RA rn rc) BR.o ?_;intro w9 B9 g9)
  refine rG B9 ?_
  exact ⟨RA,rn,rc,rfl,(RS.o.away g9 lbr).out.more fun b h=>.inr ⟨by have:=h.1;omega,h.2⟩,(FR.o.away g9 oM).out⟩
 rw [if_neg k5] at NQ
 have t5:(d.kind == 5)=false:=by simpa using k5
 by_cases k6:d.kind=6
 ·rw [if_pos k6] at NQ
  have S:=zH (fun w ha hbs=>oh a b A A' n cap n' cap' d W nw cw B nb cb w HM.o.1 HM.o.2.1 HM.o.2.2.1 ha hbs C1.o)
  rw [← NQ.o] at S
  have KE:=zH k6
  clear k6  k4 t4 k5 t5 NQ q2
  go_in
  go_wp2_with (first|(refine lGJ19 BN.o ?_)|(go_at_call 26;refine qM (CK.o _ (zO HW FR) (zO HB FR)) fun w5 hb=>?_;have l5:=hb.size;obtain ⟨FR,BN,BA,BB,BR⟩:=uz5 hb FR BN BA BB BR;clear hb yw1 yw2 yw3 yw4)|(refine lGJ19 BA.o ?_)|(go_at_call 15;refine qM (RA.o _) fun w6 hb=>?_;have l6:=hb.size;obtain ⟨FR,BN,BA,BB,BR⟩:=uz5 hb FR BN BA BB BR;clear hb;have c0:=BN.o.cell 0;simp only [gX] at c0;rw [KE.o] at c0)|(refine lGJ19 BB.o ?_))
  refine (S.o _ (zO HA FR) (zO HB2 FR)).mono ?_
  rintro e wm ⟨RA,rn,rc,rfl,rs,hb⟩
  have RS:=zH (show New w6 (aa .i8) wm RA rn rc x.1.data from ⟨rs⟩)
  have lbr:=BR.o.lt
  have lfr:=FR.o.size
  obtain ⟨BR,FR⟩:=uz2 hb BR FR
  clear hb rs c0
  go_wp2_with (refine sGJ19 (tN x.1.h x.1.v x.1.c RA rn rc) BR.o ?_;intro w9 B9 g9)
  refine rG B9 ?_
  exact ⟨RA,rn,rc,rfl,(RS.o.away g9 lbr).out.more fun b h=>.inr ⟨by have:=h.1;omega,h.2⟩,(FR.o.away g9 oM).out⟩
 rw [if_neg k6] at NQ
 have t6:(d.kind == 6)=false:=by simpa using k6
 by_cases k7:d.kind=7
 ·rw [if_pos k7] at NQ
  have S:=zH (fun w ha=>pR a A n cap d W nw cw B nb cb w HM.o.1 HM.o.2.2.1 ha C1.o)
  rw [← NQ.o] at S
  have KE:=zH k7
  clear k7  k4 t4 k5 t5 k6 t6 NQ q2
  go_in
  go_wp2_with (first|(refine lGJ19 BN.o ?_)|(go_at_call 26;refine qM (CK.o _ (zO HW FR) (zO HB FR)) fun w5 hb=>?_;have l5:=hb.size;obtain ⟨FR,BN,BA,BB,BR⟩:=uz5 hb FR BN BA BB BR;clear hb yw1 yw2 yw3 yw4)|(refine lGJ19 BA.o ?_)|(go_at_call 15;refine qM (RA.o _) fun w6 hb=>?_;have l6:=hb.size;obtain ⟨FR,BN,BA,BB,BR⟩:=uz5 hb FR BN BA BB BR;clear hb;have c0:=BN.o.cell 0;simp only [gX] at c0;rw [KE.o] at c0))
  refine (S.o _ (zO HA FR)).mono ?_
  rintro e wm ⟨RA,rn,rc,rfl,rs,hb⟩
  have RS:=zH (show New w6 (aa .i8) wm RA rn rc x.1.data from ⟨rs⟩)
  have lbr:=BR.o.lt
  have lfr:=FR.o.size
  obtain ⟨BR,FR⟩:=uz2 hb BR FR
  clear hb rs c0
  go_wp2_with (refine sGJ19 (tN x.1.h x.1.v x.1.c RA rn rc) BR.o ?_;intro w9 B9 g9)
  refine rG B9 ?_
  exact ⟨RA,rn,rc,rfl,(RS.o.away g9 lbr).out.more fun b h=>.inr ⟨by have:=h.1;omega,h.2⟩,(FR.o.away g9 oM).out⟩
 rw [if_neg k7] at NQ
 have t7:(d.kind == 7)=false:=by simpa using k7
 by_cases k8:d.kind=8
 ·rw [if_pos k8] at NQ
  have KE:=zH k8
  have MA:=zH (fun w ha=>oo a A n cap d.p w HM.o.1 ha C1.o)
  unfold ij at NQ
  by_cases hp:d.p < 0 ∨ 4 < d.p
  ·rw [if_pos hp] at MA NQ
   rw [NQ.o]
   clear k8  k4 t4 k5 t5 k6 t6 k7 t7 NQ q2 hp
   go_in
   go_wp2_with (first|(refine lGJ19 BN.o ?_)|(go_at_call 26;refine qM (CK.o _ (zO HW FR) (zO HB FR)) fun w5 hb=>?_;have l5:=hb.size;obtain ⟨FR,BN,BA,BB,BR⟩:=uz5 hb FR BN BA BB BR;clear hb yw1 yw2 yw3 yw4)|(refine lGJ19 BA.o ?_)|(go_at_call 15;refine qM (RA.o _) fun w6 hb=>?_;have l6:=hb.size;obtain ⟨FR,BN,BA,BB,BR⟩:=uz5 hb FR BN BA BB BR;clear hb;have c0:=BN.o.cell 0;simp only [gX] at c0;rw [KE.o] at c0;obtain ⟨c5,c7⟩:=uc2 BN 5 7;simp only [gX] at c5 c7)|(go_at_call 32;refine qM (MA.o _ (zO HA FR)) fun w7 hb=>?_;have l7:=hb.size;obtain ⟨FR,BN,BA,BB,BR⟩:=uz5 hb FR BN BA BB BR;clear hb c0 c5 c7;obtain ⟨c5,c7⟩:=uc2 BN 5 7;simp only [gX] at c5 c7)|(refine sGJ19 (tN 0 0 0 none 0 0) BR.o ?_;intro w9 B9 g9))
   refine rG B9 ?_
   exact iV.none (FR.o.away g9 oM).out
  ·rw [if_neg hp] at MA NQ
   obtain ⟨H,V,C,TK⟩:=cY C1.o
   have en:a.data.length=n:=HA.o.n_eq
   rw [en] at TK
   have hpn:(d.p.toNat:Int)=d.p:=oM
   have S:=zH (fun w ha=>oq a H V C d.p.toNat A n cap d.za w ha TK oM HM.o.2.2.1.za)
   rw [← TK.h,← TK.v,← TK.c,hpn,← NQ.o] at S
   clear k8  k4 t4 k5 t5 k6 t6 k7 t7 NQ q2 hp TK hpn en
   go_in
   go_wp2_with (first|(refine lGJ19 BN.o ?_)|(go_at_call 26;refine qM (CK.o _ (zO HW FR) (zO HB FR)) fun w5 hb=>?_;have l5:=hb.size;obtain ⟨FR,BN,BA,BB,BR⟩:=uz5 hb FR BN BA BB BR;clear hb yw1 yw2 yw3 yw4)|(refine lGJ19 BA.o ?_)|(go_at_call 15;refine qM (RA.o _) fun w6 hb=>?_;have l6:=hb.size;obtain ⟨FR,BN,BA,BB,BR⟩:=uz5 hb FR BN BA BB BR;clear hb;have c0:=BN.o.cell 0;simp only [gX] at c0;rw [KE.o] at c0;obtain ⟨c5,c7⟩:=uc2 BN 5 7;simp only [gX] at c5 c7)|(go_at_call 32;refine qM (MA.o _ (zO HA FR)) fun w7 hb=>?_;have l7:=hb.size;obtain ⟨FR,BN,BA,BB,BR⟩:=uz5 hb FR BN BA BB BR;clear hb c0 c5 c7;obtain ⟨c5,c7⟩:=uc2 BN 5 7;simp only [gX] at c5 c7))
   refine (S.o _ (zO HA FR)).mono ?_
   rintro e wm ⟨RA,rn,rc,rfl,rs,hb⟩
   have RS:=zH (show New w7 (aa .i8) wm RA rn rc x.1.data from ⟨rs⟩)
   have lbr:=BR.o.lt
   have lfr:=FR.o.size
   obtain ⟨BR,FR⟩:=uz2 hb BR FR
   clear hb rs c5 c7
   go_wp2_with (refine sGJ19 (tN x.1.h x.1.v x.1.c RA rn rc) BR.o ?_;intro w9 B9 g9)
   refine rG B9 ?_
   exact ⟨RA,rn,rc,rfl,(RS.o.away g9 lbr).out.more fun b h=>.inr ⟨by have:=h.1;omega,h.2⟩,(FR.o.away g9 oM).out⟩
 rw [if_neg k8] at NQ
 have t8:(d.kind == 8)=false:=by simpa using k8
 by_cases k9:d.kind=9
 ·rw [if_pos k9] at NQ
  have KE:=zH k9
  rw [NQ.o]
  clear k9  k4 t4 k5 t5 k6 t6 k7 t7 k8 t8 NQ q2
  go_in
  go_wp2_with (first|(refine lGJ19 BN.o ?_)|(go_at_call 26;refine qM (CK.o _ (zO HW FR) (zO HB FR)) fun w5 hb=>?_;have l5:=hb.size;obtain ⟨FR,BN,BA,BB,BR⟩:=uz5 hb FR BN BA BB BR;clear hb yw1 yw2 yw3 yw4)|(refine lGJ19 BA.o ?_)|(go_at_call 15;refine qM (RA.o _) fun w6 hb=>?_;have l6:=hb.size;obtain ⟨FR,BN,BA,BB,BR⟩:=uz5 hb FR BN BA BB BR;clear hb;have c0:=BN.o.cell 0;simp only [gX] at c0;rw [KE.o] at c0;have a3:=BA.o.cell 3;simp only [gX] at a3)|(refine sGJ19 (tN 1 1 n A n cap) BR.o ?_;intro w9 B9 g9))
  refine rG B9 ?_
  have FE:=FR.o.away g9 oM
  exact ⟨A,n,cap,rfl,(HSS.o.1.keep fun b h=>FE.out.block b (HSS.o.2 b h)).more fun b h=>.inl h,FE.out⟩
 rw [if_neg k9] at NQ
 have t9:(d.kind == 9)=false:=by simpa using k9
 have SM:=zH (fun w ha hw hb=>ou a A n cap d W nw cw B nb cb w HM.o.1 HM.o.2.2.1 ha hw hb HM.o.2.2.2)
 have SN:=zH (jU a d)
 unfold iw at NQ
 obtain ⟨⟨y,k⟩,hy⟩:∃ q,bX a d=q:=⟨_,rfl⟩
 rw [hy] at SM SN NQ
 have HX:=zH (show (if k=0 then fa y d else (aj,k))=x from NQ.o.symm)
 clear k4 k5 k6 k7 k8 k9 NQ q2 hy
 go_in
 go_wp2_with (first|(refine lGJ19 BN.o ?_)|(go_at_call 26;refine qM (CK.o _ (zO HW FR) (zO HB FR)) fun w5 hb=>?_;have l5:=hb.size;obtain ⟨FR,BN,BA,BB,BR⟩:=uz5 hb FR BN BA BB BR;clear hb yw1 yw2 yw3 yw4)|(refine lGJ19 BA.o ?_)|(go_at_call 15;refine qM (RA.o _) fun w6 hb=>?_;have l6:=hb.size;obtain ⟨FR,BN,BA,BB,BR⟩:=uz5 hb FR BN BA BB BR;clear hb;have c0:=BN.o.cell 0;simp only [gX] at c0))
 refine (SM.o _ (zO HA FR) (zO HW FR) (zO HB FR)).mono ?_
 rintro e w7 ⟨RA,rn,rc,rfl,rs,hb⟩
 have RS:=zH (show New w6 (aa .i32) w7 RA rn rc y.data from ⟨rs⟩)
 have ern:=rs.n_eq
 have l7:=hb.size
 clear rs c0
 obtain ⟨FR,BN,BA,BR⟩:=uz4 hb FR BN BA BR
 clear hb
 obtain ⟨w8,yw8,BX,yk8⟩:=nB w7 (tN y.h y.v y.c RA rn rc) 80
 obtain ⟨FR,BN,BA,BR,RS⟩:=uz5 yk8 FR BN BA BR RS
 clear yk8
 have l8:=zL yw8
 by_cases k0:k=0
 ·subst k0
  have hx:=HX.o
  rw [if_pos rfl] at hx
  obtain ⟨e1,e2,e3,e4⟩:=SN.o rfl
  simp only [ern] at e1 e2 e3
  have AP:=zH (fun w ha=>nY y RA rn rc d W nw cw B nb cb w e4 HM.o.2.2.1 ha e1 e2 e3)
  rw [hx] at AP
  clear e1 e2 e3 e4 hx SN ern
  go_wp2_with (first|(refine lGJ19 BX.o ?_)|(refine lGJ19 BN.o ?_))
  refine (AP.o _ RS.o.old).mono ?_
  rintro e wm ⟨RA,rn,rc,rfl,rs,hb⟩
  have RS:=zH (show New w8 (aa .i8) wm RA rn rc x.1.data from ⟨rs⟩)
  have lbr:=BR.o.lt
  obtain ⟨BR,FR⟩:=uz2 hb BR FR
  clear hb rs yw8
  go_wp2_with (refine sGJ19 (tN x.1.h x.1.v x.1.c RA rn rc) BR.o ?_;intro w9 B9 g9)
  refine rG B9 ?_
  exact ⟨RA,rn,rc,rfl,(RS.o.away g9 lbr).out.more fun b h=>.inr ⟨by have:=h.1;omega,h.2⟩,(FR.o.away g9 oM).out⟩
 ·have hx:=HX.o
  rw [if_neg k0] at hx
  subst hx
  have hk2:(k != 0)=true:=by rw [bne_iff_ne];exact k0
  clear k0 SN ern
  go_wp2_with (refine sGJ19 (tN 0 0 0 none 0 0) BR.o ?_;intro w9 B9 g9)
  refine rG B9 ?_
  exact iV.none (FR.o.away g9 oM).out
def fG (x:List ae × Int × Int) (w:World) (e:Ending) (w':World):Prop :=
 ∃ A m cap,e=.returned (.tuple #[.slice A m cap,.int .i64 x.2.1,.int .i64 x.2.2])∧Sl dE w' (blo w') A m cap x.1∧Below w w w'
theorem fG.none {i e:Int} {w w':World} (hb:Below w w w'):fG ([],i,e) w (.returned (.tuple #[.slice none 0 0,.int .i64 i,.int .i64 e])) w' :=
 ⟨Option.none,0,0,rfl,Sl.nil _ _ _,hb⟩
theorem oB (A:QA) (n cap:Nat) (l:List af) (x:ae) (D:QA) (m cm:Nat) (w:World) (hs:Sl ee w (blo w) A n cap l) (hx:ak x) (hd:xA w D m cm x.data) (h300:m≤300) (hf:∀ d ∈ l,d.w.length≤1000∧d.bias.length≤100) :
  Calls prog 7 #[.slice A n cap,.agg (tN x.h x.v x.c D m cm)] w (fG (jY l x) w):=by
 have hn:=hs.n_eq
 obtain ⟨r,hr⟩:∃ r,jY l x=r:=⟨_,rfl⟩
 rw [hr]
 unfold jY at hr
 rw [hn] at hr
 have VV:=zH hr.symm
 have RA:=zH (fun w=>aF x.h x.v x.c D m cm w hx.h hx.v hx.c (lT hd.cap_le hd.max_le))
 have c1':decide (0 < ab x.h x.v x.c∧ab x.h x.v x.c=m)=x.ok:=by unfold ae.ok;rw [hd.n_eq]
 rw [c1'] at RA
 have SP:=zH (fun w hs=>ov A n cap l x.h x.v x.c w hs hx.h hx.v hx.c hf)
 have TH:=zH (iu (l:=l) (s:=(x.h,x.v,x.c)))
 obtain ⟨⟨sh,at_,code⟩,hsh⟩:∃ s,bh l (x.h,x.v,x.c)=s:=⟨_,rfl⟩
 rw [hsh] at SP TH VV
 simp only at TH VV
 have H:=zH hs
 have HO:=zH (Old.now hs)
 have HD:=zH (Old.now hd)
 have HX:=zH hx
 have HF:=zH hf
 have hmax:n≤9223372036854775807:=lT hs.cap_le hs.max_le
 clear hr hs hd hf hx hsh c1' hn
 have FR:=zW w
 obtain ⟨w1,yw1,BA,FR⟩:=nF FR (tN x.h x.v x.c D m cm) 27
 have l1:=zL yw1
 obtain ⟨ok,hok⟩:∃ b,x.ok=b:=⟨_,rfl⟩
 rw [hok] at RA VV
 have OK:=zH hok
 clear hok
 cases ok
 case false =>
  have R:=zH (show r=([],-1,5) by rw [VV.o,if_pos rfl])
  clear VV
  go_in
  go_wp2_with (refine lGJ19 BA.o ?_)
  clear yw1
  refine qM (RA.o _) fun w2 hb=>?_
  obtain ⟨FR,BA⟩:=uz2 hb FR BA
  clear hb
  go_wp2
  go_ret3
  rw [R.o]
  exact fG.none FR.u
 rw [if_neg dM] at VV
 by_cases c2:code=0
 rotate_left
 ·have t2:(code != 0)=true:=by simpa using c2
  have R:=zH (show r=([],at_,code) by rw [VV.o,if_pos c2])
  clear c2 VV
  go_in
  go_wp2_with (refine lGJ19 BA.o ?_)
  clear yw1
  refine qM (RA.o _) fun w2 hb=>?_
  obtain ⟨FR,BA⟩:=uz2 hb FR BA
  clear hb
  go_wp2_with (refine lQJ 24 (sN x.h x.v x.c) BA.o ?_)
  refine (SP.o _ (HO.o.fut FR.u).all).mono ?_
  rintro e w3 ⟨B1,m1,c1,rfl,-,hb⟩
  obtain ⟨FR,BA⟩:=uz2 hb FR BA
  clear hb
  simp only
  go_wp2
  go_ret3
  rw [R.o]
  exact fG.none FR.u
 subst c2
 obtain ⟨hn8,hn0,hth⟩:=TH.o rfl
 have t2:((0:Int) != 0)=false:=rfl
 have THR:=zH hth
 have V2:=zH (show r=qJ n (gw l x n) by rw [VV.o,if_neg dM])
 rw [show l.length=n from H.o.n_eq] at hn8 hn0
 clear VV TH hth
 go_in
 go_wp2_with (refine lGJ19 BA.o ?_)
 clear yw1
 refine qM (RA.o _) fun w2 hb=>?_
 obtain ⟨FR,BA⟩:=uz2 hb FR BA
 clear hb
 go_wp2_with (refine lQJ 24 (sN x.h x.v x.c) BA.o ?_)
 refine (SP.o _ (HO.o.fut FR.u).all).mono ?_
 rintro e w3 ⟨B1,m1,c1,rfl,-,hb⟩
 obtain ⟨FR,BA⟩:=uz2 hb FR BA
 clear hb
 simp only
 clear RA SP
 go_wp2_with (first
  | (refine lGJ19 BA.o ?_)
  | (refine di rfl (.tmp 29) rfl jP (tN x.h x.v x.c D m cm) rfl rfl dM ?_))
 have z3:=FR.o.size
 go_loopw [10,11] (fun u i wr=>∃ (k:Nat) (out:List ae) (S:Nat → Prop),k≤n∧i=.int .i64 k∧gw l x k=.on out∧Own dE wr S w.heap.size 27 u (k+1) out∧(∀ b,S b → b < wr.heap.size∧some b ≠ u.ownBlock)∧Below w w wr) (fun _ i _=>n - (intOf i).toNat)
 case atStart =>
  refine ⟨0,[x],blo w,zl _,rfl,rfl,Own.one z3 (ud HX.o ?_),fun b hb=>⟨by have h:b < w.heap.size:=hb;simp;omega,by have h:b < w.heap.size:=hb;simp [Value.ownBlock];omega⟩,FR.u.alloc z3 _⟩
  exact (HD.o.fut FR.u).out.keep fun b hb=>by rw [eW,if_neg (by have h:b < w.heap.size:=hb;omega)]
 case round =>
  clear FR BA z3
  obtain ⟨k,out,S,hk,rfl,hrun,hown,hSS,hb⟩:=hrel
  have HB:=zH hb
  have ON:=zH hown
  have HR:=zH hrun
  have SSa:=zH (fun b h=>(hSS b h).1)
  have SSb:=zH (fun b h=>(hSS b h).2)
  obtain ⟨A1,c1,rfl,sl⟩:=hown.sl (S':=fun b=>S b ∨ bin w wr b) dM (fun b h1 h2=>.inr ⟨h1,h2⟩) (fun b h=>.inl h)
  have OSL:=zH (show ∃ vs,RowsOf dE wr S vs out from let ⟨vs,_,h⟩:=hown.out;⟨vs,h⟩)
  have SL:=zH sl
  clear hb hown hrun sl hSS
  by_cases hlt:k < n
  ·have p1:(k:Int) < (n:Int):=oM
   obtain ⟨d,b0,off,W,nw,cw,B,nb,cb,hd,rfl,_,_,hin,hw8,hw32,hrg⟩:=(H.o.below HB.o (fun _ h=>h)).node_at k hlt
   have hsz:=HF.o d (mG hd)
   have hnx:=kA HR.o hd
   have q8:=hw8.n_eq
   have q32:=hw32.n_eq
   obtain ⟨p2,p3,p4,p5⟩:=gV (THR.o k d hd)
   obtain ⟨ia,hia⟩:∃ ia,d.a.toNat=ia:=⟨_,rfl⟩
   obtain ⟨ib,hib⟩:∃ ib,(aU d).toNat=ib:=⟨_,rfl⟩
   obtain ⟨t,b2,Dt,mt,ct,x1,rfl,hg1,hg2,ti,s1,q1⟩:=ON.o.tensor_at ia oM
   obtain ⟨t2',b2',Du,mu,cu,x2,e0,_,_,ui,s2,q2⟩:=ON.o.tensor_at ib oM
   obtain rfl:b2=b2':=by simpa using e0
   have MV:eK d out=dn d t t2':=by
    unfold eK
    rw [hia,hib,gD,gD,x1,x2];rfl
   have zr:=HB.o.size
   have SC:=zH (fun w=>jI d W nw cw B nb cb w)
   have RN:=zH (fun w' (hb:Below wr wr w')=>mK S d W nw cw B nb cb t t2' Dt Du mt ct mu cu w' ti ui hin ((hw8.more (dJ zr)).later hb (lR _)) ((hw32.more (dJ zr)).later hb (lR _)) ((s1.more (S':=blo wr) fun b h=>SSa.o b h).later hb (lR _)) ((s2.more (S':=blo wr) fun b h=>SSa.o b h).later hb (lR _)) oM (s1.below hb fun b h=>SSa.o b h) (fun b h=>Nat.lt_of_lt_of_le (SSa.o b h) hb.size))
   have NG:=zH (ml (d:=d) (l:=out))
   obtain ⟨⟨y,ye⟩,hy⟩:∃ q,dn d t t2'=q:=⟨_,rfl⟩
   rw [MV,hy] at hnx NG
   rw [hy] at RN
   simp only at hnx NG
   obtain ⟨sc,hsc⟩:∃ s,aU d=s:=⟨_,rfl⟩
   rw [hsc] at p4 p5 SC hib
   have p3':d.a < (k:Int)+1:=oM
   have p5':sc < (k:Int)+1:=oM
   have NX:=zH hnx
   have RG:=zH hrg
   have Q1:=zH q1
   have Q2:=zH q2
   have cA:wr.cell? ⟨b0,off+k*19+1,none⟩=some (.int .i64 d.a):=hrg 1 _ rfl
   clear hd hin hw8 hw32 hrg hnx hy MV x1 x2 ti ui s1 s2 q1 q2 e0 hsc OSL
   go_wp2_with fail
   go_cut [12,13] (fun b c wx=>∃ K D8 m8 c8,b=.pointer (some ⟨K,0,none⟩)∧c=.int .i64 ye∧Blk wx K 27 (tN y.h y.v y.c D8 m8 c8)∧Sl (aa .i8) wx (fun b=>S b ∨ bin wr wx b) D8 m8 c8 y.data∧Below wr wr wx)
   case first =>
     refine wp_region_held_drew (S:=fun w'=>w'.cell? ⟨b0,off+k*19+1,none⟩=some (.int .i64 d.a)∧Below wr wr w') kM ?_ (fun hS=>?_)
     ·exact ⟨cA,(qB _ _).drew⟩
     refine kH' 0 hS ?_
     refine kH' 1 hS ?_
     refine kH' 2 hS ?_
     refine tkH 3 rfl (yieldsIf_load_mid (by rfl) 42 (.tmp 40) rfl b0 (off+k*19) rfl _ _ (fun w hs j v hv=>ao hs.2 (RG.o j v hv)) underlying42 rfl kM) hS ?_
     try simp only [pX]
     refine kH' 4 hS ?_
     refine kH' 5 hS ?_
     refine kH' 6 hS ?_
     refine kH' 7 hS ?_
     refine kH' 8 hS ?_
     refine kH' 9 hS ?_
     refine kH' 10 hS ?_
     refine tkH 11 rfl (yieldsIf_load_mid (by rfl) 27 (.tmp 48) rfl b2 (ia*4) (by rw [← hia];first|rfl|simp) _ _ (fun w hs j v hv=>ao hs.2 (Q1.o j v hv)) underlying27 rfl kM) hS ?_
     try simp only [pX]
     refine kH' 12 hS ?_
     refine kH' 13 hS ?_
     refine kH' 14 hS ?_
     refine kH' 15 hS ?_
     refine tkH 16 rfl (yieldsIf_load_mid (by rfl) 42 (.tmp 53) rfl b0 (off+k*19) rfl _ _ (fun w hs j v hv=>ao hs.2 (RG.o j v hv)) underlying42 rfl kM) hS ?_
     try simp only [pX]
     refine wpAnyH_ready (rs:=[17,24]) kM sM ?_
     refine AllReadyH.cons rfl (fun K hK=>?_) (AllReadyH.cons rfl (fun K hK=>?_) AllReadyH.nil)
     ·go_simp
      refine qM (SC.o _) fun wc1 hb=>?_;refine hK.out _ _ ⟨ao hb hS.1,ag hb hS.2⟩ (fun hS=>?_);clear hb
      clear hK K
      try simp only [pX]
      refine kH' 18 hS ?_
      refine tkH 19 rfl (yieldsIf_load_mid (by rfl) 27 (.tmp 56) rfl b2 (ib*4) (by rw [← hib];first|rfl|simp) _ _ (fun w hs j v hv=>ao hs.2 (Q2.o j v hv)) underlying27 rfl kM) hS ?_
      try simp only [pX]
      refine wpAnyH_ready (rs:=[20,24]) kM sM ?_
      refine AllReadyH.cons rfl (fun K hK=>?_) (AllReadyH.cons rfl (fun K hK=>?_) AllReadyH.nil)
      ·go_simp
       refine (RN.o _ hS.2).mono ?_;rintro e wc2 ⟨D8,m8,c8,rfl,s8,hb⟩;have hz8:=hS.2.size;have S8:=zH s8;have LO8:=zH (show ∀ b,bin wc1 wc2 b → wr.heap.size≤b from fun b h=>lT hz8 h.1);refine hK.out _ _ ⟨ao hb hS.1,ag hb hS.2⟩ (fun hS=>?_);clear s8
       clear hK K
       try simp only [pX]
       refine kH' 21 hS ?_
       refine kH' 22 hS ?_
       refine kH' 23 hS ?_
       refine rH 24 rfl (fun K hK=>?_)
       go_simp
       obtain ⟨hb,BZ⟩:=zB wc2 (tN 0 0 0 none 0 0) 27
       have BK:=zH (show wc2.heap.size < (wc2.alloc (.cells (tN 0 0 0 none 0 0) 27)).heap.size by simp)
       have hzk:=hS.2.size
       have LT8:=zH (show ∀ b,bin wc1 wc2 b → b < (wc2.alloc (.cells (tN 0 0 0 none 0 0) 27)).heap.size from fun b h=>by have:=h.2;simp;omega);have NE8:=zH (show ∀ b,bin wc1 wc2 b → ¬ b=wc2.heap.size from fun b h e=>by have:=h.2;omega)
       replace S8:=zH (S8.o.keep fun b h=>hb.block b (by rcases h with h|h;exact Nat.lt_of_lt_of_le (SSa.o b h) hzk;exact h.2))
       refine hK.out _ _ ⟨ao hb hS.1,ag hb hS.2⟩ (fun hS=>?_)
       clear hK K hb
       try simp only [pX]
       refine rH 25 rfl (fun K hK=>?_)
       rw [if_pos (by rfl)];refine oG (tN y.h y.v y.c D8 m8 c8) BZ.o ?_;intro wz BX gz
       have kz:Below wr wr wz:=hS.2.grown gz hS.2.size (fun k h=>by have:=sI h;omega)
       have SZ:=zH (S8.o.keep fun b h=>gz.block b (by rcases h with h|h;exact Nat.lt_of_lt_of_le (SSa.o b h) hS.2.size;exact LT8.o b h) (fun e=>by have:=sI e;rcases h with h|h;have:=SSa.o b h;omega;exact absurd this (NE8.o b h)))
       refine hK.out _ _ ⟨ao kz cA,kz⟩ (fun hS=>?_)
       clear hK K
       try simp only [pX]
       refine kH' 26 hS ?_
       refine wpAnyH_done kM ?_ _
       go_wp2_with fail
       go_meet
       case rel=>exact ⟨_,D8,m8,c8,rfl,rfl,BX,SZ.o.more (fun b h=>by rcases h with h|h;exact .inl h;exact .inr ⟨LO8.o b h,Nat.lt_of_lt_of_le (LT8.o b h) gz.size⟩),kz⟩
      ·go_simp
       obtain ⟨hb,BZ⟩:=zB wc1 (tN 0 0 0 none 0 0) 27
       have BK:=zH (show wc1.heap.size < (wc1.alloc (.cells (tN 0 0 0 none 0 0) 27)).heap.size by simp)
       have hzk:=hS.2.size
       refine hK.out _ _ ⟨ao hb hS.1,ag hb hS.2⟩ (fun hS=>?_)
       clear hK K hb
       try simp only [pX]
       refine rH 20 rfl (fun K hK=>?_)
       go_simp
       refine (RN.o _ hS.2).mono ?_;rintro e wc2 ⟨D8,m8,c8,rfl,s8,hb⟩;have hz8:=hS.2.size;have hbz:=BZ.o.lt;replace BZ:=zH (BZ.o.later hb);have S8:=zH s8;have LO8:=zH (show ∀ b,bin (wc1.alloc (.cells (tN 0 0 0 none 0 0) 27)).heap.size wc2.heap.size b → wr.heap.size≤b from fun b h=>lT hz8 h.1);refine hK.out _ _ ⟨ao hb hS.1,ag hb hS.2⟩ (fun hS=>?_);clear s8;have LT8:=zH (show ∀ b,bin (wc1.alloc (.cells (tN 0 0 0 none 0 0) 27)).heap.size wc2.heap.size b → b < wc2.heap.size from fun b h=>h.2);have NE8:=zH (show ∀ b,bin (wc1.alloc (.cells (tN 0 0 0 none 0 0) 27)).heap.size wc2.heap.size b → ¬ b=wc1.heap.size from fun b h e=>by have:=h.1;omega)
       clear hK K
       try simp only [pX]
       refine kH' 21 hS ?_
       refine kH' 22 hS ?_
       refine kH' 23 hS ?_
       refine rH 25 rfl (fun K hK=>?_)
       rw [if_pos (by rfl)];refine oG (tN y.h y.v y.c D8 m8 c8) BZ.o ?_;intro wz BX gz
       have kz:Below wr wr wz:=hS.2.grown gz hS.2.size (fun k h=>by have:=sI h;omega)
       have SZ:=zH (S8.o.keep fun b h=>gz.block b (by rcases h with h|h;exact Nat.lt_of_lt_of_le (SSa.o b h) hS.2.size;exact LT8.o b h) (fun e=>by have:=sI e;rcases h with h|h;have:=SSa.o b h;omega;exact absurd this (NE8.o b h)))
       refine hK.out _ _ ⟨ao kz cA,kz⟩ (fun hS=>?_)
       clear hK K
       try simp only [pX]
       refine kH' 26 hS ?_
       refine wpAnyH_done kM ?_ _
       go_wp2_with fail
       go_meet
       case rel=>exact ⟨_,D8,m8,c8,rfl,rfl,BX,SZ.o.more (fun b h=>by rcases h with h|h;exact .inl h;exact .inr ⟨LO8.o b h,Nat.lt_of_lt_of_le (LT8.o b h) gz.size⟩),kz⟩
     ·go_simp
      have hb:Below wr.drew.heap.size wr.drew (wr.drew.alloc (.cells (tN 0 0 0 none 0 0) 27)):=(qB _ _).alloc (lR _) _
      have BZ:=zH (Blk.now wr.drew wr.drew.heap.size 27 (tN 0 0 0 none 0 0) rfl)
      have BK:=zH (show wr.drew.heap.size < (wr.drew.alloc (.cells (tN 0 0 0 none 0 0) 27)).heap.size by simp)
      have hzk:=hS.2.size
      refine hK.out _ _ ⟨ao hb hS.1,ag hb hS.2⟩ (fun hS=>?_)
      clear hK K hb
      try simp only [pX]
      refine rH 17 rfl (fun K hK=>?_)
      go_simp
      refine qM (SC.o _) fun wc1 hb=>?_;replace BZ:=zH (BZ.o.later hb);refine hK.out _ _ ⟨ao hb hS.1,ag hb hS.2⟩ (fun hS=>?_);clear hb
      clear hK K
      try simp only [pX]
      refine kH' 18 hS ?_
      refine tkH 19 rfl (yieldsIf_load_mid (by rfl) 27 (.tmp 56) rfl b2 (ib*4) (by rw [← hib];first|rfl|simp) _ _ (fun w hs j v hv=>ao hs.2 (Q2.o j v hv)) underlying27 rfl kM) hS ?_
      try simp only [pX]
      refine rH 20 rfl (fun K hK=>?_)
      go_simp
      refine (RN.o _ hS.2).mono ?_;rintro e wc2 ⟨D8,m8,c8,rfl,s8,hb⟩;have hz8:=hS.2.size;have hbz:=BZ.o.lt;replace BZ:=zH (BZ.o.later hb);have S8:=zH s8;have LO8:=zH (show ∀ b,bin wc1 wc2 b → wr.heap.size≤b from fun b h=>lT hz8 h.1);refine hK.out _ _ ⟨ao hb hS.1,ag hb hS.2⟩ (fun hS=>?_);clear s8;have LT8:=zH (show ∀ b,bin wc1 wc2 b → b < wc2.heap.size from fun b h=>h.2);have NE8:=zH (show ∀ b,bin wc1 wc2 b → ¬ b=wr.drew.heap.size from fun b h e=>by have:=h.1;omega)
      clear hK K
      try simp only [pX]
      refine kH' 21 hS ?_
      refine kH' 22 hS ?_
      refine kH' 23 hS ?_
      refine rH 25 rfl (fun K hK=>?_)
      rw [if_pos (by rfl)];refine oper_store_blk 27 (.tmp 12) (.tmp 59) rfl wr.drew.heap.size 0 (tN y.h y.v y.c D8 m8 c8) rfl rfl _ (tN 0 0 0 none 0 0) (tN y.h y.v y.c D8 m8 c8) BZ.o sM kM (by simp [Value.oneCell']) rfl ?_;intro wz BX gz
      have kz:Below wr wr wz:=hS.2.grown gz hS.2.size (fun k h=>by have:=sI h;omega)
      have SZ:=zH (S8.o.keep fun b h=>gz.block b (by rcases h with h|h;exact Nat.lt_of_lt_of_le (SSa.o b h) hS.2.size;exact LT8.o b h) (fun e=>by have:=sI e;rcases h with h|h;have:=SSa.o b h;omega;exact absurd this (NE8.o b h)))
      refine hK.out _ _ ⟨ao kz cA,kz⟩ (fun hS=>?_)
      clear hK K
      try simp only [pX]
      refine kH' 26 hS ?_
      refine wpAnyH_done kM ?_ _
      go_wp2_with fail
      go_meet
      case rel=>exact ⟨_,D8,m8,c8,rfl,rfl,BX,SZ.o.more (fun b h=>by rcases h with h|h;exact .inl h;exact .inr ⟨LO8.o b h,Nat.lt_of_lt_of_le (LT8.o b h) gz.size⟩),kz⟩
   case rest =>
    obtain ⟨K,D8,m8,c8,rfl,rfl,hX,hs8,hG⟩:=hcut
    have BX:=zH hX
    have T9:=zH hs8
    have OL:=zH ON.o.lt
    have O9:=zH (ON.o.below hG (lR _) (fun b h=>SSa.o b h))
    have F9:=zH (ag hG HB.o)
    have z9:=hG.size
    clear hX hs8 hG SC RN
    by_cases hye:ye=0
    ·subst hye
     have t4:((0:Int) != 0)=false:=rfl
     have YI:=zH (pD (NG.o rfl))
     rw [if_neg dM] at NX
     clear NG
     go_wp2_with (first
      | (refine lQJ 27 (tN y.h y.v y.c D8 m8 c8) BX.o ?_)
      | (refine di rfl (.tmp 66) rfl jP (tN y.h y.v y.c D8 m8 c8) rfl rfl dM ?_)
      | (at_builtin;refine wpList_push (W:=wc) (cs:=(tN y.h y.v y.c D8 m8 c8)) (E:=27) (t:=dE) (S:=fun b=>S b ∨ bin wr wc b) (base:=w.heap.size) rfl (.tmp 65) (.tmp 67) rfl jP rfl (O9.o.wide fun b h=>.inl h) 1 rfl y (ud YI.o T9.o) (by unfold maxLen;omega) oM F9.o.size (fun b h=>(by rcases h with h|h;exact ⟨Nat.lt_of_lt_of_le (SSa.o b h) z9,SSb.o b h⟩;exact ⟨h.2,fun e=>absurd (OL.o b e.symm).2 (Nat.not_lt.2 h.1)⟩)) ?_;intro v' wz ownz gz atz))
     have bz:=F9.o.grown gz F9.o.size (fun j hj=>(OL.o j hj).1)
     refine ⟨⟨k+1,out ++ [y],_,by omega,by go_num,NX.o,ownz,fun b h=>?_,bz⟩,by simp [intOf];omega⟩
     have q:b < wc.heap.size∧some b ≠ (Value.slice (some ⟨b2,0,none⟩) (k+1) c1).ownBlock:=by
      rcases h with h|h
      ·exact ⟨Nat.lt_of_lt_of_le (SSa.o b h) z9,SSb.o b h⟩
      ·exact ⟨h.2,fun e=>absurd (OL.o b e.symm).2 (Nat.not_lt.2 h.1)⟩
     refine ⟨Nat.lt_of_lt_of_le q.1 gz.size,fun e=>?_⟩
     rcases atz with a|a <;> rw [a] at e
     ·exact q.2 e
     ·have:=sI e;have:=q.1;omega
    ·have t4:(ye != 0)=true:=by simpa using hye
     rw [if_pos hye] at NX
     have R:=zH (show r=([],(k:Int),ye) by rw [V2.o,mM NX.o n oM];rfl)
     clear hye NG NX V2
     go_wp2
     go_ret3
     rw [R.o]
     exact fG.none F9.o
  ·obtain rfl:k=n:=oM
   have R:=zH (show r=(out,(k:Int),0) by rw [V2.o,HR.o];rfl)
   clear hlt hk V2
   go_wp2
   go_ret3
   rw [R.o]
   exact ⟨A1,_,c1,rfl,SL.o.more (fun b h=>by rcases h with h|h;exact SSa.o b h;exact h.2),HB.o⟩
end Go.Proofs.YtmihnoagagbgaaaGreat
namespace Go.Proofs.YtmihnoagagbgaaaGreat
open Tryz
theorem uo:True:=by
 have h1:=@oy
 have h3:=@jx
 have h4:=@jJ
 have h5:=@oB
 have h6:=@qK
 have h7:=@nC
 have h8:=@rJ
 have h9:=@mU
 have h12:=@av
 have h13:=@fN.step
 have h14:=@fN.first
 have h15:=@ji
 have h16:=@rq
 have h17:=@sK
 have h18:=@nM
 have h19:=@mm
 have h20:=@sp
 have h21:=@qA
 have h22:=@o6
 have h23:=@iC
 have h24:=@fD
 have h25:=@bQ
 have h26:=@pD
 have h27:=@kA
 have h28:=@mM
 have h29:=@ml
 have h30:=@iu
 have h31:=@ep
 have h32:=@jg
 have h33:=@Sl.shape_at
 have h34:=@Sl.node_at
 have h35:=@Sl.sub
 have h36:=@pG
 have h37:=@cE
 have h38:=@wpList_make
 have h39:=@iI
 have h40:=@oP
 have h41:=@oQ
 have h42:=@Sl.tensor_at
 trivial
end Go.Proofs.YtmihnoagagbgaaaGreat
