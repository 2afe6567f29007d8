/-
  What a node makes (layer 26: run.Node).
  The shape of what a node makes is the one that is told ahead (layers 25, 26), in numbers.
  All values of a block's nodes (layer 27), as plain lists.
-/
import Derived.Test.YtmihnoagagbgaaaGreatJ38
import Derived.Test.YtmihnoagagbgaaaGreatJ40
import Derived.Test.YtmihnoagagbgaaaGreatJ42
import Derived.Test.YtmihnoagagbgaaaGreatJ43
set_option linter.unusedVariables false
set_option linter.unusedSimpArgs false
set_option maxRecDepth 100000
set_option maxHeartbeats 16000000
namespace Go.Proofs.YtmihnoagagbgaaaGreat
open Go.RowKit Go.ChangeShapes Go.WideShapes Tryz
set_option maxRecDepth 100000
set_option maxHeartbeats 16000000
def dn (d:af) (a b:ae):ae × Int :=
 if ¬ bu d=0 then (aj,bu d) else if a.ok=false then (aj,5) else if d.kind=4 then a8 dG a d else if d.kind=5 then a8 cP a d else if d.kind=6 then dH a b d else if d.kind=7 then eC a d else if d.kind=8 then ij a d.p d.za else if d.kind=9 then (⟨1,1,a.data.length,a.data⟩,0) else iw a d
theorem oy (d:af) (W:QA) (nw cw:Nat) (B:QA) (nb cb:Nat) (a b:ae) (A A':QA) (n cap n' cap':Nat) (w:World) (ht:ak a) (hu:ak b) (hd:aE d)
  (hw:xA w W nw cw d.w) (hbi:xB w B nb cb d.bias) (ha:xA w A n cap a.data) (hbs:xA w A' n' cap' b.data) (mw:nw≤2000∧nb≤200) :
  Calls prog 23 #[.agg (nD d W nw cw B nb cb),.agg (tN a.h a.v a.c A n cap),.agg (tN b.h b.v b.c A' n' cap')] w (ar .i8 (dn d a b).1 (dn d a b).2 w):=by
 have HW:=zH hw
 have HB:=zH hbi
 have HA:=zH ha
 have HB2:=zH hbs
 have CK:=zH (fun w hw hb=>jt d W nw cw B nb cb w hw hb oM oM)
 have c1':decide (0 < ab a.h a.v a.c∧ab a.h a.v a.c=n)=a.ok:=by unfold ae.ok;rw [HA.o.n_eq]
 have RA:=zH (fun w=>av a.h a.v a.c A n cap w ht.h ht.v ht.c (lT ha.cap_le ha.max_le))
 rw [c1'] at RA
 have en:a.data.length=n:=ha.n_eq
 have NQ:=zH (show dn d a b=if ¬ bu d=0 then (aj,bu d) else if a.ok=false then (aj,5) else if d.kind=4 then a8 dG a d else if d.kind=5 then a8 cP a d else if d.kind=6 then dH a b d else if d.kind=7 then eC a d else if d.kind=8 then ij a d.p d.za else if d.kind=9 then (⟨1,1,n,a.data⟩,0) else iw a d by unfold dn;rw [en])
 obtain ⟨x,hx⟩:∃ x,dn d a b=x:=⟨_,rfl⟩
 rw [hx] at NQ ⊢
 have FR:=zW w
 obtain ⟨w1,w2,w3,w4,yw1,yw2,yw3,yw4,l1,l2,l3,l4,BN,BA,BB,BR,yk4⟩:=bk4 w (nD d W nw cw B nb cb) 42 (tN a.h a.v a.c A n cap) 27 (tN b.h b.v b.c A' n' cap') 27 (tN 0 0 0 none 0 0) 27
 replace FR:=zF yk4 FR
 clear yk4
 have HM:=zH (And.intro ht (And.intro hu (And.intro hd mw)))
 have mxa:n≤9223372036854775807:=lT ha.cap_le ha.max_le
 have hok0:=zH (show a.ok=true → a.ok=true from id)
 clear c1' en hx ht hu hd hw hbi ha hbs mw
 obtain ⟨ck,hck⟩:∃ k,bu d=k:=⟨_,rfl⟩
 rw [hck] at CK NQ
 clear hck
 by_cases q1:¬ ck=0
 ·rw [if_pos q1] at NQ
  rw [NQ.o]
  have hk2:(ck != 0)=true:=by rw [bne_iff_ne];exact q1
  clear q1 NQ
  go_in
  go_wp2_with (first|(refine lGJ19 BN.o ?_)|(go_at_call 44;refine qM (CK.o _ (zO HW FR) (zO HB FR)) fun w5 hb=>?_;have l5:=hb.size;obtain ⟨FR,BN,BA,BB,BR⟩:=uz5 hb FR BN BA BB BR;clear hb yw1 yw2 yw3 yw4)|(refine sGJ19 (tN 0 0 0 none 0 0) BR.o ?_;intro w9 B9 g9))
  refine rG B9 ?_
  exact ar.none (FR.o.away g9 oM).out
 rw [if_neg q1] at NQ
 rw [Decidable.not_not] at q1
 subst q1
 by_cases q2:a.ok=false
 ·rw [if_pos q2] at NQ
  rw [q2] at RA
  rw [NQ.o]
  clear q2 NQ
  go_in
  go_wp2_with (first|(refine lGJ19 BN.o ?_)|(go_at_call 44;refine qM (CK.o _ (zO HW FR) (zO HB FR)) fun w5 hb=>?_;have l5:=hb.size;obtain ⟨FR,BN,BA,BB,BR⟩:=uz5 hb FR BN BA BB BR;clear hb yw1 yw2 yw3 yw4)|(refine lGJ19 BA.o ?_)|(go_at_call 11;refine qM (RA.o _) fun w6 hb=>?_;have l6:=hb.size;obtain ⟨FR,BN,BA,BB,BR⟩:=uz5 hb FR BN BA BB BR;clear hb)|(refine sGJ19 (tN 0 0 0 none 0 0) BR.o ?_;intro w9 B9 g9))
  refine rG B9 ?_
  exact ar.none (FR.o.away g9 oM).out
 rw [if_neg q2] at NQ
 rw [Bool.not_eq_false] at q2
 rw [q2] at RA
 have C1:=zH q2
 by_cases k4:d.kind=4
 ·rw [if_pos k4] at NQ
  have S:=zH (fun w ha=>nU a A n cap d W nw cw B nb cb w ha C1.o)
  rw [← NQ.o] at S
  have KE:=zH k4
  clear k4  NQ q2
  go_in
  go_wp2_with (first|(refine lGJ19 BN.o ?_)|(go_at_call 44;refine qM (CK.o _ (zO HW FR) (zO HB FR)) fun w5 hb=>?_;have l5:=hb.size;obtain ⟨FR,BN,BA,BB,BR⟩:=uz5 hb FR BN BA BB BR;clear hb yw1 yw2 yw3 yw4)|(refine lGJ19 BA.o ?_)|(go_at_call 11;refine qM (RA.o _) fun w6 hb=>?_;have l6:=hb.size;obtain ⟨FR,BN,BA,BB,BR⟩:=uz5 hb FR BN BA BB BR;clear hb;have c0:=BN.o.cell 0;simp only [gX] at c0;rw [KE.o] at c0))
  refine (S.o _ (zO HA FR)).mono ?_
  rintro e wm ⟨RA,rn,rc,rfl,rs,hb⟩
  have RS:=zH (show New w6 (aa .i8) wm RA rn rc x.1.data from ⟨rs⟩)
  have lbr:=BR.o.lt
  have lfr:=FR.o.size
  obtain ⟨BR,FR⟩:=uz2 hb BR FR
  clear hb rs c0
  go_wp2_with (refine sGJ19 (tN x.1.h x.1.v x.1.c RA rn rc) BR.o ?_;intro w9 B9 g9)
  refine rG B9 ?_
  exact ⟨RA,rn,rc,rfl,(RS.o.away g9 lbr).out.more (aO lfr (lR _)),(FR.o.away g9 oM).out⟩
 rw [if_neg k4] at NQ
 have t4:(d.kind == 4)=false:=by simpa using k4
 by_cases k5:d.kind=5
 ·rw [if_pos k5] at NQ
  have S:=zH (fun w ha=>kP a A n cap d W nw cw B nb cb w ha C1.o)
  rw [← NQ.o] at S
  have KE:=zH k5
  clear k5  k4 t4 NQ q2
  go_in
  go_wp2_with (first|(refine lGJ19 BN.o ?_)|(go_at_call 44;refine qM (CK.o _ (zO HW FR) (zO HB FR)) fun w5 hb=>?_;have l5:=hb.size;obtain ⟨FR,BN,BA,BB,BR⟩:=uz5 hb FR BN BA BB BR;clear hb yw1 yw2 yw3 yw4)|(refine lGJ19 BA.o ?_)|(go_at_call 11;refine qM (RA.o _) fun w6 hb=>?_;have l6:=hb.size;obtain ⟨FR,BN,BA,BB,BR⟩:=uz5 hb FR BN BA BB BR;clear hb;have c0:=BN.o.cell 0;simp only [gX] at c0;rw [KE.o] at c0))
  refine (S.o _ (zO HA FR)).mono ?_
  rintro e wm ⟨RA,rn,rc,rfl,rs,hb⟩
  have RS:=zH (show New w6 (aa .i8) wm RA rn rc x.1.data from ⟨rs⟩)
  have lbr:=BR.o.lt
  have lfr:=FR.o.size
  obtain ⟨BR,FR⟩:=uz2 hb BR FR
  clear hb rs c0
  go_wp2_with (refine sGJ19 (tN x.1.h x.1.v x.1.c RA rn rc) BR.o ?_;intro w9 B9 g9)
  refine rG B9 ?_
  exact ⟨RA,rn,rc,rfl,(RS.o.away g9 lbr).out.more (aO lfr (lR _)),(FR.o.away g9 oM).out⟩
 rw [if_neg k5] at NQ
 have t5:(d.kind == 5)=false:=by simpa using k5
 by_cases k6:d.kind=6
 ·rw [if_pos k6] at NQ
  have S:=zH (fun w ha hbs=>pt a b A A' n cap n' cap' d W nw cw B nb cb w HM.o.1 HM.o.2.1 HM.o.2.2.1 ha hbs C1.o)
  rw [← NQ.o] at S
  have KE:=zH k6
  clear k6  k4 t4 k5 t5 NQ q2
  go_in
  go_wp2_with (first|(refine lGJ19 BN.o ?_)|(go_at_call 44;refine qM (CK.o _ (zO HW FR) (zO HB FR)) fun w5 hb=>?_;have l5:=hb.size;obtain ⟨FR,BN,BA,BB,BR⟩:=uz5 hb FR BN BA BB BR;clear hb yw1 yw2 yw3 yw4)|(refine lGJ19 BA.o ?_)|(go_at_call 11;refine qM (RA.o _) fun w6 hb=>?_;have l6:=hb.size;obtain ⟨FR,BN,BA,BB,BR⟩:=uz5 hb FR BN BA BB BR;clear hb;have c0:=BN.o.cell 0;simp only [gX] at c0;rw [KE.o] at c0)|(refine lGJ19 BB.o ?_))
  refine (S.o _ (zO HA FR) (zO HB2 FR)).mono ?_
  rintro e wm ⟨RA,rn,rc,rfl,rs,hb⟩
  have RS:=zH (show New w6 (aa .i8) wm RA rn rc x.1.data from ⟨rs⟩)
  have lbr:=BR.o.lt
  have lfr:=FR.o.size
  obtain ⟨BR,FR⟩:=uz2 hb BR FR
  clear hb rs c0
  go_wp2_with (refine sGJ19 (tN x.1.h x.1.v x.1.c RA rn rc) BR.o ?_;intro w9 B9 g9)
  refine rG B9 ?_
  exact ⟨RA,rn,rc,rfl,(RS.o.away g9 lbr).out.more (aO lfr (lR _)),(FR.o.away g9 oM).out⟩
 rw [if_neg k6] at NQ
 have t6:(d.kind == 6)=false:=by simpa using k6
 by_cases k7:d.kind=7
 ·rw [if_pos k7] at NQ
  have S:=zH (fun w ha=>qv a A n cap d W nw cw B nb cb w HM.o.1 HM.o.2.2.1 ha C1.o)
  rw [← NQ.o] at S
  have KE:=zH k7
  clear k7  k4 t4 k5 t5 k6 t6 NQ q2
  go_in
  go_wp2_with (first|(refine lGJ19 BN.o ?_)|(go_at_call 44;refine qM (CK.o _ (zO HW FR) (zO HB FR)) fun w5 hb=>?_;have l5:=hb.size;obtain ⟨FR,BN,BA,BB,BR⟩:=uz5 hb FR BN BA BB BR;clear hb yw1 yw2 yw3 yw4)|(refine lGJ19 BA.o ?_)|(go_at_call 11;refine qM (RA.o _) fun w6 hb=>?_;have l6:=hb.size;obtain ⟨FR,BN,BA,BB,BR⟩:=uz5 hb FR BN BA BB BR;clear hb;have c0:=BN.o.cell 0;simp only [gX] at c0;rw [KE.o] at c0))
  refine (S.o _ (zO HA FR)).mono ?_
  rintro e wm ⟨RA,rn,rc,rfl,rs,hb⟩
  have RS:=zH (show New w6 (aa .i8) wm RA rn rc x.1.data from ⟨rs⟩)
  have lbr:=BR.o.lt
  have lfr:=FR.o.size
  obtain ⟨BR,FR⟩:=uz2 hb BR FR
  clear hb rs c0
  go_wp2_with (refine sGJ19 (tN x.1.h x.1.v x.1.c RA rn rc) BR.o ?_;intro w9 B9 g9)
  refine rG B9 ?_
  exact ⟨RA,rn,rc,rfl,(RS.o.away g9 lbr).out.more (aO lfr (lR _)),(FR.o.away g9 oM).out⟩
 rw [if_neg k7] at NQ
 have t7:(d.kind == 7)=false:=by simpa using k7
 by_cases k8:d.kind=8
 ·rw [if_pos k8] at NQ
  have S:=zH (fun w ha=>o7 a d.p A n cap d.za w HM.o.1 ha C1.o HM.o.2.2.1.za)
  rw [← NQ.o] at S
  have KE:=zH k8
  clear k8  k4 t4 k5 t5 k6 t6 k7 t7 NQ q2
  go_in
  go_wp2_with (first|(refine lGJ19 BN.o ?_)|(go_at_call 44;refine qM (CK.o _ (zO HW FR) (zO HB FR)) fun w5 hb=>?_;have l5:=hb.size;obtain ⟨FR,BN,BA,BB,BR⟩:=uz5 hb FR BN BA BB BR;clear hb yw1 yw2 yw3 yw4)|(refine lGJ19 BA.o ?_)|(go_at_call 11;refine qM (RA.o _) fun w6 hb=>?_;have l6:=hb.size;obtain ⟨FR,BN,BA,BB,BR⟩:=uz5 hb FR BN BA BB BR;clear hb;have c0:=BN.o.cell 0;simp only [gX] at c0;rw [KE.o] at c0;obtain ⟨c5,c7⟩:=uc2 BN 5 7;simp only [gX] at c5 c7))
  refine (S.o _ (zO HA FR)).mono ?_
  rintro e wm ⟨RA,rn,rc,rfl,rs,hb⟩
  have RS:=zH (show New w6 (aa .i8) wm RA rn rc x.1.data from ⟨rs⟩)
  have lbr:=BR.o.lt
  have lfr:=FR.o.size
  obtain ⟨BR,FR⟩:=uz2 hb BR FR
  clear hb rs c0 c5 c7
  go_wp2_with (refine sGJ19 (tN x.1.h x.1.v x.1.c RA rn rc) BR.o ?_;intro w9 B9 g9)
  refine rG B9 ?_
  exact ⟨RA,rn,rc,rfl,(RS.o.away g9 lbr).out.more (aO lfr (lR _)),(FR.o.away g9 oM).out⟩
 rw [if_neg k8] at NQ
 have t8:(d.kind == 8)=false:=by simpa using k8
 by_cases k9:d.kind=9
 ·rw [if_pos k9] at NQ
  have S:=zH (show ∀ w,xA w A n cap a.data → Calls prog 50 #[.agg (tN a.h a.v a.c A n cap)] w (ar .i8 ((⟨1,1,n,a.data⟩,0):ae × Int).1 ((⟨1,1,n,a.data⟩,0):ae × Int).2 w) from fun w ha=>jV a A n cap w HM.o.1 ha C1.o)
  rw [← NQ.o] at S
  have KE:=zH k9
  clear k9  k4 t4 k5 t5 k6 t6 k7 t7 k8 t8 NQ q2
  go_in
  go_wp2_with (first|(refine lGJ19 BN.o ?_)|(go_at_call 44;refine qM (CK.o _ (zO HW FR) (zO HB FR)) fun w5 hb=>?_;have l5:=hb.size;obtain ⟨FR,BN,BA,BB,BR⟩:=uz5 hb FR BN BA BB BR;clear hb yw1 yw2 yw3 yw4)|(refine lGJ19 BA.o ?_)|(go_at_call 11;refine qM (RA.o _) fun w6 hb=>?_;have l6:=hb.size;obtain ⟨FR,BN,BA,BB,BR⟩:=uz5 hb FR BN BA BB BR;clear hb;have c0:=BN.o.cell 0;simp only [gX] at c0;rw [KE.o] at c0))
  refine (S.o _ (zO HA FR)).mono ?_
  rintro e wm ⟨RA,rn,rc,rfl,rs,hb⟩
  have RS:=zH (show New w6 (aa .i8) wm RA rn rc x.1.data from ⟨rs⟩)
  have lbr:=BR.o.lt
  have lfr:=FR.o.size
  obtain ⟨BR,FR⟩:=uz2 hb BR FR
  clear hb rs c0
  go_wp2_with (refine sGJ19 (tN x.1.h x.1.v x.1.c RA rn rc) BR.o ?_;intro w9 B9 g9)
  refine rG B9 ?_
  exact ⟨RA,rn,rc,rfl,(RS.o.away g9 lbr).out.more (aO lfr (lR _)),(FR.o.away g9 oM).out⟩
 rw [if_neg k9] at NQ
 have t9:(d.kind == 9)=false:=by simpa using k9
 have S:=zH (fun w ha hw hb=>qg a A n cap d W nw cw B nb cb w HM.o.1 HM.o.2.2.1 ha hw hb HM.o.2.2.2)
 rw [← NQ.o] at S
 clear k4 k5 k6 k7 k8 k9 NQ q2
 go_in
 go_wp2_with (first|(refine lGJ19 BN.o ?_)|(go_at_call 44;refine qM (CK.o _ (zO HW FR) (zO HB FR)) fun w5 hb=>?_;have l5:=hb.size;obtain ⟨FR,BN,BA,BB,BR⟩:=uz5 hb FR BN BA BB BR;clear hb yw1 yw2 yw3 yw4)|(refine lGJ19 BA.o ?_)|(go_at_call 11;refine qM (RA.o _) fun w6 hb=>?_;have l6:=hb.size;obtain ⟨FR,BN,BA,BB,BR⟩:=uz5 hb FR BN BA BB BR;clear hb;have c0:=BN.o.cell 0;simp only [gX] at c0))
 ·refine (S.o _ (zO HA FR) (zO HW FR) (zO HB FR)).mono ?_
  rintro e wm ⟨RA,rn,rc,rfl,rs,hb⟩
  have RS:=zH (show New w6 (aa .i8) wm RA rn rc x.1.data from ⟨rs⟩)
  have lbr:=BR.o.lt
  have lfr:=FR.o.size
  obtain ⟨BR,FR⟩:=uz2 hb BR FR
  clear hb rs c0
  go_wp2_with (refine sGJ19 (tN x.1.h x.1.v x.1.c RA rn rc) BR.o ?_;intro w9 B9 g9)
  refine rG B9 ?_
  exact ⟨RA,rn,rc,rfl,(RS.o.away g9 lbr).out.more (aO lfr (lR _)),(FR.o.away g9 oM).out⟩
end Go.Proofs.YtmihnoagagbgaaaGreat
namespace Go.Proofs.YtmihnoagagbgaaaGreat
open Tryz
theorem iH {x:ae} (h1:ab x.h x.v x.c=(x.data.length:Int)) (h2:0 < x.data.length):x.ok=true:=by
 unfold ae.ok
 rw [decide_eq_true_eq]
 exact ⟨by omega,h1⟩
theorem jz {U:List Int → Int} {a x:ae} {d:af} (hok:a.ok=true) (h:a8 U a d=(x,0)):aw a.h a.v a.c d.k d.s d.p a.c=((x.h,x.v,x.c),0)∧x.ok=true:=by
 have c2:(aw a.h a.v a.c d.k d.s d.p a.c).2=0:=by
  unfold a8 at h
  split at h
  ·assumption
  ·exact (Prod.mk.inj h).2
 obtain ⟨H,V,C,K,S,P,Ho,Wo,TK,WK,hx,el,ev⟩:=ja (U:=U) hok c2
 rw [ev] at h
 obtain ⟨e,-⟩:=Prod.mk.inj h
 subst e
 refine ⟨hx,iH ?_ ?_⟩
 ·simpa using el
 ·have:=WK.ho1;have:=WK.wo1;have:=WK.co1
  simp only [List.length_map,List.length_range]
  exact Nat.mul_pos (Nat.mul_pos oM oM) oM
theorem rQ {a y:ae} {d:af} (hk:d.kind=1 ∨ d.kind=2 ∨ d.kind=3) (h:bX a d=(y,0)) (h2 v2 c2:Int):aD a.h a.v a.c h2 v2 c2 d=((y.h,y.v,y.c),0):=by
 unfold bX at h
 unfold aD
 by_cases k1:d.kind=1
 ·rw [if_pos k1] at h ⊢
  unfold aS at h
  by_cases c1:a.ok=true
  ·rw [if_pos c1] at h
   by_cases c2:(aN a.h a.v a.c d).2=0
   ·obtain ⟨H,V,C,K,S,P,Ho,Wo,Co,TK,WK,hx,lw,lb,ho,el,ev⟩:=fO c1 c2
    unfold aS at ev
    rw [if_pos c1] at ev
    rw [ev] at h
    obtain ⟨e,-⟩:=Prod.mk.inj h
    subst e
    exact hx
   ·rw [if_neg c2] at h;exact absurd (Prod.mk.inj h).2 c2
  ·rw [if_neg c1] at h;cases (Prod.mk.inj h).2
 rw [if_neg k1] at h ⊢
 by_cases k2:d.kind=2
 ·rw [if_pos k2] at h ⊢
  unfold aY at h
  by_cases c1:a.ok=true
  ·rw [if_pos c1] at h
   by_cases c2:(aM a.h a.v a.c d).2=0
   ·obtain ⟨H,V,C,K,S,P,Ho,Wo,TK,WK,hx,lw,lb,el,ev⟩:=f7 c1 c2
    unfold aY at ev
    rw [if_pos c1] at ev
    rw [ev] at h
    obtain ⟨e,-⟩:=Prod.mk.inj h
    subst e
    exact hx
   ·rw [if_neg c2] at h;exact absurd (Prod.mk.inj h).2 c2
  ·rw [if_neg c1] at h;cases (Prod.mk.inj h).2
 rw [if_neg k2] at h ⊢
 have k3:d.kind=3:=oM
 rw [if_pos k3] at h ⊢
 unfold bk at h
 by_cases c1:a.ok=true
 ·rw [if_pos c1] at h
  by_cases c2:ap a.h a.v a.c d=0
  ·rw [if_pos c2] at h
   obtain ⟨e,-⟩:=Prod.mk.inj h
   subst e
   unfold ap at c2
   unfold dq
   split at c2
   ·cases c2
   ·rename_i q
    rw [if_neg q]
    split at c2
    ·cases c2
    ·rename_i r
     rw [if_neg r]
  ·rw [if_neg c2] at h;exact absurd (Prod.mk.inj h).2 c2
 ·rw [if_neg c1] at h;cases (Prod.mk.inj h).2
theorem jx {d:af} {a b x:ae} (h:dn d a b=(x,0)):aD a.h a.v a.c b.h b.v b.c d=((x.h,x.v,x.c),0)∧x.ok=true∧1≤d.kind∧d.kind≤9:=by
 unfold dn at h
 by_cases q1:bu d=0
 ·rw [if_neg (not_not_intro q1)] at h
  have hk:1≤d.kind∧d.kind≤9:=by
   unfold bu at q1
   split at q1
   ·cases q1
   ·rename_i q;exact Decidable.not_not.1 q
  by_cases q2:a.ok=true
  ·rw [if_neg (by rw [q2];decide)] at h
   have aok:=q2
   simp only [ae.ok,decide_eq_true_eq] at aok
   obtain ⟨H,V,C,TK⟩:=cY q2
   have ne0:¬ ab a.h a.v a.c=0:=oM
   have len0:0 < a.data.length:=oM
   by_cases k4:d.kind=4
   ·rw [if_pos k4] at h
    obtain ⟨e1,e2⟩:=jz q2 h
    refine ⟨?_,e2,hk⟩
    unfold aD
    rw [if_neg oM,if_neg oM,if_neg oM,if_pos (.inl k4)]
    exact e1
   rw [if_neg k4] at h
   by_cases k5:d.kind=5
   ·rw [if_pos k5] at h
    obtain ⟨e1,e2⟩:=jz q2 h
    refine ⟨?_,e2,hk⟩
    unfold aD
    rw [if_neg oM,if_neg oM,if_neg oM,if_pos (.inr k5)]
    exact e1
   rw [if_neg k5] at h
   by_cases k6:d.kind=6
   ·rw [if_pos k6] at h
    unfold dH at h
    split at h
    ·cases (Prod.mk.inj h).2
    split at h
    ·cases (Prod.mk.inj h).2
    rename_i qs
    split at h
    ·cases (Prod.mk.inj h).2
    split at h
    ·cases (Prod.mk.inj h).2
    obtain ⟨e,-⟩:=Prod.mk.inj h
    subst e
    refine ⟨?_,iH ?_ ?_,hk⟩
    ·unfold aD bJ
     rw [if_neg oM,if_neg oM,if_neg oM,if_neg oM,if_neg ne0,if_neg (fun e=>qs e.2),if_neg oM,if_neg oM]
    ·simpa using aok.2
    ·simpa using len0
   rw [if_neg k6] at h
   by_cases k7:d.kind=7
   ·rw [if_pos k7] at h
    unfold eC at h
    split at h
    ·obtain ⟨e,-⟩:=Prod.mk.inj h
     subst e
     refine ⟨?_,iH ?_ ?_,hk⟩
     ·unfold aD bJ
      rw [if_neg oM,if_neg oM,if_neg oM,if_neg oM,if_neg ne0,if_neg (fun e=>by omega),if_neg oM,if_neg oM]
     ·simpa using aok.2
     ·simpa using len0
    ·cases (Prod.mk.inj h).2
   rw [if_neg k7] at h
   by_cases k8:d.kind=8
   ·rw [if_pos k8] at h
    unfold ij at h
    split at h
    ·cases (Prod.mk.inj h).2
    rename_i qp
    have hpn:((d.p.toNat:Nat):Int)=d.p:=oM
    unfold gL at h
    rw [hpn] at h
    split at h
    ·cases (Prod.mk.inj h).2
    rename_i qe
    obtain ⟨H',V',C',q1',q2',q3',b1,b2,b3,q4',q5'⟩:=et qe
    obtain ⟨e,-⟩:=Prod.mk.inj h
    subst e
    refine ⟨?_,iH ?_ ?_,hk⟩
    ·unfold aD bJ cI
     rw [if_neg oM,if_neg oM,if_neg oM,if_neg oM,if_neg ne0,if_neg (fun e=>by omega),if_pos k8,if_neg qp,if_neg qe]
    ·simp only [List.length_map,List.length_range]
     omega
    ·simp only [List.length_map,List.length_range]
     omega
   rw [if_neg k8] at h
   by_cases k9:d.kind=9
   ·rw [if_pos k9] at h
    obtain ⟨e,-⟩:=Prod.mk.inj h
    subst e
    have hl:=TK.n_le
    have e1:ab 1 1 (a.data.length:Int)=(a.data.length:Int):=by rw [bI,if_pos oM];omega
    refine ⟨?_,iH e1 len0,hk⟩
    unfold aD bJ
    rw [if_neg oM,if_neg oM,if_neg oM,if_neg oM,if_neg ne0,if_neg (fun e=>by omega),if_neg oM,if_pos k9,aok.2]
   rw [if_neg k9] at h
   unfold iw at h
   split at h
   ·rename_i q0
    obtain ⟨⟨y,k⟩,hy⟩:∃ q,bX a d=q:=⟨_,rfl⟩
    have SN:=jU a d q0
    rw [hy] at q0 h SN
    obtain rfl:k=0:=q0
    have e1:=rQ oM hy b.h b.v b.c
    simp only at h SN
    unfold fa at h
    split at h
    ·obtain ⟨e,-⟩:=Prod.mk.inj h
     subst e
     refine ⟨e1,iH ?_ ?_,hk⟩
     ·rw [show (eD y.data d.qm d.qs d.qz d.lo d.hi).length=y.data.length by simp [eD]];exact SN.1
     ·show 0 < (eD y.data d.qm d.qs d.qz d.lo d.hi).length
      rw [show (eD y.data d.qm d.qs d.qz d.lo d.hi).length=y.data.length by simp [eD]];exact SN.2.1
    ·cases (Prod.mk.inj h).2
   ·rename_i q0
    exact absurd (Prod.mk.inj h).2 q0
  ·rw [if_pos (by simpa using q2)] at h
   cases (Prod.mk.inj h).2
 ·rw [if_pos q1] at h
  exact absurd (Prod.mk.inj h).2 q1
end Go.Proofs.YtmihnoagagbgaaaGreat
namespace Go.Proofs.YtmihnoagagbgaaaGreat
open Go.RowKit Go.ChangeShapes Go.WideShapes Tryz
set_option maxRecDepth 100000
set_option maxHeartbeats 16000000
def eK (d:af) (l:List ae):ae × Int:=dn d (l.getD d.a.toNat aj) (l.getD (aU d).toNat aj)
inductive tE where
 | on (out:List ae)
 | bad (i:Nat) (e:Int)
def gw (l:List af) (x:ae):Nat → tE
 | 0=>.on [x]
 | k+1=>match gw l x k with
  | .on out=>if (eK (l.getD k bi) out).2 ≠ 0 then .bad k (eK (l.getD k bi) out).2 else .on (out ++ [(eK (l.getD k bi) out).1])
  | .bad i e=>.bad i e
def qJ (n:Nat):tE → List ae × Int × Int
 | .on out=>(out,(n:Int),0)
 | .bad i e=>([],(i:Int),e)
def jY (l:List af) (x:ae):List ae × Int × Int :=
 if x.ok=false then ([],-1,5) else if ¬ (bh l (x.h,x.v,x.c)).2.2=0 then ([],(bh l (x.h,x.v,x.c)).2.1,(bh l (x.h,x.v,x.c)).2.2) else qJ l.length (gw l x l.length)
theorem mM {l : List af} {x : ae} {k i : Nat} {e : Int} (h : gw l x k = .bad i e) : ∀ m, k ≤ m → gw l x m = .bad i e := by
  intro m hm
  induction m with
  | zero => obtain rfl : k = 0 := by omega
            exact h
  | succ m ih =>
    by_cases hk : k = m + 1
    · subst hk; exact h
    · have := ih oM
      show (match gw l x m with | .on out => _ | .bad i e => _) = _
      rw [this]
theorem kA {l:List af} {x:ae} {k:Nat} {out:List ae} {d:af} (h:gw l x k=.on out) (hd:l[k]?=some d) :
  gw l x (k+1)=if (eK d out).2 ≠ 0 then .bad k (eK d out).2 else .on (out ++ [(eK d out).1]):=by
 have e:l.getD k bi=d:=by rw [gD,hd];rfl
 show (match gw l x k with|.on out=>_|.bad i e=>_)=_
 rw [h]
 simp only [e]
theorem mL {l:List af} {s:Sh3}:∀ {k:Nat} {out:List Sh3},cf l s k=.on out → out.length=k+1
 | 0,out,h=>by
  have h:Run.on [s]=.on out:=h
  injection h with h;rw [← h];rfl
 | k+1,out,h=>by
  have h:(match cf l s k with|.on out=>if (bs (l.getD k bi) out).2 ≠ 0 then Run.bad k (bs (l.getD k bi) out).2 else .on (out ++ [(bs (l.getD k bi) out).1])|.bad i e=>.bad i e)=.on out:=h
  cases hr:cf l s k with
  | bad i e=>rw [hr] at h;cases h
  | on o =>
   rw [hr] at h
   simp only at h
   split at h
   ·cases h
   ·injection h with h
    rw [← h,List.length_append,mL hr];rfl
theorem jG {l:List af} {s:Sh3}:∀ {m:Nat} {out:List Sh3},cf l s m=.on out → ∀ k d,k < m → l[k]?=some d → bm d ((k+1:Nat):Int)=true
 | 0,_,_,_,_,hk,_=>absurd hk (Nat.not_lt_zero _)
 | m+1,out,h,k,d,hk,hd=>by
  have h:(match cf l s m with|.on out=>if (bs (l.getD m bi) out).2 ≠ 0 then Run.bad m (bs (l.getD m bi) out).2 else .on (out ++ [(bs (l.getD m bi) out).1])|.bad i e=>.bad i e)=.on out:=h
  cases hr:cf l s m with
  | bad i e=>rw [hr] at h;cases h
  | on o =>
   by_cases hkm:k < m
   ·exact jG hr k d hkm hd
   ·obtain rfl:k=m:=oM
    rw [hr] at h
    simp only at h
    have e:l.getD k bi=d:=by rw [gD,hd];rfl
    rw [e] at h
    split at h
    ·cases h
    ·rename_i q
     have q:(bs d o).2=0:=Decidable.not_not.1 q
     have hl:=mL hr
     unfold bs at q
     by_cases c1:bu d ≠ 0
     ·rw [if_pos c1] at q;exact absurd q c1
     ·rw [if_neg c1] at q
      by_cases c2:bm d o.length=false
      ·rw [if_pos c2] at q;cases q
      ·rw [hl] at c2
       simpa using c2
theorem kv {l:List af} {s:Sh3} {i:Nat}:∀ m,cf l s m=.bad i 0 → False
 | 0,h=>by cases (show Run.on [s]=.bad i 0 from h)
 | m+1,h=>by
  have h:(match cf l s m with|.on out=>if (bs (l.getD m bi) out).2 ≠ 0 then Run.bad m (bs (l.getD m bi) out).2 else .on (out ++ [(bs (l.getD m bi) out).1])|.bad i e=>.bad i e)=.bad i 0:=h
  cases hr:cf l s m with
  | bad j e=>rw [hr] at h;injection h with h1 h2;subst h1 h2;exact kv m hr
  | on o =>
   rw [hr] at h
   simp only at h
   split at h
   ·rename_i q
    injection h with h1 h2
    exact q h2
   ·cases h
theorem iu {l:List af} {s:Sh3} (h:(bh l s).2.2=0):l.length≤8∧0 < l.length∧∀ (k:Nat) (d:af),l[k]?=some d → bm d ((k+1:Nat):Int)=true:=by
 unfold bh at h
 split at h
 ·cases h
 split at h
 ·cases h
 split at h
 ·cases h
 rename_i c1 c2 c3
 refine ⟨by omega,by omega,fun k d hd=>?_⟩
 cases hr:cf l s l.length with
 | bad i e =>
  exfalso
  rw [hr] at h
  have h:e=0:=h
  subst h
  exact kv l.length hr
 | on o=>exact jG hr k d (List.getElem?_eq_some_iff.1 hd).1 hd
theorem ml {d:af} {l:List ae} (h:(eK d l).2=0):(eK d l).1.ok=true:=by
 unfold eK at *
 exact (jx (x:=(dn d (l.getD d.a.toNat aj) (l.getD (aU d).toNat aj)).1) (by rw [← h])).2.1
end Go.Proofs.YtmihnoagagbgaaaGreat
