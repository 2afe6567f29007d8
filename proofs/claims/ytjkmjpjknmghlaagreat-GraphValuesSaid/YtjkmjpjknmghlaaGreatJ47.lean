/-
  What a node makes (layer 26: run.Node).
  The shape of what a node makes is the one that is told ahead (layers 25, 26), in numbers.
  All values of a block's nodes (layer 27), as plain lists.
-/
import Derived.Test.YtjkmjpjknmghlaaGreatJ46
import Derived.Test.YtjkmjpjknmghlaaGreatJ33
import Derived.Test.YtjkmjpjknmghlaaGreatJ38
import Derived.Test.YtjkmjpjknmghlaaGreatJ39
set_option linter.unusedVariables false
set_option linter.unusedSimpArgs false
namespace Go.Proofs.YtjkmjpjknmghlaaGreat
open Go.RowKit Go.ChangeShapes Go.WideShapes
set_option maxRecDepth 100000
set_option maxHeartbeats 4000000
def nodeQ (d:Node) (a b:Tensor):Tensor × Int :=
 if ¬ checkV d=0 then (noTensor,checkV d) else if a.ok=false then (noTensor,5) else if d.kind=4 then poolQ maxU a d else if d.kind=5 then poolQ meanV a d else if d.kind=6 then joinQ a b d else if d.kind=7 then actQ a d else if d.kind=8 then padO a d.p d.za else if d.kind=9 then (⟨1,1,a.data.length,a.data⟩,0) else sumQ a d
theorem runNode_any (d:Node) (W:Option Addr) (nw cw:Nat) (B:Option Addr) (nb cb:Nat) (a b:Tensor) (A A':Option Addr) (n cap n' cap':Nat) (w:World) (ht:TensorIn a) (hu:TensorIn b) (hd:NodeIn d)
  (hw:Sl (tInt .i8) w (blo w.heap.size) W nw cw d.w) (hbi:Sl (tInt .i32) w (blo w.heap.size) B nb cb d.bias) (ha:Sl (tInt .i8) w (blo w.heap.size) A n cap a.data) (hbs:Sl (tInt .i8) w (blo w.heap.size) A' n' cap' b.data) (mw:nw≤2000∧nb≤200) :
  Calls Tryz.prog 27 #[.agg (nN d.kind d.a d.b d.k d.s d.p d.out d.za d.zb W nw cw B nb cb d.qm d.qs d.qz d.rm d.rs d.rz d.lo d.hi),.agg (tN a.h a.v a.c A n cap),.agg (tN b.h b.v b.c A' n' cap')] w (RetT .i8 (nodeQ d a b).1 (nodeQ d a b).2 w):=by
 have HW:=zH hw
 have HB:=zH hbi
 have HA:=zH ha
 have HB2:=zH hbs
 have CK:=zH (fun w hw hb=>kcheck_any d W nw cw B nb cb w hw hb (by omega) (by omega))
 have c1':decide (0 < elems a.h a.v a.c∧elems a.h a.v a.c=n)=a.ok:=by unfold Tensor.ok;rw [HA.out.n_eq]
 have RA:=zH (fun w=>tensorRight_any a.h a.v a.c A n cap w ht.h ht.v ht.c (Nat.le_trans ha.cap_le ha.max_le))
 rw [c1'] at RA
 have en:a.data.length=n:=ha.n_eq
 have NQ:=zH (show nodeQ d a b=if ¬ checkV d=0 then (noTensor,checkV d) else if a.ok=false then (noTensor,5) else if d.kind=4 then poolQ maxU a d else if d.kind=5 then poolQ meanV a d else if d.kind=6 then joinQ a b d else if d.kind=7 then actQ a d else if d.kind=8 then padO a d.p d.za else if d.kind=9 then (⟨1,1,n,a.data⟩,0) else sumQ a d by unfold nodeQ;rw [en])
 obtain ⟨x,hx⟩:∃ x,nodeQ d a b=x:=⟨_,rfl⟩
 rw [hx] at NQ ⊢
 have FR:=zH (Far.refl w)
 obtain ⟨w1,hw_w1,BN,k_w1⟩:=nB w (nN d.kind d.a d.b d.k d.s d.p d.out d.za d.zb W nw cw B nb cb d.qm d.qs d.qz d.rm d.rs d.rz d.lo d.hi) 44
 replace FR:=zH (FR.out.fut k_w1)
 clear k_w1
 obtain ⟨w2,hw_w2,BA,k_w2⟩:=nB w1 (tN a.h a.v a.c A n cap) 27
 replace FR:=zH (FR.out.fut k_w2)
 replace BN:=zH (BN.out.fut k_w2)
 clear k_w2
 obtain ⟨w3,hw_w3,BB,k_w3⟩:=nB w2 (tN b.h b.v b.c A' n' cap') 27
 replace FR:=zH (FR.out.fut k_w3)
 replace BN:=zH (BN.out.fut k_w3)
 replace BA:=zH (BA.out.fut k_w3)
 clear k_w3
 obtain ⟨w4,hw_w4,BR,k_w4⟩:=nB w3 (tN 0 0 0 none 0 0) 27
 replace FR:=zH (FR.out.fut k_w4)
 replace BN:=zH (BN.out.fut k_w4)
 replace BA:=zH (BA.out.fut k_w4)
 replace BB:=zH (BB.out.fut k_w4)
 clear k_w4
 have l1:w.heap.size < w1.heap.size:=by rw [← hw_w1];simp
 have l2:w1.heap.size < w2.heap.size:=by rw [← hw_w2];simp
 have l3:w2.heap.size < w3.heap.size:=by rw [← hw_w3];simp
 have l4:w3.heap.size < w4.heap.size:=by rw [← hw_w4];simp
 have HM:=zH (And.intro ht (And.intro hu (And.intro hd mw)))
 have mxa:n≤9223372036854775807:=Nat.le_trans ha.cap_le ha.max_le
 have hok0:=zH (show a.ok=true → a.ok=true from id)
 clear c1' en hx ht hu hd hw hbi ha hbs mw
 obtain ⟨ck,hck⟩:∃ k,checkV d=k:=⟨_,rfl⟩
 rw [hck] at CK NQ
 clear hck
 by_cases q1:¬ ck=0
 ·rw [if_pos q1] at NQ
  rw [NQ.out]
  have hk2:(ck != 0)=true:=by rw [bne_iff_ne];exact q1
  clear q1 NQ
  go_enter Tryz.func27,Tryz.ntmps27
  go_wp2_with (first|(refine lB 44 (.tmp 3) w.heap.size BN.out Tryz.underlying44 ?_)|(go_at_call 41;refine (CK.out _ ((Old.now HW.out).fut FR.out.out).all ((Old.now HB.out).fut FR.out.out).all).mono ?_;rintro e w5 ⟨rfl,hb⟩;have l5:=hb.size;replace FR:=zH (FR.out.fut hb);replace BN:=zH (BN.out.fut hb);replace BA:=zH (BA.out.fut hb);replace BB:=zH (BB.out.fut hb);replace BR:=zH (BR.out.fut hb);clear hb hw_w1 hw_w2 hw_w3 hw_w4)|(refine sB 27 (.tmp 6) (.tmp 13) w3.heap.size (tN 0 0 0 none 0 0) BR.out ?_;intro w9 B9 g9))
  refine rC B9 Tryz.underlying27 ?_
  exact RetT.none (FR.out.away g9 (by omega)).out
 rw [if_neg q1] at NQ
 rw [Decidable.not_not] at q1
 subst q1
 by_cases q2:a.ok=false
 ·rw [if_pos q2] at NQ
  rw [q2] at RA
  rw [NQ.out]
  clear q2 NQ
  go_enter Tryz.func27,Tryz.ntmps27
  go_wp2_with (first|(refine lB 44 (.tmp 3) w.heap.size BN.out Tryz.underlying44 ?_)|(go_at_call 41;refine (CK.out _ ((Old.now HW.out).fut FR.out.out).all ((Old.now HB.out).fut FR.out.out).all).mono ?_;rintro e w5 ⟨rfl,hb⟩;have l5:=hb.size;replace FR:=zH (FR.out.fut hb);replace BN:=zH (BN.out.fut hb);replace BA:=zH (BA.out.fut hb);replace BB:=zH (BB.out.fut hb);replace BR:=zH (BR.out.fut hb);clear hb hw_w1 hw_w2 hw_w3 hw_w4)|(refine lB 27 (.tmp 4) w1.heap.size BA.out Tryz.underlying27 ?_)|(go_at_call 13;refine (RA.out _).mono ?_;rintro e w6 ⟨rfl,hb⟩;have l6:=hb.size;replace FR:=zH (FR.out.fut hb);replace BN:=zH (BN.out.fut hb);replace BA:=zH (BA.out.fut hb);replace BB:=zH (BB.out.fut hb);replace BR:=zH (BR.out.fut hb);clear hb)|(refine sB 27 (.tmp 6) (.tmp 18) w3.heap.size (tN 0 0 0 none 0 0) BR.out ?_;intro w9 B9 g9))
  refine rC B9 Tryz.underlying27 ?_
  exact RetT.none (FR.out.away g9 (by omega)).out
 rw [if_neg q2] at NQ
 rw [Bool.not_eq_false] at q2
 rw [q2] at RA
 have C1:=zH q2
 by_cases k4:d.kind=4
 ·rw [if_pos k4] at NQ
  have S:=zH (fun w ha=>poolMax_any a A n cap d W nw cw B nb cb w ha C1.out)
  rw [← NQ.out] at S
  have KE:=zH k4
  clear k4  NQ q2
  go_enter Tryz.func27,Tryz.ntmps27
  go_wp2_with (first|(refine lB 44 (.tmp 3) w.heap.size BN.out Tryz.underlying44 ?_)|(go_at_call 41;refine (CK.out _ ((Old.now HW.out).fut FR.out.out).all ((Old.now HB.out).fut FR.out.out).all).mono ?_;rintro e w5 ⟨rfl,hb⟩;have l5:=hb.size;replace FR:=zH (FR.out.fut hb);replace BN:=zH (BN.out.fut hb);replace BA:=zH (BA.out.fut hb);replace BB:=zH (BB.out.fut hb);replace BR:=zH (BR.out.fut hb);clear hb hw_w1 hw_w2 hw_w3 hw_w4)|(refine lB 27 (.tmp 4) w1.heap.size BA.out Tryz.underlying27 ?_)|(go_at_call 13;refine (RA.out _).mono ?_;rintro e w6 ⟨rfl,hb⟩;have l6:=hb.size;replace FR:=zH (FR.out.fut hb);replace BN:=zH (BN.out.fut hb);replace BA:=zH (BA.out.fut hb);replace BB:=zH (BB.out.fut hb);replace BR:=zH (BR.out.fut hb);clear hb;have c0:=BN.out.cell 0;simp only [gX] at c0;rw [KE.out] at c0))
  refine (S.out _ ((Old.now HA.out).fut FR.out.out).all).mono ?_
  rintro e wm ⟨RA,rn,rc,rfl,rs,hb⟩
  have RS:=zH (show New w6 (tInt .i8) wm RA rn rc x.1.data from ⟨rs⟩)
  have lbr:=BR.out.lt
  have lfr:=FR.out.size
  replace BR:=zH (BR.out.fut hb)
  replace FR:=zH (FR.out.fut hb)
  clear hb rs c0
  go_wp2_with (refine sB 27 (.tmp 6) (.tmp 26) w3.heap.size (tN x.1.h x.1.v x.1.c RA rn rc) BR.out ?_;intro w9 B9 g9)
  refine rC B9 Tryz.underlying27 ?_
  exact ⟨RA,rn,rc,rfl,(RS.out.away g9 lbr).out.more (bin_more lfr (Nat.le_refl _)),(FR.out.away g9 (by omega)).out⟩
 rw [if_neg k4] at NQ
 have t4:(d.kind == 4)=false:=by simpa using k4
 by_cases k5:d.kind=5
 ·rw [if_pos k5] at NQ
  have S:=zH (fun w ha=>poolMean2_any a A n cap d W nw cw B nb cb w ha C1.out)
  rw [← NQ.out] at S
  have KE:=zH k5
  clear k5  k4 t4 NQ q2
  go_enter Tryz.func27,Tryz.ntmps27
  go_wp2_with (first|(refine lB 44 (.tmp 3) w.heap.size BN.out Tryz.underlying44 ?_)|(go_at_call 41;refine (CK.out _ ((Old.now HW.out).fut FR.out.out).all ((Old.now HB.out).fut FR.out.out).all).mono ?_;rintro e w5 ⟨rfl,hb⟩;have l5:=hb.size;replace FR:=zH (FR.out.fut hb);replace BN:=zH (BN.out.fut hb);replace BA:=zH (BA.out.fut hb);replace BB:=zH (BB.out.fut hb);replace BR:=zH (BR.out.fut hb);clear hb hw_w1 hw_w2 hw_w3 hw_w4)|(refine lB 27 (.tmp 4) w1.heap.size BA.out Tryz.underlying27 ?_)|(go_at_call 13;refine (RA.out _).mono ?_;rintro e w6 ⟨rfl,hb⟩;have l6:=hb.size;replace FR:=zH (FR.out.fut hb);replace BN:=zH (BN.out.fut hb);replace BA:=zH (BA.out.fut hb);replace BB:=zH (BB.out.fut hb);replace BR:=zH (BR.out.fut hb);clear hb;have c0:=BN.out.cell 0;simp only [gX] at c0;rw [KE.out] at c0))
  refine (S.out _ ((Old.now HA.out).fut FR.out.out).all).mono ?_
  rintro e wm ⟨RA,rn,rc,rfl,rs,hb⟩
  have RS:=zH (show New w6 (tInt .i8) wm RA rn rc x.1.data from ⟨rs⟩)
  have lbr:=BR.out.lt
  have lfr:=FR.out.size
  replace BR:=zH (BR.out.fut hb)
  replace FR:=zH (FR.out.fut hb)
  clear hb rs c0
  go_wp2_with (refine sB 27 (.tmp 6) (.tmp 33) w3.heap.size (tN x.1.h x.1.v x.1.c RA rn rc) BR.out ?_;intro w9 B9 g9)
  refine rC B9 Tryz.underlying27 ?_
  exact ⟨RA,rn,rc,rfl,(RS.out.away g9 lbr).out.more (bin_more lfr (Nat.le_refl _)),(FR.out.away g9 (by omega)).out⟩
 rw [if_neg k5] at NQ
 have t5:(d.kind == 5)=false:=by simpa using k5
 by_cases k6:d.kind=6
 ·rw [if_pos k6] at NQ
  have S:=zH (fun w ha hbs=>joinOf_any a b A A' n cap n' cap' d W nw cw B nb cb w HM.out.1 HM.out.2.1 HM.out.2.2.1 ha hbs C1.out)
  rw [← NQ.out] at S
  have KE:=zH k6
  clear k6  k4 t4 k5 t5 NQ q2
  go_enter Tryz.func27,Tryz.ntmps27
  go_wp2_with (first|(refine lB 44 (.tmp 3) w.heap.size BN.out Tryz.underlying44 ?_)|(go_at_call 41;refine (CK.out _ ((Old.now HW.out).fut FR.out.out).all ((Old.now HB.out).fut FR.out.out).all).mono ?_;rintro e w5 ⟨rfl,hb⟩;have l5:=hb.size;replace FR:=zH (FR.out.fut hb);replace BN:=zH (BN.out.fut hb);replace BA:=zH (BA.out.fut hb);replace BB:=zH (BB.out.fut hb);replace BR:=zH (BR.out.fut hb);clear hb hw_w1 hw_w2 hw_w3 hw_w4)|(refine lB 27 (.tmp 4) w1.heap.size BA.out Tryz.underlying27 ?_)|(go_at_call 13;refine (RA.out _).mono ?_;rintro e w6 ⟨rfl,hb⟩;have l6:=hb.size;replace FR:=zH (FR.out.fut hb);replace BN:=zH (BN.out.fut hb);replace BA:=zH (BA.out.fut hb);replace BB:=zH (BB.out.fut hb);replace BR:=zH (BR.out.fut hb);clear hb;have c0:=BN.out.cell 0;simp only [gX] at c0;rw [KE.out] at c0)|(refine lB 27 (.tmp 5) w2.heap.size BB.out Tryz.underlying27 ?_))
  refine (S.out _ ((Old.now HA.out).fut FR.out.out).all ((Old.now HB2.out).fut FR.out.out).all).mono ?_
  rintro e wm ⟨RA,rn,rc,rfl,rs,hb⟩
  have RS:=zH (show New w6 (tInt .i8) wm RA rn rc x.1.data from ⟨rs⟩)
  have lbr:=BR.out.lt
  have lfr:=FR.out.size
  replace BR:=zH (BR.out.fut hb)
  replace FR:=zH (FR.out.fut hb)
  clear hb rs c0
  go_wp2_with (refine sB 27 (.tmp 6) (.tmp 41) w3.heap.size (tN x.1.h x.1.v x.1.c RA rn rc) BR.out ?_;intro w9 B9 g9)
  refine rC B9 Tryz.underlying27 ?_
  exact ⟨RA,rn,rc,rfl,(RS.out.away g9 lbr).out.more (bin_more lfr (Nat.le_refl _)),(FR.out.away g9 (by omega)).out⟩
 rw [if_neg k6] at NQ
 have t6:(d.kind == 6)=false:=by simpa using k6
 by_cases k7:d.kind=7
 ·rw [if_pos k7] at NQ
  have S:=zH (fun w ha=>actOf_any a A n cap d W nw cw B nb cb w HM.out.1 HM.out.2.2.1 ha C1.out)
  rw [← NQ.out] at S
  have KE:=zH k7
  clear k7  k4 t4 k5 t5 k6 t6 NQ q2
  go_enter Tryz.func27,Tryz.ntmps27
  go_wp2_with (first|(refine lB 44 (.tmp 3) w.heap.size BN.out Tryz.underlying44 ?_)|(go_at_call 41;refine (CK.out _ ((Old.now HW.out).fut FR.out.out).all ((Old.now HB.out).fut FR.out.out).all).mono ?_;rintro e w5 ⟨rfl,hb⟩;have l5:=hb.size;replace FR:=zH (FR.out.fut hb);replace BN:=zH (BN.out.fut hb);replace BA:=zH (BA.out.fut hb);replace BB:=zH (BB.out.fut hb);replace BR:=zH (BR.out.fut hb);clear hb hw_w1 hw_w2 hw_w3 hw_w4)|(refine lB 27 (.tmp 4) w1.heap.size BA.out Tryz.underlying27 ?_)|(go_at_call 13;refine (RA.out _).mono ?_;rintro e w6 ⟨rfl,hb⟩;have l6:=hb.size;replace FR:=zH (FR.out.fut hb);replace BN:=zH (BN.out.fut hb);replace BA:=zH (BA.out.fut hb);replace BB:=zH (BB.out.fut hb);replace BR:=zH (BR.out.fut hb);clear hb;have c0:=BN.out.cell 0;simp only [gX] at c0;rw [KE.out] at c0))
  refine (S.out _ ((Old.now HA.out).fut FR.out.out).all).mono ?_
  rintro e wm ⟨RA,rn,rc,rfl,rs,hb⟩
  have RS:=zH (show New w6 (tInt .i8) wm RA rn rc x.1.data from ⟨rs⟩)
  have lbr:=BR.out.lt
  have lfr:=FR.out.size
  replace BR:=zH (BR.out.fut hb)
  replace FR:=zH (FR.out.fut hb)
  clear hb rs c0
  go_wp2_with (refine sB 27 (.tmp 6) (.tmp 48) w3.heap.size (tN x.1.h x.1.v x.1.c RA rn rc) BR.out ?_;intro w9 B9 g9)
  refine rC B9 Tryz.underlying27 ?_
  exact ⟨RA,rn,rc,rfl,(RS.out.away g9 lbr).out.more (bin_more lfr (Nat.le_refl _)),(FR.out.away g9 (by omega)).out⟩
 rw [if_neg k7] at NQ
 have t7:(d.kind == 7)=false:=by simpa using k7
 by_cases k8:d.kind=8
 ·rw [if_pos k8] at NQ
  have S:=zH (fun w ha=>around_any a d.p A n cap d.za w HM.out.1 ha C1.out HM.out.2.2.1.za)
  rw [← NQ.out] at S
  have KE:=zH k8
  clear k8  k4 t4 k5 t5 k6 t6 k7 t7 NQ q2
  go_enter Tryz.func27,Tryz.ntmps27
  go_wp2_with (first|(refine lB 44 (.tmp 3) w.heap.size BN.out Tryz.underlying44 ?_)|(go_at_call 41;refine (CK.out _ ((Old.now HW.out).fut FR.out.out).all ((Old.now HB.out).fut FR.out.out).all).mono ?_;rintro e w5 ⟨rfl,hb⟩;have l5:=hb.size;replace FR:=zH (FR.out.fut hb);replace BN:=zH (BN.out.fut hb);replace BA:=zH (BA.out.fut hb);replace BB:=zH (BB.out.fut hb);replace BR:=zH (BR.out.fut hb);clear hb hw_w1 hw_w2 hw_w3 hw_w4)|(refine lB 27 (.tmp 4) w1.heap.size BA.out Tryz.underlying27 ?_)|(go_at_call 13;refine (RA.out _).mono ?_;rintro e w6 ⟨rfl,hb⟩;have l6:=hb.size;replace FR:=zH (FR.out.fut hb);replace BN:=zH (BN.out.fut hb);replace BA:=zH (BA.out.fut hb);replace BB:=zH (BB.out.fut hb);replace BR:=zH (BR.out.fut hb);clear hb;have c0:=BN.out.cell 0;simp only [gX] at c0;rw [KE.out] at c0;have c5:=BN.out.cell 5;have c7:=BN.out.cell 7;simp only [gX] at c5 c7))
  refine (S.out _ ((Old.now HA.out).fut FR.out.out).all).mono ?_
  rintro e wm ⟨RA,rn,rc,rfl,rs,hb⟩
  have RS:=zH (show New w6 (tInt .i8) wm RA rn rc x.1.data from ⟨rs⟩)
  have lbr:=BR.out.lt
  have lfr:=FR.out.size
  replace BR:=zH (BR.out.fut hb)
  replace FR:=zH (FR.out.fut hb)
  clear hb rs c0 c5 c7
  go_wp2_with (refine sB 27 (.tmp 6) (.tmp 58) w3.heap.size (tN x.1.h x.1.v x.1.c RA rn rc) BR.out ?_;intro w9 B9 g9)
  refine rC B9 Tryz.underlying27 ?_
  exact ⟨RA,rn,rc,rfl,(RS.out.away g9 lbr).out.more (bin_more lfr (Nat.le_refl _)),(FR.out.away g9 (by omega)).out⟩
 rw [if_neg k8] at NQ
 have t8:(d.kind == 8)=false:=by simpa using k8
 by_cases k9:d.kind=9
 ·rw [if_pos k9] at NQ
  have S:=zH (show ∀ w,Sl (tInt .i8) w (blo w.heap.size) A n cap a.data → Calls Tryz.prog 48 #[.agg (tN a.h a.v a.c A n cap)] w (RetT .i8 ((⟨1,1,n,a.data⟩,0):Tensor × Int).1 ((⟨1,1,n,a.data⟩,0):Tensor × Int).2 w) from fun w ha=>tensorFlat_any a A n cap w HM.out.1 ha C1.out)
  rw [← NQ.out] at S
  have KE:=zH k9
  clear k9  k4 t4 k5 t5 k6 t6 k7 t7 k8 t8 NQ q2
  go_enter Tryz.func27,Tryz.ntmps27
  go_wp2_with (first|(refine lB 44 (.tmp 3) w.heap.size BN.out Tryz.underlying44 ?_)|(go_at_call 41;refine (CK.out _ ((Old.now HW.out).fut FR.out.out).all ((Old.now HB.out).fut FR.out.out).all).mono ?_;rintro e w5 ⟨rfl,hb⟩;have l5:=hb.size;replace FR:=zH (FR.out.fut hb);replace BN:=zH (BN.out.fut hb);replace BA:=zH (BA.out.fut hb);replace BB:=zH (BB.out.fut hb);replace BR:=zH (BR.out.fut hb);clear hb hw_w1 hw_w2 hw_w3 hw_w4)|(refine lB 27 (.tmp 4) w1.heap.size BA.out Tryz.underlying27 ?_)|(go_at_call 13;refine (RA.out _).mono ?_;rintro e w6 ⟨rfl,hb⟩;have l6:=hb.size;replace FR:=zH (FR.out.fut hb);replace BN:=zH (BN.out.fut hb);replace BA:=zH (BA.out.fut hb);replace BB:=zH (BB.out.fut hb);replace BR:=zH (BR.out.fut hb);clear hb;have c0:=BN.out.cell 0;simp only [gX] at c0;rw [KE.out] at c0))
  refine (S.out _ ((Old.now HA.out).fut FR.out.out).all).mono ?_
  rintro e wm ⟨RA,rn,rc,rfl,rs,hb⟩
  have RS:=zH (show New w6 (tInt .i8) wm RA rn rc x.1.data from ⟨rs⟩)
  have lbr:=BR.out.lt
  have lfr:=FR.out.size
  replace BR:=zH (BR.out.fut hb)
  replace FR:=zH (FR.out.fut hb)
  clear hb rs c0
  go_wp2_with (refine sB 27 (.tmp 6) (.tmp 64) w3.heap.size (tN x.1.h x.1.v x.1.c RA rn rc) BR.out ?_;intro w9 B9 g9)
  refine rC B9 Tryz.underlying27 ?_
  exact ⟨RA,rn,rc,rfl,(RS.out.away g9 lbr).out.more (bin_more lfr (Nat.le_refl _)),(FR.out.away g9 (by omega)).out⟩
 rw [if_neg k9] at NQ
 have t9:(d.kind == 9)=false:=by simpa using k9
 have S:=zH (fun w ha hw hb=>summed_any a A n cap d W nw cw B nb cb w HM.out.1 HM.out.2.2.1 ha hw hb HM.out.2.2.2)
 rw [← NQ.out] at S
 clear k4 k5 k6 k7 k8 k9 NQ q2
 go_enter Tryz.func27,Tryz.ntmps27
 go_wp2_with (first|(refine lB 44 (.tmp 3) w.heap.size BN.out Tryz.underlying44 ?_)|(go_at_call 41;refine (CK.out _ ((Old.now HW.out).fut FR.out.out).all ((Old.now HB.out).fut FR.out.out).all).mono ?_;rintro e w5 ⟨rfl,hb⟩;have l5:=hb.size;replace FR:=zH (FR.out.fut hb);replace BN:=zH (BN.out.fut hb);replace BA:=zH (BA.out.fut hb);replace BB:=zH (BB.out.fut hb);replace BR:=zH (BR.out.fut hb);clear hb hw_w1 hw_w2 hw_w3 hw_w4)|(refine lB 27 (.tmp 4) w1.heap.size BA.out Tryz.underlying27 ?_)|(go_at_call 13;refine (RA.out _).mono ?_;rintro e w6 ⟨rfl,hb⟩;have l6:=hb.size;replace FR:=zH (FR.out.fut hb);replace BN:=zH (BN.out.fut hb);replace BA:=zH (BA.out.fut hb);replace BB:=zH (BB.out.fut hb);replace BR:=zH (BR.out.fut hb);clear hb;have c0:=BN.out.cell 0;simp only [gX] at c0))
 ·refine (S.out _ ((Old.now HA.out).fut FR.out.out).all ((Old.now HW.out).fut FR.out.out).all ((Old.now HB.out).fut FR.out.out).all).mono ?_
  rintro e wm ⟨RA,rn,rc,rfl,rs,hb⟩
  have RS:=zH (show New w6 (tInt .i8) wm RA rn rc x.1.data from ⟨rs⟩)
  have lbr:=BR.out.lt
  have lfr:=FR.out.size
  replace BR:=zH (BR.out.fut hb)
  replace FR:=zH (FR.out.fut hb)
  clear hb rs c0
  go_wp2_with (refine sB 27 (.tmp 6) (.tmp 69) w3.heap.size (tN x.1.h x.1.v x.1.c RA rn rc) BR.out ?_;intro w9 B9 g9)
  refine rC B9 Tryz.underlying27 ?_
  exact ⟨RA,rn,rc,rfl,(RS.out.away g9 lbr).out.more (bin_more lfr (Nat.le_refl _)),(FR.out.away g9 (by omega)).out⟩
end Go.Proofs.YtjkmjpjknmghlaaGreat
namespace Go.Proofs.YtjkmjpjknmghlaaGreat
theorem ok_of {x:Tensor} (h1:elems x.h x.v x.c=(x.data.length:Int)) (h2:0 < x.data.length):x.ok=true:=by
 unfold Tensor.ok
 rw [decide_eq_true_eq]
 exact ⟨by omega,h1⟩
theorem pool_shape {U:List Int → Int} {a x:Tensor} {d:Node} (hok:a.ok=true) (h:poolQ U a d=(x,0)):slideV a.h a.v a.c d.k d.s d.p a.c=((x.h,x.v,x.c),0)∧x.ok=true:=by
 have c2:(slideV a.h a.v a.c d.k d.s d.p a.c).2=0:=by
  unfold poolQ at h
  split at h
  ·assumption
  ·exact (Prod.mk.inj h).2
 obtain ⟨H,V,C,K,S,P,Ho,Wo,TK,WK,hx,el,ev⟩:=pool_nat (U:=U) hok c2
 rw [ev] at h
 obtain ⟨e,-⟩:=Prod.mk.inj h
 subst e
 refine ⟨hx,ok_of ?_ ?_⟩
 ·simpa using el
 ·have:=WK.ho1;have:=WK.wo1;have:=WK.co1
  simp only [List.length_map,List.length_range]
  exact Nat.mul_pos (Nat.mul_pos (by omega) (by omega)) (by omega)
theorem sum_shape {a y:Tensor} {d:Node} (hk:d.kind=1 ∨ d.kind=2 ∨ d.kind=3) (h:sumOf a d=(y,0)) (h2 v2 c2:Int):shapeV a.h a.v a.c h2 v2 c2 d=((y.h,y.v,y.c),0):=by
 unfold sumOf at h
 unfold shapeV
 by_cases k1:d.kind=1
 ·rw [if_pos k1] at h ⊢
  unfold convOf at h
  by_cases c1:a.ok=true
  ·rw [if_pos c1] at h
   by_cases c2:(convV a.h a.v a.c d).2=0
   ·obtain ⟨H,V,C,K,S,P,Ho,Wo,Co,TK,WK,hx,lw,lb,ho,el,ev⟩:=conv_nat c1 c2
    unfold convOf at ev
    rw [if_pos c1] at ev
    rw [ev] at h
    obtain ⟨e,-⟩:=Prod.mk.inj h
    subst e
    exact hx
   ·rw [if_neg c2] at h;exact absurd (Prod.mk.inj h).2 c2
  ·rw [if_neg c1] at h;cases (Prod.mk.inj h).2
 rw [if_neg k1] at h ⊢
 by_cases k2:d.kind=2
 ·rw [if_pos k2] at h ⊢
  unfold depthOf at h
  by_cases c1:a.ok=true
  ·rw [if_pos c1] at h
   by_cases c2:(depthV a.h a.v a.c d).2=0
   ·obtain ⟨H,V,C,K,S,P,Ho,Wo,TK,WK,hx,lw,lb,el,ev⟩:=depth_nat c1 c2
    unfold depthOf at ev
    rw [if_pos c1] at ev
    rw [ev] at h
    obtain ⟨e,-⟩:=Prod.mk.inj h
    subst e
    exact hx
   ·rw [if_neg c2] at h;exact absurd (Prod.mk.inj h).2 c2
  ·rw [if_neg c1] at h;cases (Prod.mk.inj h).2
 rw [if_neg k2] at h ⊢
 have k3:d.kind=3:=by omega
 rw [if_pos k3] at h ⊢
 unfold denseOf at h
 by_cases c1:a.ok=true
 ·rw [if_pos c1] at h
  by_cases c2:denseCode a.h a.v a.c d=0
  ·rw [if_pos c2] at h
   obtain ⟨e,-⟩:=Prod.mk.inj h
   subst e
   unfold denseCode at c2
   unfold denseV
   split at c2
   ·cases c2
   ·rename_i q
    rw [if_neg q]
    split at c2
    ·cases c2
    ·rename_i r
     rw [if_neg r]
  ·rw [if_neg c2] at h;exact absurd (Prod.mk.inj h).2 c2
 ·rw [if_neg c1] at h;cases (Prod.mk.inj h).2
theorem node_shape {d:Node} {a b x:Tensor} (h:nodeQ d a b=(x,0)):shapeV a.h a.v a.c b.h b.v b.c d=((x.h,x.v,x.c),0)∧x.ok=true∧1≤d.kind∧d.kind≤9:=by
 unfold nodeQ at h
 by_cases q1:checkV d=0
 ·rw [if_neg (not_not_intro q1)] at h
  have hk:1≤d.kind∧d.kind≤9:=by
   unfold checkV at q1
   split at q1
   ·cases q1
   ·rename_i q;exact Decidable.not_not.1 q
  by_cases q2:a.ok=true
  ·rw [if_neg (by rw [q2];decide)] at h
   have aok:=q2
   simp only [Tensor.ok,decide_eq_true_eq] at aok
   obtain ⟨H,V,C,TK⟩:=tok_of q2
   have ne0:¬ elems a.h a.v a.c=0:=by omega
   have len0:0 < a.data.length:=by omega
   by_cases k4:d.kind=4
   ·rw [if_pos k4] at h
    obtain ⟨e1,e2⟩:=pool_shape q2 h
    refine ⟨?_,e2,hk⟩
    unfold shapeV
    rw [if_neg (by omega),if_neg (by omega),if_neg (by omega),if_pos (.inl k4)]
    exact e1
   rw [if_neg k4] at h
   by_cases k5:d.kind=5
   ·rw [if_pos k5] at h
    obtain ⟨e1,e2⟩:=pool_shape q2 h
    refine ⟨?_,e2,hk⟩
    unfold shapeV
    rw [if_neg (by omega),if_neg (by omega),if_neg (by omega),if_pos (.inr k5)]
    exact e1
   rw [if_neg k5] at h
   by_cases k6:d.kind=6
   ·rw [if_pos k6] at h
    unfold joinQ at h
    split at h
    ·cases (Prod.mk.inj h).2
    split at h
    ·cases (Prod.mk.inj h).2
    rename_i qs
    split at h
    ·cases (Prod.mk.inj h).2
    split at h
    ·cases (Prod.mk.inj h).2
    obtain ⟨e,-⟩:=Prod.mk.inj h
    subst e
    refine ⟨?_,ok_of ?_ ?_,hk⟩
    ·unfold shapeV plainV
     rw [if_neg (by omega),if_neg (by omega),if_neg (by omega),if_neg (by omega),if_neg ne0,if_neg (fun e=>qs e.2),if_neg (by omega),if_neg (by omega)]
    ·simpa using aok.2
    ·simpa using len0
   rw [if_neg k6] at h
   by_cases k7:d.kind=7
   ·rw [if_pos k7] at h
    unfold actQ at h
    split at h
    ·obtain ⟨e,-⟩:=Prod.mk.inj h
     subst e
     refine ⟨?_,ok_of ?_ ?_,hk⟩
     ·unfold shapeV plainV
      rw [if_neg (by omega),if_neg (by omega),if_neg (by omega),if_neg (by omega),if_neg ne0,if_neg (fun e=>by omega),if_neg (by omega),if_neg (by omega)]
     ·simpa using aok.2
     ·simpa using len0
    ·cases (Prod.mk.inj h).2
   rw [if_neg k7] at h
   by_cases k8:d.kind=8
   ·rw [if_pos k8] at h
    unfold padO at h
    split at h
    ·cases (Prod.mk.inj h).2
    rename_i qp
    have hpn:((d.p.toNat:Nat):Int)=d.p:=by omega
    unfold padQ at h
    rw [hpn] at h
    split at h
    ·cases (Prod.mk.inj h).2
    rename_i qe
    obtain ⟨H',V',C',q1',q2',q3',b1,b2,b3,q4',q5'⟩:=elems_nat qe
    obtain ⟨e,-⟩:=Prod.mk.inj h
    subst e
    refine ⟨?_,ok_of ?_ ?_,hk⟩
    ·unfold shapeV plainV aroundV
     rw [if_neg (by omega),if_neg (by omega),if_neg (by omega),if_neg (by omega),if_neg ne0,if_neg (fun e=>by omega),if_pos k8,if_neg qp,if_neg qe]
    ·simp only [List.length_map,List.length_range]
     omega
    ·simp only [List.length_map,List.length_range]
     omega
   rw [if_neg k8] at h
   by_cases k9:d.kind=9
   ·rw [if_pos k9] at h
    obtain ⟨e,-⟩:=Prod.mk.inj h
    subst e
    have hl:=TK.n_le
    have e1:elems 1 1 (a.data.length:Int)=(a.data.length:Int):=by rw [elems_iff,if_pos (by omega)];omega
    refine ⟨?_,ok_of e1 len0,hk⟩
    unfold shapeV plainV
    rw [if_neg (by omega),if_neg (by omega),if_neg (by omega),if_neg (by omega),if_neg ne0,if_neg (fun e=>by omega),if_neg (by omega),if_pos k9,aok.2]
   rw [if_neg k9] at h
   unfold sumQ at h
   split at h
   ·rename_i q0
    obtain ⟨⟨y,k⟩,hy⟩:∃ q,sumOf a d=q:=⟨_,rfl⟩
    have SN:=sum_nat a d q0
    rw [hy] at q0 h SN
    obtain rfl:k=0:=q0
    have e1:=sum_shape (by omega) hy b.h b.v b.c
    simp only at h SN
    unfold putQ at h
    split at h
    ·obtain ⟨e,-⟩:=Prod.mk.inj h
     subst e
     refine ⟨e1,ok_of ?_ ?_,hk⟩
     ·rw [show (allQ y.data d.qm d.qs d.qz d.lo d.hi).length=y.data.length by simp [allQ]];exact SN.1
     ·show 0 < (allQ y.data d.qm d.qs d.qz d.lo d.hi).length
      rw [show (allQ y.data d.qm d.qs d.qz d.lo d.hi).length=y.data.length by simp [allQ]];exact SN.2.1
    ·cases (Prod.mk.inj h).2
   ·rename_i q0
    exact absurd (Prod.mk.inj h).2 q0
  ·rw [if_pos (by simpa using q2)] at h
   cases (Prod.mk.inj h).2
 ·rw [if_pos q1] at h
  exact absurd (Prod.mk.inj h).2 q1
end Go.Proofs.YtjkmjpjknmghlaaGreat
namespace Go.Proofs.YtjkmjpjknmghlaaGreat
open Go.RowKit Go.ChangeShapes Go.WideShapes
set_option maxRecDepth 100000
def moreV (d:Node) (l:List Tensor):Tensor × Int:=nodeQ d (l.getD d.a.toNat noTensor) (l.getD (secondV d).toNat noTensor)
inductive RunV where
 | on (out:List Tensor)
 | bad (i:Nat) (e:Int)
def runV (l:List Node) (x:Tensor):Nat → RunV
 | 0=>.on [x]
 | k+1=>match runV l x k with
  | .on out=>if (moreV (l.getD k noNode) out).2 ≠ 0 then .bad k (moreV (l.getD k noNode) out).2 else .on (out ++ [(moreV (l.getD k noNode) out).1])
  | .bad i e=>.bad i e
def endV27 (n:Nat):RunV → List Tensor × Int × Int
 | .on out=>(out,(n:Int),0)
 | .bad i e=>([],(i:Int),e)
def valuesV (l:List Node) (x:Tensor):List Tensor × Int × Int :=
 if x.ok=false then ([],-1,5) else if ¬ (shapesV l (x.h,x.v,x.c)).2.2=0 then ([],(shapesV l (x.h,x.v,x.c)).2.1,(shapesV l (x.h,x.v,x.c)).2.2) else endV27 l.length (runV l x l.length)
theorem runV_bad {l : List Node} {x : Tensor} {k i : Nat} {e : Int} (h : runV l x k = .bad i e) : ∀ m, k ≤ m → runV l x m = .bad i e := by
  intro m hm
  induction m with
  | zero => obtain rfl : k = 0 := by omega
            exact h
  | succ m ih =>
    by_cases hk : k = m + 1
    · subst hk; exact h
    · have := ih (by omega)
      show (match runV l x m with | .on out => _ | .bad i e => _) = _
      rw [this]
theorem runV_next {l:List Node} {x:Tensor} {k:Nat} {out:List Tensor} {d:Node} (h:runV l x k=.on out) (hd:l[k]?=some d) :
  runV l x (k+1)=if (moreV d out).2 ≠ 0 then .bad k (moreV d out).2 else .on (out ++ [(moreV d out).1]):=by
 have e:l.getD k noNode=d:=by rw [List.getD_eq_getElem?_getD,hd];rfl
 show (match runV l x k with|.on out=>_|.bad i e=>_)=_
 rw [h]
 simp only [e]
theorem runS_len {l:List Node} {s:Sh3}:∀ {k:Nat} {out:List Sh3},runS l s k=.on out → out.length=k+1
 | 0,out,h=>by
  have h:Run.on [s]=.on out:=h
  injection h with h;rw [← h];rfl
 | k+1,out,h=>by
  have h:(match runS l s k with|.on out=>if (nextV (l.getD k noNode) out).2 ≠ 0 then Run.bad k (nextV (l.getD k noNode) out).2 else .on (out ++ [(nextV (l.getD k noNode) out).1])|.bad i e=>.bad i e)=.on out:=h
  cases hr:runS l s k with
  | bad i e=>rw [hr] at h;cases h
  | on o =>
   rw [hr] at h
   simp only at h
   split at h
   ·cases h
   ·injection h with h
    rw [← h,List.length_append,runS_len hr];rfl
theorem runS_there {l:List Node} {s:Sh3}:∀ {m:Nat} {out:List Sh3},runS l s m=.on out → ∀ k d,k < m → l[k]?=some d → thereV d ((k+1:Nat):Int)=true
 | 0,_,_,_,_,hk,_=>absurd hk (Nat.not_lt_zero _)
 | m+1,out,h,k,d,hk,hd=>by
  have h:(match runS l s m with|.on out=>if (nextV (l.getD m noNode) out).2 ≠ 0 then Run.bad m (nextV (l.getD m noNode) out).2 else .on (out ++ [(nextV (l.getD m noNode) out).1])|.bad i e=>.bad i e)=.on out:=h
  cases hr:runS l s m with
  | bad i e=>rw [hr] at h;cases h
  | on o =>
   by_cases hkm:k < m
   ·exact runS_there hr k d hkm hd
   ·obtain rfl:k=m:=by omega
    rw [hr] at h
    simp only at h
    have e:l.getD k noNode=d:=by rw [List.getD_eq_getElem?_getD,hd];rfl
    rw [e] at h
    split at h
    ·cases h
    ·rename_i q
     have q:(nextV d o).2=0:=Decidable.not_not.1 q
     have hl:=runS_len hr
     unfold nextV at q
     by_cases c1:checkV d ≠ 0
     ·rw [if_pos c1] at q;exact absurd q c1
     ·rw [if_neg c1] at q
      by_cases c2:thereV d o.length=false
      ·rw [if_pos c2] at q;cases q
      ·rw [hl] at c2
       simpa using c2
theorem runS_bad0 {l:List Node} {s:Sh3} {i:Nat}:∀ m,runS l s m=.bad i 0 → False
 | 0,h=>by cases (show Run.on [s]=.bad i 0 from h)
 | m+1,h=>by
  have h:(match runS l s m with|.on out=>if (nextV (l.getD m noNode) out).2 ≠ 0 then Run.bad m (nextV (l.getD m noNode) out).2 else .on (out ++ [(nextV (l.getD m noNode) out).1])|.bad i e=>.bad i e)=.bad i 0:=h
  cases hr:runS l s m with
  | bad j e=>rw [hr] at h;injection h with h1 h2;subst h1 h2;exact runS_bad0 m hr
  | on o =>
   rw [hr] at h
   simp only at h
   split at h
   ·rename_i q
    injection h with h1 h2
    exact q h2
   ·cases h
theorem shapes_there {l:List Node} {s:Sh3} (h:(shapesV l s).2.2=0):l.length≤8∧0 < l.length∧∀ (k:Nat) (d:Node),l[k]?=some d → thereV d ((k+1:Nat):Int)=true:=by
 unfold shapesV at h
 split at h
 ·cases h
 split at h
 ·cases h
 split at h
 ·cases h
 rename_i c1 c2 c3
 refine ⟨by omega,by omega,fun k d hd=>?_⟩
 cases hr:runS l s l.length with
 | bad i e =>
  exfalso
  rw [hr] at h
  have h:e=0:=h
  subst h
  exact runS_bad0 l.length hr
 | on o=>exact runS_there hr k d (List.getElem?_eq_some_iff.1 hd).1 hd
theorem ok_in {t:Tensor} (h:t.ok=true):TensorIn t:=by
 unfold Tensor.ok at h
 have h:=of_decide_eq_true h
 have g:=GoodS.of (h:=t.h) (v:=t.v) (c:=t.c) (by omega)
 have h1:=g.h
 have h2:=g.v
 have h3:=g.c
 simp only at h1 h2 h3
 exact ⟨by rw [inK_i64];omega,by rw [inK_i64];omega,by rw [inK_i64];omega⟩
theorem moreV_ok {d:Node} {l:List Tensor} (h:(moreV d l).2=0):(moreV d l).1.ok=true:=by
 unfold moreV at *
 exact (node_shape (x:=(nodeQ d (l.getD d.a.toNat noTensor) (l.getD (secondV d).toNat noTensor)).1) (by rw [← h])).2.1
end Go.Proofs.YtjkmjpjknmghlaaGreat
