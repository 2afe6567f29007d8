/-
  What a node makes (layer 26: run.Node).
-/
import Derived.Test.YtjkmjpjknmghlaaGreatJ32
import Derived.Test.YtjkmjpjknmghlaaGreatJ33
import Derived.Test.YtjkmjpjknmghlaaGreatJ34
import Derived.Test.YtjkmjpjknmghlaaGreatJ35
import Derived.Test.YtjkmjpjknmghlaaGreatJ38
set_option linter.unusedVariables false
set_option linter.unusedSimpArgs false
namespace Go.Proofs.YtjkmjpjknmghlaaGreat
open Go.RowKit Go.ChangeShapes Go.WideShapes
set_option maxRecDepth 100000
set_option maxHeartbeats 4000000
def nodeQ (d:Node) (a b:Tensor):Tensor × Int :=
 if ¬ checkV d=0 then (noTensor,checkV d) else if a.ok=false then (noTensor,5) else if d.kind=4 then poolQ maxU a d else if d.kind=5 then poolQ meanV a d else if d.kind=6 then joinQ a b d else if d.kind=7 then actQ a d else if d.kind=8 then padO a d.p d.za else if d.kind=9 then (⟨1,1,a.data.length,a.data⟩,0) else sumQ a d
theorem runNode_any (d:Node) (W:Option Addr) (nw cw:Nat) (B:Option Addr) (nb cb:Nat) (a b:Tensor) (A A':Option Addr) (n cap n' cap':Nat) (w:World) (ht:TensorIn a) (hu:TensorIn b) (hd:NodeIn d)
  (hw:Sl (tInt .i8) w (blo w.heap.size) W nw cw d.w) (hbi:Sl (tInt .i32) w (blo w.heap.size) B nb cb d.bias) (ha:Sl (tInt .i8) w (blo w.heap.size) A n cap a.data) (hbs:Sl (tInt .i8) w (blo w.heap.size) A' n' cap' b.data) (mw:nw≤2000∧nb≤200) :
  Calls Tryz.prog 27 #[.agg (nN d.kind d.a d.b d.k d.s d.p d.out d.za d.zb W nw cw B nb cb d.qm d.qs d.qz d.rm d.rs d.rz d.lo d.hi),.agg #[.int .i64 a.h,.int .i64 a.v,.int .i64 a.c,.slice A n cap],.agg #[.int .i64 b.h,.int .i64 b.v,.int .i64 b.c,.slice A' n' cap']] w (RetT .i8 (nodeQ d a b).1 (nodeQ d a b).2 w):=by
 have HW:=zH hw
 have HB:=zH hbi
 have HA:=zH ha
 have HB2:=zH hbs
 have CK:=zH (fun w hw hb=>kcheck_any d W nw cw B nb cb w hw hb (by omega) (by omega))
 have c1':decide (0 < elems a.h a.v a.c∧elems a.h a.v a.c=n)=a.ok:=by unfold Tensor.ok;rw [HA.out.n_eq]
 have RA:=zH (fun w=>tensorRight_any a.h a.v a.c A n cap w ht.h ht.v ht.c (Nat.le_trans ha.cap_le ha.max_le))
 rw [c1'] at RA
 have en:a.data.length=n:=ha.n_eq
 have NQ:=zH (show nodeQ d a b=if ¬ checkV d=0 then (noTensor,checkV d) else if a.ok=false then (noTensor,5) else if d.kind=4 then poolQ maxU a d else if d.kind=5 then poolQ meanV a d else if d.kind=6 then joinQ a b d else if d.kind=7 then actQ a d else if d.kind=8 then padO a d.p d.za else if d.kind=9 then (⟨1,1,n,a.data⟩,0) else sumQ a d by unfold nodeQ;rw [en])
 obtain ⟨x,hx⟩:∃ x,nodeQ d a b=x:=⟨_,rfl⟩
 rw [hx] at NQ ⊢
 have FR:=zH (Far.refl w)
 obtain ⟨w1,hw_w1,BN,k_w1⟩:=nB w (nN d.kind d.a d.b d.k d.s d.p d.out d.za d.zb W nw cw B nb cb d.qm d.qs d.qz d.rm d.rs d.rz d.lo d.hi) 44
 replace FR:=zH (FR.out.fut k_w1)
 clear k_w1
 obtain ⟨w2,hw_w2,BA,k_w2⟩:=nB w1 #[.int .i64 a.h,.int .i64 a.v,.int .i64 a.c,.slice A n cap] 27
 replace FR:=zH (FR.out.fut k_w2)
 replace BN:=zH (BN.out.fut k_w2)
 clear k_w2
 obtain ⟨w3,hw_w3,BB,k_w3⟩:=nB w2 #[.int .i64 b.h,.int .i64 b.v,.int .i64 b.c,.slice A' n' cap'] 27
 replace FR:=zH (FR.out.fut k_w3)
 replace BN:=zH (BN.out.fut k_w3)
 replace BA:=zH (BA.out.fut k_w3)
 clear k_w3
 obtain ⟨w4,hw_w4,BR,k_w4⟩:=nB w3 #[.int .i64 0,.int .i64 0,.int .i64 0,.slice none 0 0] 27
 replace FR:=zH (FR.out.fut k_w4)
 replace BN:=zH (BN.out.fut k_w4)
 replace BA:=zH (BA.out.fut k_w4)
 replace BB:=zH (BB.out.fut k_w4)
 clear k_w4
 have l1:w.heap.size < w1.heap.size:=by rw [← hw_w1];simp
 have l2:w1.heap.size < w2.heap.size:=by rw [← hw_w2];simp
 have l3:w2.heap.size < w3.heap.size:=by rw [← hw_w3];simp
 have l4:w3.heap.size < w4.heap.size:=by rw [← hw_w4];simp
 have HM:=zH (And.intro ht (And.intro hu (And.intro hd mw)))
 have mxa:n≤9223372036854775807:=Nat.le_trans ha.cap_le ha.max_le
 have hok0:=zH (show a.ok=true → a.ok=true from id)
 clear c1' en hx ht hu hd hw hbi ha hbs mw
 obtain ⟨ck,hck⟩:∃ k,checkV d=k:=⟨_,rfl⟩
 rw [hck] at CK NQ
 clear hck
 by_cases q1:¬ ck=0
 ·rw [if_pos q1] at NQ
  rw [NQ.out]
  have hk2:(ck != 0)=true:=by rw [bne_iff_ne];exact q1
  clear q1 NQ
  go_enter Tryz.func27,Tryz.ntmps27
  go_wp2_with (first|(refine lB 44 (.tmp 3) w.heap.size BN.out Tryz.underlying44 ?_)|(go_at_call 41;refine (CK.out _ ((Old.now HW.out).fut FR.out.out).all ((Old.now HB.out).fut FR.out.out).all).mono ?_;rintro e w5 ⟨rfl,hb⟩;have l5:=hb.size;replace FR:=zH (FR.out.fut hb);replace BN:=zH (BN.out.fut hb);replace BA:=zH (BA.out.fut hb);replace BB:=zH (BB.out.fut hb);replace BR:=zH (BR.out.fut hb);clear hb hw_w1 hw_w2 hw_w3 hw_w4)|(refine sB 27 (.tmp 6) (.tmp 13) w3.heap.size #[.int .i64 0,.int .i64 0,.int .i64 0,.slice none 0 0] BR.out ?_;intro w9 B9 g9))
  refine ret_cell_tmp rfl B9 rfl Tryz.underlying27 (by kernel_rfl) rfl ?_
  exact RetT.none (FR.out.away g9 (by omega)).out
 rw [if_neg q1] at NQ
 rw [Decidable.not_not] at q1
 subst q1
 by_cases q2:a.ok=false
 ·rw [if_pos q2] at NQ
  rw [q2] at RA
  rw [NQ.out]
  clear q2 NQ
  go_enter Tryz.func27,Tryz.ntmps27
  go_wp2_with (first|(refine lB 44 (.tmp 3) w.heap.size BN.out Tryz.underlying44 ?_)|(go_at_call 41;refine (CK.out _ ((Old.now HW.out).fut FR.out.out).all ((Old.now HB.out).fut FR.out.out).all).mono ?_;rintro e w5 ⟨rfl,hb⟩;have l5:=hb.size;replace FR:=zH (FR.out.fut hb);replace BN:=zH (BN.out.fut hb);replace BA:=zH (BA.out.fut hb);replace BB:=zH (BB.out.fut hb);replace BR:=zH (BR.out.fut hb);clear hb hw_w1 hw_w2 hw_w3 hw_w4)|(refine lB 27 (.tmp 4) w1.heap.size BA.out Tryz.underlying27 ?_)|(go_at_call 13;refine (RA.out _).mono ?_;rintro e w6 ⟨rfl,hb⟩;have l6:=hb.size;replace FR:=zH (FR.out.fut hb);replace BN:=zH (BN.out.fut hb);replace BA:=zH (BA.out.fut hb);replace BB:=zH (BB.out.fut hb);replace BR:=zH (BR.out.fut hb);clear hb)|(refine sB 27 (.tmp 6) (.tmp 18) w3.heap.size #[.int .i64 0,.int .i64 0,.int .i64 0,.slice none 0 0] BR.out ?_;intro w9 B9 g9))
  refine ret_cell_tmp rfl B9 rfl Tryz.underlying27 (by kernel_rfl) rfl ?_
  exact RetT.none (FR.out.away g9 (by omega)).out
 rw [if_neg q2] at NQ
 rw [Bool.not_eq_false] at q2
 rw [q2] at RA
 have C1:=zH q2
 by_cases k4:d.kind=4
 ·rw [if_pos k4] at NQ
  have S:=zH (fun w ha=>poolMax_any a A n cap d W nw cw B nb cb w ha C1.out)
  rw [← NQ.out] at S
  have KE:=zH k4
  clear k4  NQ q2
  go_enter Tryz.func27,Tryz.ntmps27
  go_wp2_with (first|(refine lB 44 (.tmp 3) w.heap.size BN.out Tryz.underlying44 ?_)|(go_at_call 41;refine (CK.out _ ((Old.now HW.out).fut FR.out.out).all ((Old.now HB.out).fut FR.out.out).all).mono ?_;rintro e w5 ⟨rfl,hb⟩;have l5:=hb.size;replace FR:=zH (FR.out.fut hb);replace BN:=zH (BN.out.fut hb);replace BA:=zH (BA.out.fut hb);replace BB:=zH (BB.out.fut hb);replace BR:=zH (BR.out.fut hb);clear hb hw_w1 hw_w2 hw_w3 hw_w4)|(refine lB 27 (.tmp 4) w1.heap.size BA.out Tryz.underlying27 ?_)|(go_at_call 13;refine (RA.out _).mono ?_;rintro e w6 ⟨rfl,hb⟩;have l6:=hb.size;replace FR:=zH (FR.out.fut hb);replace BN:=zH (BN.out.fut hb);replace BA:=zH (BA.out.fut hb);replace BB:=zH (BB.out.fut hb);replace BR:=zH (BR.out.fut hb);clear hb;have c0:=BN.out.cell 0;simp only [gX] at c0;rw [KE.out] at c0))
  refine (S.out _ ((Old.now HA.out).fut FR.out.out).all).mono ?_
  rintro e wm ⟨RA,rn,rc,rfl,rs,hb⟩
  have RS:=zH (show New w6 (tInt .i8) wm RA rn rc x.1.data from ⟨rs⟩)
  have lbr:=BR.out.lt
  have lfr:=FR.out.size
  replace BR:=zH (BR.out.fut hb)
  replace FR:=zH (FR.out.fut hb)
  clear hb rs c0
  go_wp2_with (refine sB 27 (.tmp 6) (.tmp 26) w3.heap.size #[.int .i64 x.1.h,.int .i64 x.1.v,.int .i64 x.1.c,.slice RA rn rc] BR.out ?_;intro w9 B9 g9)
  refine ret_cell_tmp rfl B9 rfl Tryz.underlying27 (by kernel_rfl) rfl ?_
  exact ⟨RA,rn,rc,rfl,(RS.out.away g9 lbr).out.more (bin_more lfr (Nat.le_refl _)),(FR.out.away g9 (by omega)).out⟩
 rw [if_neg k4] at NQ
 have t4:(d.kind == 4)=false:=by simpa using k4
 by_cases k5:d.kind=5
 ·rw [if_pos k5] at NQ
  have S:=zH (fun w ha=>poolMean2_any a A n cap d W nw cw B nb cb w ha C1.out)
  rw [← NQ.out] at S
  have KE:=zH k5
  clear k5  k4 t4 NQ q2
  go_enter Tryz.func27,Tryz.ntmps27
  go_wp2_with (first|(refine lB 44 (.tmp 3) w.heap.size BN.out Tryz.underlying44 ?_)|(go_at_call 41;refine (CK.out _ ((Old.now HW.out).fut FR.out.out).all ((Old.now HB.out).fut FR.out.out).all).mono ?_;rintro e w5 ⟨rfl,hb⟩;have l5:=hb.size;replace FR:=zH (FR.out.fut hb);replace BN:=zH (BN.out.fut hb);replace BA:=zH (BA.out.fut hb);replace BB:=zH (BB.out.fut hb);replace BR:=zH (BR.out.fut hb);clear hb hw_w1 hw_w2 hw_w3 hw_w4)|(refine lB 27 (.tmp 4) w1.heap.size BA.out Tryz.underlying27 ?_)|(go_at_call 13;refine (RA.out _).mono ?_;rintro e w6 ⟨rfl,hb⟩;have l6:=hb.size;replace FR:=zH (FR.out.fut hb);replace BN:=zH (BN.out.fut hb);replace BA:=zH (BA.out.fut hb);replace BB:=zH (BB.out.fut hb);replace BR:=zH (BR.out.fut hb);clear hb;have c0:=BN.out.cell 0;simp only [gX] at c0;rw [KE.out] at c0))
  refine (S.out _ ((Old.now HA.out).fut FR.out.out).all).mono ?_
  rintro e wm ⟨RA,rn,rc,rfl,rs,hb⟩
  have RS:=zH (show New w6 (tInt .i8) wm RA rn rc x.1.data from ⟨rs⟩)
  have lbr:=BR.out.lt
  have lfr:=FR.out.size
  replace BR:=zH (BR.out.fut hb)
  replace FR:=zH (FR.out.fut hb)
  clear hb rs c0
  go_wp2_with (refine sB 27 (.tmp 6) (.tmp 33) w3.heap.size #[.int .i64 x.1.h,.int .i64 x.1.v,.int .i64 x.1.c,.slice RA rn rc] BR.out ?_;intro w9 B9 g9)
  refine ret_cell_tmp rfl B9 rfl Tryz.underlying27 (by kernel_rfl) rfl ?_
  exact ⟨RA,rn,rc,rfl,(RS.out.away g9 lbr).out.more (bin_more lfr (Nat.le_refl _)),(FR.out.away g9 (by omega)).out⟩
 rw [if_neg k5] at NQ
 have t5:(d.kind == 5)=false:=by simpa using k5
 by_cases k6:d.kind=6
 ·rw [if_pos k6] at NQ
  have S:=zH (fun w ha hbs=>joinOf_any a b A A' n cap n' cap' d W nw cw B nb cb w HM.out.1 HM.out.2.1 HM.out.2.2.1 ha hbs C1.out)
  rw [← NQ.out] at S
  have KE:=zH k6
  clear k6  k4 t4 k5 t5 NQ q2
  go_enter Tryz.func27,Tryz.ntmps27
  go_wp2_with (first|(refine lB 44 (.tmp 3) w.heap.size BN.out Tryz.underlying44 ?_)|(go_at_call 41;refine (CK.out _ ((Old.now HW.out).fut FR.out.out).all ((Old.now HB.out).fut FR.out.out).all).mono ?_;rintro e w5 ⟨rfl,hb⟩;have l5:=hb.size;replace FR:=zH (FR.out.fut hb);replace BN:=zH (BN.out.fut hb);replace BA:=zH (BA.out.fut hb);replace BB:=zH (BB.out.fut hb);replace BR:=zH (BR.out.fut hb);clear hb hw_w1 hw_w2 hw_w3 hw_w4)|(refine lB 27 (.tmp 4) w1.heap.size BA.out Tryz.underlying27 ?_)|(go_at_call 13;refine (RA.out _).mono ?_;rintro e w6 ⟨rfl,hb⟩;have l6:=hb.size;replace FR:=zH (FR.out.fut hb);replace BN:=zH (BN.out.fut hb);replace BA:=zH (BA.out.fut hb);replace BB:=zH (BB.out.fut hb);replace BR:=zH (BR.out.fut hb);clear hb;have c0:=BN.out.cell 0;simp only [gX] at c0;rw [KE.out] at c0)|(refine lB 27 (.tmp 5) w2.heap.size BB.out Tryz.underlying27 ?_))
  refine (S.out _ ((Old.now HA.out).fut FR.out.out).all ((Old.now HB2.out).fut FR.out.out).all).mono ?_
  rintro e wm ⟨RA,rn,rc,rfl,rs,hb⟩
  have RS:=zH (show New w6 (tInt .i8) wm RA rn rc x.1.data from ⟨rs⟩)
  have lbr:=BR.out.lt
  have lfr:=FR.out.size
  replace BR:=zH (BR.out.fut hb)
  replace FR:=zH (FR.out.fut hb)
  clear hb rs c0
  go_wp2_with (refine sB 27 (.tmp 6) (.tmp 41) w3.heap.size #[.int .i64 x.1.h,.int .i64 x.1.v,.int .i64 x.1.c,.slice RA rn rc] BR.out ?_;intro w9 B9 g9)
  refine ret_cell_tmp rfl B9 rfl Tryz.underlying27 (by kernel_rfl) rfl ?_
  exact ⟨RA,rn,rc,rfl,(RS.out.away g9 lbr).out.more (bin_more lfr (Nat.le_refl _)),(FR.out.away g9 (by omega)).out⟩
 rw [if_neg k6] at NQ
 have t6:(d.kind == 6)=false:=by simpa using k6
 by_cases k7:d.kind=7
 ·rw [if_pos k7] at NQ
  have S:=zH (fun w ha=>actOf_any a A n cap d W nw cw B nb cb w HM.out.1 HM.out.2.2.1 ha C1.out)
  rw [← NQ.out] at S
  have KE:=zH k7
  clear k7  k4 t4 k5 t5 k6 t6 NQ q2
  go_enter Tryz.func27,Tryz.ntmps27
  go_wp2_with (first|(refine lB 44 (.tmp 3) w.heap.size BN.out Tryz.underlying44 ?_)|(go_at_call 41;refine (CK.out _ ((Old.now HW.out).fut FR.out.out).all ((Old.now HB.out).fut FR.out.out).all).mono ?_;rintro e w5 ⟨rfl,hb⟩;have l5:=hb.size;replace FR:=zH (FR.out.fut hb);replace BN:=zH (BN.out.fut hb);replace BA:=zH (BA.out.fut hb);replace BB:=zH (BB.out.fut hb);replace BR:=zH (BR.out.fut hb);clear hb hw_w1 hw_w2 hw_w3 hw_w4)|(refine lB 27 (.tmp 4) w1.heap.size BA.out Tryz.underlying27 ?_)|(go_at_call 13;refine (RA.out _).mono ?_;rintro e w6 ⟨rfl,hb⟩;have l6:=hb.size;replace FR:=zH (FR.out.fut hb);replace BN:=zH (BN.out.fut hb);replace BA:=zH (BA.out.fut hb);replace BB:=zH (BB.out.fut hb);replace BR:=zH (BR.out.fut hb);clear hb;have c0:=BN.out.cell 0;simp only [gX] at c0;rw [KE.out] at c0))
  refine (S.out _ ((Old.now HA.out).fut FR.out.out).all).mono ?_
  rintro e wm ⟨RA,rn,rc,rfl,rs,hb⟩
  have RS:=zH (show New w6 (tInt .i8) wm RA rn rc x.1.data from ⟨rs⟩)
  have lbr:=BR.out.lt
  have lfr:=FR.out.size
  replace BR:=zH (BR.out.fut hb)
  replace FR:=zH (FR.out.fut hb)
  clear hb rs c0
  go_wp2_with (refine sB 27 (.tmp 6) (.tmp 48) w3.heap.size #[.int .i64 x.1.h,.int .i64 x.1.v,.int .i64 x.1.c,.slice RA rn rc] BR.out ?_;intro w9 B9 g9)
  refine ret_cell_tmp rfl B9 rfl Tryz.underlying27 (by kernel_rfl) rfl ?_
  exact ⟨RA,rn,rc,rfl,(RS.out.away g9 lbr).out.more (bin_more lfr (Nat.le_refl _)),(FR.out.away g9 (by omega)).out⟩
 rw [if_neg k7] at NQ
 have t7:(d.kind == 7)=false:=by simpa using k7
 by_cases k8:d.kind=8
 ·rw [if_pos k8] at NQ
  have S:=zH (fun w ha=>around_any a d.p A n cap d.za w HM.out.1 ha C1.out HM.out.2.2.1.za)
  rw [← NQ.out] at S
  have KE:=zH k8
  clear k8  k4 t4 k5 t5 k6 t6 k7 t7 NQ q2
  go_enter Tryz.func27,Tryz.ntmps27
  go_wp2_with (first|(refine lB 44 (.tmp 3) w.heap.size BN.out Tryz.underlying44 ?_)|(go_at_call 41;refine (CK.out _ ((Old.now HW.out).fut FR.out.out).all ((Old.now HB.out).fut FR.out.out).all).mono ?_;rintro e w5 ⟨rfl,hb⟩;have l5:=hb.size;replace FR:=zH (FR.out.fut hb);replace BN:=zH (BN.out.fut hb);replace BA:=zH (BA.out.fut hb);replace BB:=zH (BB.out.fut hb);replace BR:=zH (BR.out.fut hb);clear hb hw_w1 hw_w2 hw_w3 hw_w4)|(refine lB 27 (.tmp 4) w1.heap.size BA.out Tryz.underlying27 ?_)|(go_at_call 13;refine (RA.out _).mono ?_;rintro e w6 ⟨rfl,hb⟩;have l6:=hb.size;replace FR:=zH (FR.out.fut hb);replace BN:=zH (BN.out.fut hb);replace BA:=zH (BA.out.fut hb);replace BB:=zH (BB.out.fut hb);replace BR:=zH (BR.out.fut hb);clear hb;have c0:=BN.out.cell 0;simp only [gX] at c0;rw [KE.out] at c0;have c5:=BN.out.cell 5;have c7:=BN.out.cell 7;simp only [gX] at c5 c7))
  refine (S.out _ ((Old.now HA.out).fut FR.out.out).all).mono ?_
  rintro e wm ⟨RA,rn,rc,rfl,rs,hb⟩
  have RS:=zH (show New w6 (tInt .i8) wm RA rn rc x.1.data from ⟨rs⟩)
  have lbr:=BR.out.lt
  have lfr:=FR.out.size
  replace BR:=zH (BR.out.fut hb)
  replace FR:=zH (FR.out.fut hb)
  clear hb rs c0 c5 c7
  go_wp2_with (refine sB 27 (.tmp 6) (.tmp 58) w3.heap.size #[.int .i64 x.1.h,.int .i64 x.1.v,.int .i64 x.1.c,.slice RA rn rc] BR.out ?_;intro w9 B9 g9)
  refine ret_cell_tmp rfl B9 rfl Tryz.underlying27 (by kernel_rfl) rfl ?_
  exact ⟨RA,rn,rc,rfl,(RS.out.away g9 lbr).out.more (bin_more lfr (Nat.le_refl _)),(FR.out.away g9 (by omega)).out⟩
 rw [if_neg k8] at NQ
 have t8:(d.kind == 8)=false:=by simpa using k8
 by_cases k9:d.kind=9
 ·rw [if_pos k9] at NQ
  have S:=zH (show ∀ w,Sl (tInt .i8) w (blo w.heap.size) A n cap a.data → Calls Tryz.prog 48 #[.agg #[.int .i64 a.h,.int .i64 a.v,.int .i64 a.c,.slice A n cap]] w (RetT .i8 ((⟨1,1,n,a.data⟩,0):Tensor × Int).1 ((⟨1,1,n,a.data⟩,0):Tensor × Int).2 w) from fun w ha=>tensorFlat_any a A n cap w HM.out.1 ha C1.out)
  rw [← NQ.out] at S
  have KE:=zH k9
  clear k9  k4 t4 k5 t5 k6 t6 k7 t7 k8 t8 NQ q2
  go_enter Tryz.func27,Tryz.ntmps27
  go_wp2_with (first|(refine lB 44 (.tmp 3) w.heap.size BN.out Tryz.underlying44 ?_)|(go_at_call 41;refine (CK.out _ ((Old.now HW.out).fut FR.out.out).all ((Old.now HB.out).fut FR.out.out).all).mono ?_;rintro e w5 ⟨rfl,hb⟩;have l5:=hb.size;replace FR:=zH (FR.out.fut hb);replace BN:=zH (BN.out.fut hb);replace BA:=zH (BA.out.fut hb);replace BB:=zH (BB.out.fut hb);replace BR:=zH (BR.out.fut hb);clear hb hw_w1 hw_w2 hw_w3 hw_w4)|(refine lB 27 (.tmp 4) w1.heap.size BA.out Tryz.underlying27 ?_)|(go_at_call 13;refine (RA.out _).mono ?_;rintro e w6 ⟨rfl,hb⟩;have l6:=hb.size;replace FR:=zH (FR.out.fut hb);replace BN:=zH (BN.out.fut hb);replace BA:=zH (BA.out.fut hb);replace BB:=zH (BB.out.fut hb);replace BR:=zH (BR.out.fut hb);clear hb;have c0:=BN.out.cell 0;simp only [gX] at c0;rw [KE.out] at c0))
  refine (S.out _ ((Old.now HA.out).fut FR.out.out).all).mono ?_
  rintro e wm ⟨RA,rn,rc,rfl,rs,hb⟩
  have RS:=zH (show New w6 (tInt .i8) wm RA rn rc x.1.data from ⟨rs⟩)
  have lbr:=BR.out.lt
  have lfr:=FR.out.size
  replace BR:=zH (BR.out.fut hb)
  replace FR:=zH (FR.out.fut hb)
  clear hb rs c0
  go_wp2_with (refine sB 27 (.tmp 6) (.tmp 64) w3.heap.size #[.int .i64 x.1.h,.int .i64 x.1.v,.int .i64 x.1.c,.slice RA rn rc] BR.out ?_;intro w9 B9 g9)
  refine ret_cell_tmp rfl B9 rfl Tryz.underlying27 (by kernel_rfl) rfl ?_
  exact ⟨RA,rn,rc,rfl,(RS.out.away g9 lbr).out.more (bin_more lfr (Nat.le_refl _)),(FR.out.away g9 (by omega)).out⟩
 rw [if_neg k9] at NQ
 have t9:(d.kind == 9)=false:=by simpa using k9
 have S:=zH (fun w ha hw hb=>summed_any a A n cap d W nw cw B nb cb w HM.out.1 HM.out.2.2.1 ha hw hb HM.out.2.2.2)
 rw [← NQ.out] at S
 clear k4 k5 k6 k7 k8 k9 NQ q2
 go_enter Tryz.func27,Tryz.ntmps27
 go_wp2_with (first|(refine lB 44 (.tmp 3) w.heap.size BN.out Tryz.underlying44 ?_)|(go_at_call 41;refine (CK.out _ ((Old.now HW.out).fut FR.out.out).all ((Old.now HB.out).fut FR.out.out).all).mono ?_;rintro e w5 ⟨rfl,hb⟩;have l5:=hb.size;replace FR:=zH (FR.out.fut hb);replace BN:=zH (BN.out.fut hb);replace BA:=zH (BA.out.fut hb);replace BB:=zH (BB.out.fut hb);replace BR:=zH (BR.out.fut hb);clear hb hw_w1 hw_w2 hw_w3 hw_w4)|(refine lB 27 (.tmp 4) w1.heap.size BA.out Tryz.underlying27 ?_)|(go_at_call 13;refine (RA.out _).mono ?_;rintro e w6 ⟨rfl,hb⟩;have l6:=hb.size;replace FR:=zH (FR.out.fut hb);replace BN:=zH (BN.out.fut hb);replace BA:=zH (BA.out.fut hb);replace BB:=zH (BB.out.fut hb);replace BR:=zH (BR.out.fut hb);clear hb;have c0:=BN.out.cell 0;simp only [gX] at c0))
 ·refine (S.out _ ((Old.now HA.out).fut FR.out.out).all ((Old.now HW.out).fut FR.out.out).all ((Old.now HB.out).fut FR.out.out).all).mono ?_
  rintro e wm ⟨RA,rn,rc,rfl,rs,hb⟩
  have RS:=zH (show New w6 (tInt .i8) wm RA rn rc x.1.data from ⟨rs⟩)
  have lbr:=BR.out.lt
  have lfr:=FR.out.size
  replace BR:=zH (BR.out.fut hb)
  replace FR:=zH (FR.out.fut hb)
  clear hb rs c0
  go_wp2_with (refine sB 27 (.tmp 6) (.tmp 69) w3.heap.size #[.int .i64 x.1.h,.int .i64 x.1.v,.int .i64 x.1.c,.slice RA rn rc] BR.out ?_;intro w9 B9 g9)
  refine ret_cell_tmp rfl B9 rfl Tryz.underlying27 (by kernel_rfl) rfl ?_
  exact ⟨RA,rn,rc,rfl,(RS.out.away g9 lbr).out.more (bin_more lfr (Nat.le_refl _)),(FR.out.away g9 (by omega)).out⟩
end Go.Proofs.YtjkmjpjknmghlaaGreat
