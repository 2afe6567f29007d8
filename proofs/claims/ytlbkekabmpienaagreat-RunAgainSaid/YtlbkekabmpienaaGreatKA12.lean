/-
  runNode_any, told with cells that may be written (for the law RunAgain).
  A node that is done once more makes the same, and what was handed in is as it was (the walk of the law RunAgain).
  THE STATEMENT RunAgain: for every input the law returns true, and each argument reads behind the call as it did before.
  Conditions: none but the given row's own.
-/
import Derived.Test.YtlbkekabmpienaaGreatJ41
import Derived.Test.YtlbkekabmpienaaGreatKA00
import Derived.Test.YtlbkekabmpienaaGreatKA02
import Derived.Test.YtlbkekabmpienaaGreatKA03
import Derived.Test.YtlbkekabmpienaaGreatKA05
import Derived.Test.YtlbkekabmpienaaGreatKA07
import Derived.Test.YtlbkekabmpienaaGreatKA09
import Derived.Test.YtlbkekabmpienaaGreatKA10
import Derived.Test.YtlbkekabmpienaaGreatJ00
import Derived.Test.YtlbkekabmpienaaGreatJ30
import Derived.Test.YtlbkekabmpienaaGreatJ31
import Derived.Test.YtlbkekabmpienaaGreatJ32
import Derived.Test.YtlbkekabmpienaaGreatJ34
import Derived.Test.YtlbkekabmpienaaGreatJ40
import Derived.Test.YtlbkekabmpienaaGreatJ01
import Derived.Test.YtlbkekabmpienaaGreatKA01
import Derived.Test.YtlbkekabmpienaaGreatJ27
import Derived.Test.YtlbkekabmpienaaGreatKA04
import Derived.Test.YtlbkekabmpienaaGreatKA06
import Derived.Test.YtlbkekabmpienaaGreatKA08
import Derived.Test.YtlbkekabmpienaaGreatJ18
import Derived.Test.YtlbkekabmpienaaGreatJ15
import Derived.Test.YtlbkekabmpienaaGreatJ28
import Derived.Test.YtlbkekabmpienaaGreatJ29
import Derived.Test.YtlbkekabmpienaaGreatJ06
import Derived.Test.YtlbkekabmpienaaGreatJ35
import Derived.Test.YtlbkekabmpienaaGreatJ36
import Derived.Test.YtlbkekabmpienaaGreatJ21
import Derived.Test.YtlbkekabmpienaaGreatJ26
import Derived.Test.YtlbkekabmpienaaGreatJ24
import Derived.Test.YtlbkekabmpienaaGreatJ19
import Derived.Test.YtlbkekabmpienaaGreatJ11
import Derived.Test.YtlbkekabmpienaaGreatJ22
import Derived.Test.YtlbkekabmpienaaGreatJ25
import Derived.Test.YtlbkekabmpienaaGreatJ33
import Derived.Test.YtlbkekabmpienaaGreatJ13
import Derived.Test.YtlbkekabmpienaaGreatJ37
import Derived.Test.YtlbkekabmpienaaGreatJ38
import Derived.Test.YtlbkekabmpienaaGreatJ39
import Derived.Test.YtlbkekabmpienaaGreatJ17
import Derived.Test.YtlbkekabmpienaaGreatJ23
import Derived.Test.YtlbkekabmpienaaGreatJ14
import Derived.Test.YtlbkekabmpienaaGreatJ20
import Derived.Test.YtlbkekabmpienaaGreatJ07
import Derived.Test.YtlbkekabmpienaaGreatJ08
import Derived.Test.YtlbkekabmpienaaGreatJ09
import Derived.Test.YtlbkekabmpienaaGreatJ02
import Derived.Test.YtlbkekabmpienaaGreatJ16
import Derived.Test.YtlbkekabmpienaaGreatJ04
import Derived.Test.YtlbkekabmpienaaGreatJ03
import Derived.Test.YtlbkekabmpienaaGreatJ05
import Derived.Test.YtlbkekabmpienaaGreatJ12
import Derived.Test.YtlbkekabmpienaaGreatJ10
import Derived.Test.YtlbkekabmpienaaGreatKA11
import Derived.Test.YtlbkekabmpienaaGreatRows
namespace Go.Proofs.YtlbkekabmpienaaGreat
set_option linter.unusedVariables false
set_option linter.unusedSimpArgs false
open Go.RowKit Go.ChangeShapes Go.WideShapes
set_option maxRecDepth 100000
set_option maxHeartbeats 4000000
theorem runNode_anyW (d:Node) (W:Option Addr) (nw cw:Nat) (B:Option Addr) (nb cb:Nat) (a b:Tensor) (A A':Option Addr) (n cap n' cap':Nat) (w:World) (ht:TensorIn a) (hu:TensorIn b) (hd:NodeIn d)
  (hw:Sl (tInt .i8) w (blo w.heap.size) W nw cw d.w) (hbi:Sl (tInt .i32) w (blo w.heap.size) B nb cb d.bias) (ha:Sl (tInt .i8) w (blo w.heap.size) A n cap a.data) (hbs:Sl (tInt .i8) w (blo w.heap.size) A' n' cap' b.data) (mw:nw≤2000∧nb≤200) :
  Calls Tryz.prog 8 #[.agg #[.int .i64 d.kind,.int .i64 d.a,.int .i64 d.b,.int .i64 d.k,.int .i64 d.s,.int .i64 d.p,.int .i64 d.out,.int .i8 d.za,.int .i8 d.zb,.slice W nw cw,.slice B nb cb,.int .i32 d.qm,.int .i64 d.qs,.int .i8 d.qz,.int .i32 d.rm,.int .i64 d.rs,.int .i8 d.rz,.int .i8 d.lo,.int .i8 d.hi],.agg #[.int .i64 a.h,.int .i64 a.v,.int .i64 a.c,.slice A n cap],.agg #[.int .i64 b.h,.int .i64 b.v,.int .i64 b.c,.slice A' n' cap']] w (RetW .i8 (nodeQ d a b).1 (nodeQ d a b).2 w):=by
 have HW:=zH hw
 have HB:=zH hbi
 have HA:=zH ha
 have HB2:=zH hbs
 have CK:=zH (fun w hw hb=>kcheck_any d W nw cw B nb cb w hw hb (by omega) (by omega))
 have c1':decide (0 < elems a.h a.v a.c∧elems a.h a.v a.c=n)=a.ok:=by unfold Tensor.ok;rw [HA.out.n_eq]
 have RA:=zH (fun w=>tensorRight_any a.h a.v a.c A n cap w ht.h ht.v ht.c (Nat.le_trans ha.cap_le ha.max_le))
 rw [c1'] at RA
 have en:a.data.length=n:=ha.n_eq
 have NQ:=zH (show nodeQ d a b=if ¬ checkV d=0 then (noTensor,checkV d) else if a.ok=false then (noTensor,5) else if d.kind=4 then poolQ maxU a d else if d.kind=5 then poolQ meanV a d else if d.kind=6 then joinQ a b d else if d.kind=7 then actQ a d else if d.kind=8 then padO a d.p d.za else if d.kind=9 then (⟨1,1,n,a.data⟩,0) else sumQ a d by unfold nodeQ;rw [en])
 obtain ⟨x,hx⟩:∃ x,nodeQ d a b=x:=⟨_,rfl⟩
 rw [hx] at NQ ⊢
 have FR:=zH (Far.refl w)
 obtain ⟨w1,hw_w1,BN,k_w1⟩:=nB w #[.int .i64 d.kind,.int .i64 d.a,.int .i64 d.b,.int .i64 d.k,.int .i64 d.s,.int .i64 d.p,.int .i64 d.out,.int .i8 d.za,.int .i8 d.zb,.slice W nw cw,.slice B nb cb,.int .i32 d.qm,.int .i64 d.qs,.int .i8 d.qz,.int .i32 d.rm,.int .i64 d.rs,.int .i8 d.rz,.int .i8 d.lo,.int .i8 d.hi] 28
 replace FR:=zH (FR.out.fut k_w1)
 clear k_w1
 obtain ⟨w2,hw_w2,BA,k_w2⟩:=nB w1 #[.int .i64 a.h,.int .i64 a.v,.int .i64 a.c,.slice A n cap] 32
 replace FR:=zH (FR.out.fut k_w2)
 replace BN:=zH (BN.out.fut k_w2)
 clear k_w2
 obtain ⟨w3,hw_w3,BB,k_w3⟩:=nB w2 #[.int .i64 b.h,.int .i64 b.v,.int .i64 b.c,.slice A' n' cap'] 32
 replace FR:=zH (FR.out.fut k_w3)
 replace BN:=zH (BN.out.fut k_w3)
 replace BA:=zH (BA.out.fut k_w3)
 clear k_w3
 obtain ⟨w4,hw_w4,BR,k_w4⟩:=nB w3 #[.int .i64 0,.int .i64 0,.int .i64 0,.slice none 0 0] 32
 replace FR:=zH (FR.out.fut k_w4)
 replace BN:=zH (BN.out.fut k_w4)
 replace BA:=zH (BA.out.fut k_w4)
 replace BB:=zH (BB.out.fut k_w4)
 clear k_w4
 have l1:w.heap.size < w1.heap.size:=by rw [← hw_w1];simp
 have l2:w1.heap.size < w2.heap.size:=by rw [← hw_w2];simp
 have l3:w2.heap.size < w3.heap.size:=by rw [← hw_w3];simp
 have l4:w3.heap.size < w4.heap.size:=by rw [← hw_w4];simp
 have HM:=zH (And.intro ht (And.intro hu (And.intro hd mw)))
 have mxa:n≤9223372036854775807:=Nat.le_trans ha.cap_le ha.max_le
 have hok0:=zH (show a.ok=true → a.ok=true from id)
 clear c1' en hx ht hu hd hw hbi ha hbs mw
 obtain ⟨ck,hck⟩:∃ k,checkV d=k:=⟨_,rfl⟩
 rw [hck] at CK NQ
 clear hck
 by_cases q1:¬ ck=0
 ·rw [if_pos q1] at NQ
  rw [NQ.out]
  have hk2:(ck != 0)=true:=by rw [bne_iff_ne];exact q1
  clear q1 NQ
  go_enter Tryz.func8,Tryz.ntmps8
  go_wp2_with (first|(refine lB 28 (.tmp 3) w.heap.size BN.out Tryz.underlying28 ?_)|(go_at_call 16;refine (CK.out _ ((Old.now HW.out).fut FR.out.out).all ((Old.now HB.out).fut FR.out.out).all).mono ?_;rintro e w5 ⟨rfl,hb⟩;have l5:=hb.size;replace FR:=zH (FR.out.fut hb);replace BN:=zH (BN.out.fut hb);replace BA:=zH (BA.out.fut hb);replace BB:=zH (BB.out.fut hb);replace BR:=zH (BR.out.fut hb);clear hb hw_w1 hw_w2 hw_w3 hw_w4)|(refine sB 32 (.tmp 6) (.tmp 13) w3.heap.size #[.int .i64 0,.int .i64 0,.int .i64 0,.slice none 0 0] BR.out ?_;intro w9 B9 g9))
  refine ret_cell_tmp rfl B9 rfl Tryz.underlying32 (by kernel_rfl) rfl ?_
  exact RetW.none (FR.out.away g9 (by omega)).out
 rw [if_neg q1] at NQ
 rw [Decidable.not_not] at q1
 subst q1
 by_cases q2:a.ok=false
 ·rw [if_pos q2] at NQ
  rw [q2] at RA
  rw [NQ.out]
  clear q2 NQ
  go_enter Tryz.func8,Tryz.ntmps8
  go_wp2_with (first|(refine lB 28 (.tmp 3) w.heap.size BN.out Tryz.underlying28 ?_)|(go_at_call 16;refine (CK.out _ ((Old.now HW.out).fut FR.out.out).all ((Old.now HB.out).fut FR.out.out).all).mono ?_;rintro e w5 ⟨rfl,hb⟩;have l5:=hb.size;replace FR:=zH (FR.out.fut hb);replace BN:=zH (BN.out.fut hb);replace BA:=zH (BA.out.fut hb);replace BB:=zH (BB.out.fut hb);replace BR:=zH (BR.out.fut hb);clear hb hw_w1 hw_w2 hw_w3 hw_w4)|(refine lB 32 (.tmp 4) w1.heap.size BA.out Tryz.underlying32 ?_)|(go_at_call 17;refine (RA.out _).mono ?_;rintro e w6 ⟨rfl,hb⟩;have l6:=hb.size;replace FR:=zH (FR.out.fut hb);replace BN:=zH (BN.out.fut hb);replace BA:=zH (BA.out.fut hb);replace BB:=zH (BB.out.fut hb);replace BR:=zH (BR.out.fut hb);clear hb)|(refine sB 32 (.tmp 6) (.tmp 18) w3.heap.size #[.int .i64 0,.int .i64 0,.int .i64 0,.slice none 0 0] BR.out ?_;intro w9 B9 g9))
  refine ret_cell_tmp rfl B9 rfl Tryz.underlying32 (by kernel_rfl) rfl ?_
  exact RetW.none (FR.out.away g9 (by omega)).out
 rw [if_neg q2] at NQ
 rw [Bool.not_eq_false] at q2
 rw [q2] at RA
 have C1:=zH q2
 by_cases k4:d.kind=4
 ·rw [if_pos k4] at NQ
  have S:=zH (fun w ha=>poolMax_anyW a A n cap d W nw cw B nb cb w ha C1.out)
  rw [← NQ.out] at S
  have KE:=zH k4
  clear k4  NQ q2
  go_enter Tryz.func8,Tryz.ntmps8
  go_wp2_with (first|(refine lB 28 (.tmp 3) w.heap.size BN.out Tryz.underlying28 ?_)|(go_at_call 16;refine (CK.out _ ((Old.now HW.out).fut FR.out.out).all ((Old.now HB.out).fut FR.out.out).all).mono ?_;rintro e w5 ⟨rfl,hb⟩;have l5:=hb.size;replace FR:=zH (FR.out.fut hb);replace BN:=zH (BN.out.fut hb);replace BA:=zH (BA.out.fut hb);replace BB:=zH (BB.out.fut hb);replace BR:=zH (BR.out.fut hb);clear hb hw_w1 hw_w2 hw_w3 hw_w4)|(refine lB 32 (.tmp 4) w1.heap.size BA.out Tryz.underlying32 ?_)|(go_at_call 17;refine (RA.out _).mono ?_;rintro e w6 ⟨rfl,hb⟩;have l6:=hb.size;replace FR:=zH (FR.out.fut hb);replace BN:=zH (BN.out.fut hb);replace BA:=zH (BA.out.fut hb);replace BB:=zH (BB.out.fut hb);replace BR:=zH (BR.out.fut hb);clear hb;have c0:=BN.out.cell 0;simp only [gX] at c0;rw [KE.out] at c0))
  refine (S.out _ ((Old.now HA.out).fut FR.out.out).all).mono ?_
  rintro e wm ⟨RA,rn,rc,rfl,rs,hb,un⟩
  have UN:=zH un
  clear un
  have RS:=zH (show New w6 (tInt .i8) wm RA rn rc x.1.data from ⟨rs⟩)
  have lbr:=BR.out.lt
  have lfr:=FR.out.size
  replace BR:=zH (BR.out.fut hb)
  replace FR:=zH (FR.out.fut hb)
  clear hb rs c0
  go_wp2_with (refine sB 32 (.tmp 6) (.tmp 26) w3.heap.size #[.int .i64 x.1.h,.int .i64 x.1.v,.int .i64 x.1.c,.slice RA rn rc] BR.out ?_;intro w9 B9 g9)
  refine ret_cell_tmp rfl B9 rfl Tryz.underlying32 (by kernel_rfl) rfl ?_
  exact ⟨RA,rn,rc,rfl,(RS.out.away g9 lbr).out.more (bin_more lfr (Nat.le_refl _)),(FR.out.away g9 (by omega)).out,un_away RS.out UN.out g9 lbr⟩
 rw [if_neg k4] at NQ
 have t4:(d.kind == 4)=false:=by simpa using k4
 by_cases k5:d.kind=5
 ·rw [if_pos k5] at NQ
  have S:=zH (fun w ha=>poolMean2_anyW a A n cap d W nw cw B nb cb w ha C1.out)
  rw [← NQ.out] at S
  have KE:=zH k5
  clear k5  k4 t4 NQ q2
  go_enter Tryz.func8,Tryz.ntmps8
  go_wp2_with (first|(refine lB 28 (.tmp 3) w.heap.size BN.out Tryz.underlying28 ?_)|(go_at_call 16;refine (CK.out _ ((Old.now HW.out).fut FR.out.out).all ((Old.now HB.out).fut FR.out.out).all).mono ?_;rintro e w5 ⟨rfl,hb⟩;have l5:=hb.size;replace FR:=zH (FR.out.fut hb);replace BN:=zH (BN.out.fut hb);replace BA:=zH (BA.out.fut hb);replace BB:=zH (BB.out.fut hb);replace BR:=zH (BR.out.fut hb);clear hb hw_w1 hw_w2 hw_w3 hw_w4)|(refine lB 32 (.tmp 4) w1.heap.size BA.out Tryz.underlying32 ?_)|(go_at_call 17;refine (RA.out _).mono ?_;rintro e w6 ⟨rfl,hb⟩;have l6:=hb.size;replace FR:=zH (FR.out.fut hb);replace BN:=zH (BN.out.fut hb);replace BA:=zH (BA.out.fut hb);replace BB:=zH (BB.out.fut hb);replace BR:=zH (BR.out.fut hb);clear hb;have c0:=BN.out.cell 0;simp only [gX] at c0;rw [KE.out] at c0))
  refine (S.out _ ((Old.now HA.out).fut FR.out.out).all).mono ?_
  rintro e wm ⟨RA,rn,rc,rfl,rs,hb,un⟩
  have UN:=zH un
  clear un
  have RS:=zH (show New w6 (tInt .i8) wm RA rn rc x.1.data from ⟨rs⟩)
  have lbr:=BR.out.lt
  have lfr:=FR.out.size
  replace BR:=zH (BR.out.fut hb)
  replace FR:=zH (FR.out.fut hb)
  clear hb rs c0
  go_wp2_with (refine sB 32 (.tmp 6) (.tmp 33) w3.heap.size #[.int .i64 x.1.h,.int .i64 x.1.v,.int .i64 x.1.c,.slice RA rn rc] BR.out ?_;intro w9 B9 g9)
  refine ret_cell_tmp rfl B9 rfl Tryz.underlying32 (by kernel_rfl) rfl ?_
  exact ⟨RA,rn,rc,rfl,(RS.out.away g9 lbr).out.more (bin_more lfr (Nat.le_refl _)),(FR.out.away g9 (by omega)).out,un_away RS.out UN.out g9 lbr⟩
 rw [if_neg k5] at NQ
 have t5:(d.kind == 5)=false:=by simpa using k5
 by_cases k6:d.kind=6
 ·rw [if_pos k6] at NQ
  have S:=zH (fun w ha hbs=>joinOf_anyW a b A A' n cap n' cap' d W nw cw B nb cb w HM.out.1 HM.out.2.1 HM.out.2.2.1 ha hbs C1.out)
  rw [← NQ.out] at S
  have KE:=zH k6
  clear k6  k4 t4 k5 t5 NQ q2
  go_enter Tryz.func8,Tryz.ntmps8
  go_wp2_with (first|(refine lB 28 (.tmp 3) w.heap.size BN.out Tryz.underlying28 ?_)|(go_at_call 16;refine (CK.out _ ((Old.now HW.out).fut FR.out.out).all ((Old.now HB.out).fut FR.out.out).all).mono ?_;rintro e w5 ⟨rfl,hb⟩;have l5:=hb.size;replace FR:=zH (FR.out.fut hb);replace BN:=zH (BN.out.fut hb);replace BA:=zH (BA.out.fut hb);replace BB:=zH (BB.out.fut hb);replace BR:=zH (BR.out.fut hb);clear hb hw_w1 hw_w2 hw_w3 hw_w4)|(refine lB 32 (.tmp 4) w1.heap.size BA.out Tryz.underlying32 ?_)|(go_at_call 17;refine (RA.out _).mono ?_;rintro e w6 ⟨rfl,hb⟩;have l6:=hb.size;replace FR:=zH (FR.out.fut hb);replace BN:=zH (BN.out.fut hb);replace BA:=zH (BA.out.fut hb);replace BB:=zH (BB.out.fut hb);replace BR:=zH (BR.out.fut hb);clear hb;have c0:=BN.out.cell 0;simp only [gX] at c0;rw [KE.out] at c0)|(refine lB 32 (.tmp 5) w2.heap.size BB.out Tryz.underlying32 ?_))
  refine (S.out _ ((Old.now HA.out).fut FR.out.out).all ((Old.now HB2.out).fut FR.out.out).all).mono ?_
  rintro e wm ⟨RA,rn,rc,rfl,rs,hb,un⟩
  have UN:=zH un
  clear un
  have RS:=zH (show New w6 (tInt .i8) wm RA rn rc x.1.data from ⟨rs⟩)
  have lbr:=BR.out.lt
  have lfr:=FR.out.size
  replace BR:=zH (BR.out.fut hb)
  replace FR:=zH (FR.out.fut hb)
  clear hb rs c0
  go_wp2_with (refine sB 32 (.tmp 6) (.tmp 41) w3.heap.size #[.int .i64 x.1.h,.int .i64 x.1.v,.int .i64 x.1.c,.slice RA rn rc] BR.out ?_;intro w9 B9 g9)
  refine ret_cell_tmp rfl B9 rfl Tryz.underlying32 (by kernel_rfl) rfl ?_
  exact ⟨RA,rn,rc,rfl,(RS.out.away g9 lbr).out.more (bin_more lfr (Nat.le_refl _)),(FR.out.away g9 (by omega)).out,un_away RS.out UN.out g9 lbr⟩
 rw [if_neg k6] at NQ
 have t6:(d.kind == 6)=false:=by simpa using k6
 by_cases k7:d.kind=7
 ·rw [if_pos k7] at NQ
  have S:=zH (fun w ha=>actOf_anyW a A n cap d W nw cw B nb cb w HM.out.1 HM.out.2.2.1 ha C1.out)
  rw [← NQ.out] at S
  have KE:=zH k7
  clear k7  k4 t4 k5 t5 k6 t6 NQ q2
  go_enter Tryz.func8,Tryz.ntmps8
  go_wp2_with (first|(refine lB 28 (.tmp 3) w.heap.size BN.out Tryz.underlying28 ?_)|(go_at_call 16;refine (CK.out _ ((Old.now HW.out).fut FR.out.out).all ((Old.now HB.out).fut FR.out.out).all).mono ?_;rintro e w5 ⟨rfl,hb⟩;have l5:=hb.size;replace FR:=zH (FR.out.fut hb);replace BN:=zH (BN.out.fut hb);replace BA:=zH (BA.out.fut hb);replace BB:=zH (BB.out.fut hb);replace BR:=zH (BR.out.fut hb);clear hb hw_w1 hw_w2 hw_w3 hw_w4)|(refine lB 32 (.tmp 4) w1.heap.size BA.out Tryz.underlying32 ?_)|(go_at_call 17;refine (RA.out _).mono ?_;rintro e w6 ⟨rfl,hb⟩;have l6:=hb.size;replace FR:=zH (FR.out.fut hb);replace BN:=zH (BN.out.fut hb);replace BA:=zH (BA.out.fut hb);replace BB:=zH (BB.out.fut hb);replace BR:=zH (BR.out.fut hb);clear hb;have c0:=BN.out.cell 0;simp only [gX] at c0;rw [KE.out] at c0))
  refine (S.out _ ((Old.now HA.out).fut FR.out.out).all).mono ?_
  rintro e wm ⟨RA,rn,rc,rfl,rs,hb,un⟩
  have UN:=zH un
  clear un
  have RS:=zH (show New w6 (tInt .i8) wm RA rn rc x.1.data from ⟨rs⟩)
  have lbr:=BR.out.lt
  have lfr:=FR.out.size
  replace BR:=zH (BR.out.fut hb)
  replace FR:=zH (FR.out.fut hb)
  clear hb rs c0
  go_wp2_with (refine sB 32 (.tmp 6) (.tmp 48) w3.heap.size #[.int .i64 x.1.h,.int .i64 x.1.v,.int .i64 x.1.c,.slice RA rn rc] BR.out ?_;intro w9 B9 g9)
  refine ret_cell_tmp rfl B9 rfl Tryz.underlying32 (by kernel_rfl) rfl ?_
  exact ⟨RA,rn,rc,rfl,(RS.out.away g9 lbr).out.more (bin_more lfr (Nat.le_refl _)),(FR.out.away g9 (by omega)).out,un_away RS.out UN.out g9 lbr⟩
 rw [if_neg k7] at NQ
 have t7:(d.kind == 7)=false:=by simpa using k7
 by_cases k8:d.kind=8
 ·rw [if_pos k8] at NQ
  have S:=zH (fun w ha=>around_anyW a d.p A n cap d.za w HM.out.1 ha C1.out HM.out.2.2.1.za)
  rw [← NQ.out] at S
  have KE:=zH k8
  clear k8  k4 t4 k5 t5 k6 t6 k7 t7 NQ q2
  go_enter Tryz.func8,Tryz.ntmps8
  go_wp2_with (first|(refine lB 28 (.tmp 3) w.heap.size BN.out Tryz.underlying28 ?_)|(go_at_call 16;refine (CK.out _ ((Old.now HW.out).fut FR.out.out).all ((Old.now HB.out).fut FR.out.out).all).mono ?_;rintro e w5 ⟨rfl,hb⟩;have l5:=hb.size;replace FR:=zH (FR.out.fut hb);replace BN:=zH (BN.out.fut hb);replace BA:=zH (BA.out.fut hb);replace BB:=zH (BB.out.fut hb);replace BR:=zH (BR.out.fut hb);clear hb hw_w1 hw_w2 hw_w3 hw_w4)|(refine lB 32 (.tmp 4) w1.heap.size BA.out Tryz.underlying32 ?_)|(go_at_call 17;refine (RA.out _).mono ?_;rintro e w6 ⟨rfl,hb⟩;have l6:=hb.size;replace FR:=zH (FR.out.fut hb);replace BN:=zH (BN.out.fut hb);replace BA:=zH (BA.out.fut hb);replace BB:=zH (BB.out.fut hb);replace BR:=zH (BR.out.fut hb);clear hb;have c0:=BN.out.cell 0;simp only [gX] at c0;rw [KE.out] at c0;have c5:=BN.out.cell 5;have c7:=BN.out.cell 7;simp only [gX] at c5 c7))
  refine (S.out _ ((Old.now HA.out).fut FR.out.out).all).mono ?_
  rintro e wm ⟨RA,rn,rc,rfl,rs,hb,un⟩
  have UN:=zH un
  clear un
  have RS:=zH (show New w6 (tInt .i8) wm RA rn rc x.1.data from ⟨rs⟩)
  have lbr:=BR.out.lt
  have lfr:=FR.out.size
  replace BR:=zH (BR.out.fut hb)
  replace FR:=zH (FR.out.fut hb)
  clear hb rs c0 c5 c7
  go_wp2_with (refine sB 32 (.tmp 6) (.tmp 58) w3.heap.size #[.int .i64 x.1.h,.int .i64 x.1.v,.int .i64 x.1.c,.slice RA rn rc] BR.out ?_;intro w9 B9 g9)
  refine ret_cell_tmp rfl B9 rfl Tryz.underlying32 (by kernel_rfl) rfl ?_
  exact ⟨RA,rn,rc,rfl,(RS.out.away g9 lbr).out.more (bin_more lfr (Nat.le_refl _)),(FR.out.away g9 (by omega)).out,un_away RS.out UN.out g9 lbr⟩
 rw [if_neg k8] at NQ
 have t8:(d.kind == 8)=false:=by simpa using k8
 by_cases k9:d.kind=9
 ·rw [if_pos k9] at NQ
  have S:=zH (show ∀ w,Sl (tInt .i8) w (blo w.heap.size) A n cap a.data → Calls Tryz.prog 23 #[.agg #[.int .i64 a.h,.int .i64 a.v,.int .i64 a.c,.slice A n cap]] w (RetW .i8 ((⟨1,1,n,a.data⟩,0):Tensor × Int).1 ((⟨1,1,n,a.data⟩,0):Tensor × Int).2 w) from fun w ha=>tensorFlat_anyW a A n cap w HM.out.1 ha C1.out)
  rw [← NQ.out] at S
  have KE:=zH k9
  clear k9  k4 t4 k5 t5 k6 t6 k7 t7 k8 t8 NQ q2
  go_enter Tryz.func8,Tryz.ntmps8
  go_wp2_with (first|(refine lB 28 (.tmp 3) w.heap.size BN.out Tryz.underlying28 ?_)|(go_at_call 16;refine (CK.out _ ((Old.now HW.out).fut FR.out.out).all ((Old.now HB.out).fut FR.out.out).all).mono ?_;rintro e w5 ⟨rfl,hb⟩;have l5:=hb.size;replace FR:=zH (FR.out.fut hb);replace BN:=zH (BN.out.fut hb);replace BA:=zH (BA.out.fut hb);replace BB:=zH (BB.out.fut hb);replace BR:=zH (BR.out.fut hb);clear hb hw_w1 hw_w2 hw_w3 hw_w4)|(refine lB 32 (.tmp 4) w1.heap.size BA.out Tryz.underlying32 ?_)|(go_at_call 17;refine (RA.out _).mono ?_;rintro e w6 ⟨rfl,hb⟩;have l6:=hb.size;replace FR:=zH (FR.out.fut hb);replace BN:=zH (BN.out.fut hb);replace BA:=zH (BA.out.fut hb);replace BB:=zH (BB.out.fut hb);replace BR:=zH (BR.out.fut hb);clear hb;have c0:=BN.out.cell 0;simp only [gX] at c0;rw [KE.out] at c0))
  refine (S.out _ ((Old.now HA.out).fut FR.out.out).all).mono ?_
  rintro e wm ⟨RA,rn,rc,rfl,rs,hb,un⟩
  have UN:=zH un
  clear un
  have RS:=zH (show New w6 (tInt .i8) wm RA rn rc x.1.data from ⟨rs⟩)
  have lbr:=BR.out.lt
  have lfr:=FR.out.size
  replace BR:=zH (BR.out.fut hb)
  replace FR:=zH (FR.out.fut hb)
  clear hb rs c0
  go_wp2_with (refine sB 32 (.tmp 6) (.tmp 64) w3.heap.size #[.int .i64 x.1.h,.int .i64 x.1.v,.int .i64 x.1.c,.slice RA rn rc] BR.out ?_;intro w9 B9 g9)
  refine ret_cell_tmp rfl B9 rfl Tryz.underlying32 (by kernel_rfl) rfl ?_
  exact ⟨RA,rn,rc,rfl,(RS.out.away g9 lbr).out.more (bin_more lfr (Nat.le_refl _)),(FR.out.away g9 (by omega)).out,un_away RS.out UN.out g9 lbr⟩
 rw [if_neg k9] at NQ
 have t9:(d.kind == 9)=false:=by simpa using k9
 have S:=zH (fun w ha hw hb=>summed_anyW a A n cap d W nw cw B nb cb w HM.out.1 HM.out.2.2.1 ha hw hb HM.out.2.2.2)
 rw [← NQ.out] at S
 clear k4 k5 k6 k7 k8 k9 NQ q2
 go_enter Tryz.func8,Tryz.ntmps8
 go_wp2_with (first|(refine lB 28 (.tmp 3) w.heap.size BN.out Tryz.underlying28 ?_)|(go_at_call 16;refine (CK.out _ ((Old.now HW.out).fut FR.out.out).all ((Old.now HB.out).fut FR.out.out).all).mono ?_;rintro e w5 ⟨rfl,hb⟩;have l5:=hb.size;replace FR:=zH (FR.out.fut hb);replace BN:=zH (BN.out.fut hb);replace BA:=zH (BA.out.fut hb);replace BB:=zH (BB.out.fut hb);replace BR:=zH (BR.out.fut hb);clear hb hw_w1 hw_w2 hw_w3 hw_w4)|(refine lB 32 (.tmp 4) w1.heap.size BA.out Tryz.underlying32 ?_)|(go_at_call 17;refine (RA.out _).mono ?_;rintro e w6 ⟨rfl,hb⟩;have l6:=hb.size;replace FR:=zH (FR.out.fut hb);replace BN:=zH (BN.out.fut hb);replace BA:=zH (BA.out.fut hb);replace BB:=zH (BB.out.fut hb);replace BR:=zH (BR.out.fut hb);clear hb;have c0:=BN.out.cell 0;simp only [gX] at c0))
 ·refine (S.out _ ((Old.now HA.out).fut FR.out.out).all ((Old.now HW.out).fut FR.out.out).all ((Old.now HB.out).fut FR.out.out).all).mono ?_
  rintro e wm ⟨RA,rn,rc,rfl,rs,hb,un⟩
  have UN:=zH un
  clear un
  have RS:=zH (show New w6 (tInt .i8) wm RA rn rc x.1.data from ⟨rs⟩)
  have lbr:=BR.out.lt
  have lfr:=FR.out.size
  replace BR:=zH (BR.out.fut hb)
  replace FR:=zH (FR.out.fut hb)
  clear hb rs c0
  go_wp2_with (refine sB 32 (.tmp 6) (.tmp 69) w3.heap.size #[.int .i64 x.1.h,.int .i64 x.1.v,.int .i64 x.1.c,.slice RA rn rc] BR.out ?_;intro w9 B9 g9)
  refine ret_cell_tmp rfl B9 rfl Tryz.underlying32 (by kernel_rfl) rfl ?_
  exact ⟨RA,rn,rc,rfl,(RS.out.away g9 lbr).out.more (bin_more lfr (Nat.le_refl _)),(FR.out.away g9 (by omega)).out,un_away RS.out UN.out g9 lbr⟩
end Go.Proofs.YtlbkekabmpienaaGreat
namespace Go.Proofs.YtlbkekabmpienaaGreat
set_option linter.unusedVariables false
set_option linter.unusedSimpArgs false
open Go.RowKit Go.ChangeShapes Go.WideShapes
set_option maxRecDepth 100000
set_option maxHeartbeats 8000000
/-- Numbers that may be written, in one block. -/
def Wr (w:World) (b o n:Nat):Prop:=∀ j,j < n → (∃ v,w.cell? ⟨b,o+j,none⟩=some (.int .i8 v))∧w.frozen? ⟨b,o+j,none⟩=false
theorem Wr.set {w:World} {b o n i:Nat} (h:Wr w b o n) (hi:i < n) (v:Int):Wr (w.setCell ⟨b,o+i,none⟩ (.int .i8 v)) b o n:=fun j hj=>by
 refine ⟨?_,by rw [World.frozen?_setCell];exact (h j hj).2⟩
 by_cases e:j=i
 ·subst e
  obtain ⟨u,hu⟩:=(h j hj).1
  exact ⟨v,World.cell?_setCell_same' _ _ _ (by rw [hu];rfl)⟩
 ·obtain ⟨u,hu⟩:=(h j hj).1
  exact ⟨u,by rw [World.cell?_setCell_other _ _ _ _ (fun h=>e (by injection h with h1 h2;omega))];exact hu⟩
theorem Wr.later {w w':World} {b o n:Nat} (h:Wr w b o n) (hb:w'.heap[b]?=w.heap[b]?):Wr w' b o n:=fun j hj =>
 ⟨by rw [World.cell?_of_block hb];exact (h j hj).1,by rw [World.frozen?_of_block hb];exact (h j hj).2⟩
/-- Numbers of a slice in blocks from lo to hi that may be written. -/
def WrA (lo hi:Nat) (w:World) (A:Option Addr) (n:Nat):Prop:=∀ j,j < n → ∃ b o,A=some ⟨b,o,none⟩∧lo≤b∧b < hi∧Wr w b o n
theorem WrA.of {w w':World} {A:Option Addr} {n cap:Nat} {l:List Int} (h:Sl (tInt .i8) w' (bin w.heap.size w'.heap.size) A n cap l) (u:Un w' A n):WrA w.heap.size w'.heap.size w' A n:=fun j hj=>by
 obtain ⟨b,o,rfl,hb,-,-,-⟩:=h.int_at j hj
 refine ⟨b,o,rfl,hb.1,hb.2,fun i hi=>⟨?_,u _ rfl i hi⟩⟩
 obtain ⟨b',o',e,-,-,c,-⟩:=h.int_at i hi
 cases e
 exact ⟨_,c⟩
theorem WrA.later {lo:Nat} {w w':World} {A:Option Addr} {n:Nat} (h:WrA lo w.heap.size w A n) (hb:Below w.heap.size w w'):WrA lo w.heap.size w' A n:=fun j hj=>by
 obtain ⟨b,o,e,h1,h2,h3⟩:=h j hj
 exact ⟨b,o,e,h1,h2,h3.later (hb.block b h2)⟩
theorem WrA.fut {lo hi:Nat} {w w':World} {A:Option Addr} {n:Nat} (h:WrA lo hi w A n) (hh:hi≤w.heap.size) (hb:Below w.heap.size w w'):WrA lo hi w' A n:=fun j hj=>by
 obtain ⟨b,o,e,h1,h2,h3⟩:=h j hj
 exact ⟨b,o,e,h1,h2,h3.later (hb.block b (Nat.lt_of_lt_of_le h2 hh))⟩
theorem runAgain_any (d:Node) (W:Option Addr) (nw cw:Nat) (B:Option Addr) (nb cb:Nat) (a b:Tensor) (A A':Option Addr) (n cap n' cap':Nat) (w:World) (ht:TensorIn a) (hu:TensorIn b) (hd:NodeIn d)
  (hw:Sl (tInt .i8) w (blo w.heap.size) W nw cw d.w) (hbi:Sl (tInt .i32) w (blo w.heap.size) B nb cb d.bias) (ha:Sl (tInt .i8) w (blo w.heap.size) A n cap a.data) (hbs:Sl (tInt .i8) w (blo w.heap.size) A' n' cap' b.data) :
  Calls Tryz.prog 5 #[.agg #[.int .i64 d.kind,.int .i64 d.a,.int .i64 d.b,.int .i64 d.k,.int .i64 d.s,.int .i64 d.p,.int .i64 d.out,.int .i8 d.za,.int .i8 d.zb,.slice W nw cw,.slice B nb cb,.int .i32 d.qm,.int .i64 d.qs,.int .i8 d.qz,.int .i32 d.rm,.int .i64 d.rs,.int .i8 d.rz,.int .i8 d.lo,.int .i8 d.hi],.agg #[.int .i64 a.h,.int .i64 a.v,.int .i64 a.c,.slice A n cap],.agg #[.int .i64 b.h,.int .i64 b.v,.int .i64 b.c,.slice A' n' cap']] w fun e w'=>e=.returned (.bool true)∧Below w.heap.size w w':=by
 have HW:=zH hw
 have HB:=zH hbi
 have HA:=zH ha
 have HB2:=zH hbs
 have HT:=zH (And.intro ht (And.intro hu hd))
 have FW:=zH (fun w=>few_any a A n cap d W nw cw B nb cb w (Nat.le_trans ha.cap_le ha.max_le) (Nat.le_trans hw.cap_le hw.max_le) (Nat.le_trans hbi.cap_le hbi.max_le))
 have KN:=zH (fun w=>known26_any w)
 have FR:=zH (Far.refl w)
 have mxb:n'≤9223372036854775807:=Nat.le_trans hbs.cap_le hbs.max_le
 have mxa:n≤9223372036854775807:=Nat.le_trans ha.cap_le ha.max_le
 obtain ⟨w1,hw_w1,BN,k_w1⟩:=nB w #[.int .i64 d.kind,.int .i64 d.a,.int .i64 d.b,.int .i64 d.k,.int .i64 d.s,.int .i64 d.p,.int .i64 d.out,.int .i8 d.za,.int .i8 d.zb,.slice W nw cw,.slice B nb cb,.int .i32 d.qm,.int .i64 d.qs,.int .i8 d.qz,.int .i32 d.rm,.int .i64 d.rs,.int .i8 d.rz,.int .i8 d.lo,.int .i8 d.hi] 28
 replace FR:=zH (FR.out.fut k_w1)
 clear k_w1
 obtain ⟨w2,hw_w2,BA,k_w2⟩:=nB w1 #[.int .i64 a.h,.int .i64 a.v,.int .i64 a.c,.slice A n cap] 32
 replace FR:=zH (FR.out.fut k_w2)
 replace BN:=zH (BN.out.fut k_w2)
 clear k_w2
 obtain ⟨w3,hw_w3,BB,k_w3⟩:=nB w2 #[.int .i64 b.h,.int .i64 b.v,.int .i64 b.c,.slice A' n' cap'] 32
 replace FR:=zH (FR.out.fut k_w3)
 replace BN:=zH (BN.out.fut k_w3)
 replace BA:=zH (BA.out.fut k_w3)
 clear k_w3
 clear ht hu hd hw hbi ha hbs
 by_cases cf:n≤1024∧nw≤2000∧nb≤200
 rotate_left
 ·rw [decide_eq_false cf] at FW
  clear cf
  go_enter Tryz.func5,Tryz.ntmps5
  go_wp2_with (first|(refine lB 32 (.tmp 4) w1.heap.size BA.out Tryz.underlying32 ?_)|(refine lB 28 (.tmp 3) w.heap.size BN.out Tryz.underlying28 ?_)|(go_at_call 6;refine (FW.out _).mono ?_;rintro e w4 ⟨rfl,hb⟩;replace FR:=zH (FR.out.fut hb);replace BN:=zH (BN.out.fut hb);replace BA:=zH (BA.out.fut hb);replace BB:=zH (BB.out.fut hb);clear hb hw_w1 hw_w2 hw_w3;have b3:=BB.out.cell 3;simp only [gX] at b3))
  refine (KN.out _).mono ?_
  rintro e w5 ⟨rfl,hb⟩
  have F5:=zH (FR.out.fut hb)
  clear hb
  go_wp2_with fail
  go_ret
  exact ⟨rfl,F5.out.out⟩
 rw [decide_eq_true cf] at FW
 by_cases cb':n'≤1024
 rotate_left
 ·have t1:(1024:Int) < (n':Int):=by omega
  clear cf cb'
  go_enter Tryz.func5,Tryz.ntmps5
  go_wp2_with (first|(refine lB 32 (.tmp 4) w1.heap.size BA.out Tryz.underlying32 ?_)|(refine lB 28 (.tmp 3) w.heap.size BN.out Tryz.underlying28 ?_)|(go_at_call 6;refine (FW.out _).mono ?_;rintro e w4 ⟨rfl,hb⟩;replace FR:=zH (FR.out.fut hb);replace BN:=zH (BN.out.fut hb);replace BA:=zH (BA.out.fut hb);replace BB:=zH (BB.out.fut hb);clear hb hw_w1 hw_w2 hw_w3;have b3:=BB.out.cell 3;simp only [gX] at b3))
  refine (KN.out _).mono ?_
  rintro e w5 ⟨rfl,hb⟩
  have F5:=zH (FR.out.fut hb)
  clear hb
  go_wp2_with fail
  go_ret
  exact ⟨rfl,F5.out.out⟩
 have t1:¬ (1024:Int) < (n':Int):=by omega
 have mw:nw≤2000∧nb≤200:=cf.2
 have N1:=zH (fun w hw hbi ha hbs=>runNode_anyW d W nw cw B nb cb a b A A' n cap n' cap' w HT.out.1 HT.out.2.1 HT.out.2.2 hw hbi ha hbs mw)
 obtain ⟨⟨x,k⟩,hx⟩:∃ q,nodeQ d a b=q:=⟨_,rfl⟩
 rw [hx] at N1
 have hn1024:n≤1024:=cf.1
 clear cf cb' mw hx
 go_enter Tryz.func5,Tryz.ntmps5
 go_wp2_with (first|(refine lB 32 (.tmp 4) w1.heap.size BA.out Tryz.underlying32 ?_)|(refine lB 28 (.tmp 3) w.heap.size BN.out Tryz.underlying28 ?_)|(refine lB 32 (.tmp 5) w2.heap.size BB.out Tryz.underlying32 ?_)|(go_at_call 6;refine (FW.out _).mono ?_;rintro e w4 ⟨rfl,hb⟩;replace FR:=zH (FR.out.fut hb);replace BN:=zH (BN.out.fut hb);replace BA:=zH (BA.out.fut hb);replace BB:=zH (BB.out.fut hb);clear hb hw_w1 hw_w2 hw_w3;have b3:=BB.out.cell 3;simp only [gX] at b3;have a3:=BA.out.cell 3;simp only [gX] at a3;have o0:=Own.lit0 (W:=w4) (k:=.i8) (E:=22) (base:=w4.heap.size) (Nat.le_refl _);have k0:Below w4.heap.size w4 (w4.alloc (.cells #[] 22)):=(Below.refl _ _).alloc (Nat.le_refl _) _;have s0:=((Old.now HA.out).fut FR.out.out).all.later k0 (Nat.le_refl _);replace a3:=cell_later k0 a3)|(at_builtin;refine wpList_extend rfl _ _ rfl ei_i8' rfl o0 rfl s0 (by unfold maxLen;omega) (by omega) k0.size ?_;intro v' w5 own5 g5 a5;have b5:Below w4.heap.size w4 w5:=k0.grown g5 k0.size (fun k h=>(o0.lt k h).1);replace FR:=zH (FR.out.fut b5);replace BN:=zH (BN.out.fut b5);replace BA:=zH (BA.out.fut b5);replace BB:=zH (BB.out.fut b5)))
 obtain ⟨A0,c0,rfl,s5⟩:=own5.sl (S':=blo w5.heap.size) (by decide) (fun _ _ h=>h) (fun _ h=>h.elim)
 rw [Nat.zero_add,List.nil_append] at s5
 have S0:=zH (Old.now s5)
 clear own5 a5 g5 o0 s0 s5 a3 k0 b3 b5
 have lo1:=BN.out.lt
 have lo2:=BA.out.lt
 have lo3:=BB.out.lt
 refine (N1.out _ ((Old.now HW.out).fut FR.out.out).all ((Old.now HB.out).fut FR.out.out).all ((Old.now HA.out).fut FR.out.out).all ((Old.now HB2.out).fut FR.out.out).all).mono ?_
 rintro e w6 ⟨A1,n1,c1,rfl,s1,hb,un⟩
 have WR:=zH (WrA.of s1 un)
 have hn1:n1≤9223372036854775807:=Nat.le_trans s1.cap_le s1.max_le
 have z6:=hb.size
 clear s1 un
 replace FR:=zH (FR.out.fut hb)
 replace BN:=zH (BN.out.fut hb)
 replace BA:=zH (BA.out.fut hb)
 replace BB:=zH (BB.out.fut hb)
 replace S0:=zH (S0.out.fut hb)
 clear hb
 obtain ⟨w7,hw_w7,BX1,k_w7⟩:=nB w6 #[.int .i64 x.h,.int .i64 x.v,.int .i64 x.c,.slice A1 n1 c1] 32
 replace FR:=zH (FR.out.fut k_w7)
 replace BN:=zH (BN.out.fut k_w7)
 replace BA:=zH (BA.out.fut k_w7)
 replace BB:=zH (BB.out.fut k_w7)
 replace S0:=zH (S0.out.fut k_w7)
 clear k_w7
 have b7:Below w6.heap.size w6 w7:=by rw [← hw_w7];exact (Below.refl _ _).alloc (Nat.le_refl _) _
 have z7:w6.heap.size < w7.heap.size:=BX1.out.lt
 replace WR:=zH (WR.out.later b7)
 clear b7
 go_wp2_with (first|(refine lB 32 (.tmp 4) w1.heap.size BA.out Tryz.underlying32 ?_)|(refine lB 28 (.tmp 3) w.heap.size BN.out Tryz.underlying28 ?_)|(refine lB 32 (.tmp 5) w2.heap.size BB.out Tryz.underlying32 ?_))
 refine (N1.out _ ((Old.now HW.out).fut FR.out.out).all ((Old.now HB.out).fut FR.out.out).all ((Old.now HA.out).fut FR.out.out).all ((Old.now HB2.out).fut FR.out.out).all).mono ?_
 rintro e w8 ⟨A2,n2,c2,rfl,s2,hb,-⟩
 have z8:=hb.size
 have S2:=zH (New.of s2 (Far.refl w7))
 clear s2 hw_w7
 replace WR:=zH (WR.out.fut (by omega) hb)
 replace FR:=zH (FR.out.fut hb)
 replace BN:=zH (BN.out.fut hb)
 replace BA:=zH (BA.out.fut hb)
 replace BB:=zH (BB.out.fut hb)
 replace BX1:=zH (BX1.out.fut hb)
 replace S0:=zH (S0.out.fut hb)
 clear hb
 obtain ⟨w9,hw_w9,BX2,k_w9⟩:=nB w8 #[.int .i64 x.h,.int .i64 x.v,.int .i64 x.c,.slice A2 n2 c2] 32
 replace FR:=zH (FR.out.fut k_w9)
 replace BN:=zH (BN.out.fut k_w9)
 replace BA:=zH (BA.out.fut k_w9)
 replace BB:=zH (BB.out.fut k_w9)
 replace BX1:=zH (BX1.out.fut k_w9)
 replace S0:=zH (S0.out.fut k_w9)
 replace S2:=zH (S2.out.fut k_w9)
 clear k_w9
 have z9:w8.heap.size < w9.heap.size:=BX2.out.lt
 replace WR:=zH (WR.out.fut (by omega) (show Below w8.heap.size w8 w9 by rw [← hw_w9];exact (Below.refl _ _).alloc (Nat.le_refl _) _))
 have x3:=BX1.out.cell 3
 simp only [gX] at x3
 go_wp2_with fail
 clear hw_w9
 go_loopw [12] (fun i wr=>∃ k:Nat,k≤n1∧i=.int .i64 k∧But (fun g=>w5.heap.size≤g∧g < w6.heap.size) w9 wr∧WrA w5.heap.size w6.heap.size wr A1 n1) (fun i _=>n1 - (intOf i).toNat)
 case atStart=>exact ⟨0,Nat.zero_le _,rfl,But.refl _ _,WR.out⟩
 case round =>
  clear WR x3
  obtain ⟨k,hk,rfl,hbut,hwr⟩:=hrel
  have BU:=zH hbut
  have WR:=zH hwr
  have x3:=(BX1.out.but hbut (by omega)).cell 3
  simp only [gX] at x3
  clear hbut hwr
  by_cases hlt:k < n1
  ·obtain ⟨b1,o1,rfl,l1,l2,hw1⟩:=WR.out k hlt
   obtain ⟨v1,cv⟩:=(hw1 k hlt).1
   have cf:=(hw1 k hlt).2
   have HW1:=zH hw1
   clear hw1
   go_wp2_with fail
   exact ⟨⟨k+1,by omega,by go_num,BU.out.set _ _ ⟨l1,l2⟩,fun j hj=>⟨b1,o1,rfl,l1,l2,HW1.out.set hlt 0⟩⟩,by simp [intOf];omega⟩
  ·obtain rfl:k=n1:=by omega
   clear WR
   have KP:=zH (show ∀ g,g < w9.heap.size → (g < w5.heap.size ∨ w6.heap.size≤g) → wr.heap[g]?=w9.heap[g]? from fun g h1 h2=>BU.out.block g h1 (by omega))
   have zr:=BU.out.size
   replace FR:=zH (BU.out.since FR.out (fun g h=>by omega))
   replace BN:=zH (BN.out.but BU.out (by omega))
   replace BA:=zH (BA.out.but BU.out (by omega))
   replace BB:=zH (BB.out.but BU.out (by omega))
   replace BX2:=zH (BX2.out.but BU.out (by omega))
   have SU:=zH (show Sl (tInt .i8) wr (blo wr.heap.size) A2 n2 c2 x.data from (S2.out.out.keep fun g h=>KP.out g h.2 (by have:=h.1;omega)).more fun g h=>Nat.lt_of_lt_of_le h.2 zr)
   have SW:=zH (show Sl (tInt .i8) wr (blo wr.heap.size) A0 n c0 a.data from (S0.out.out.keep fun g h=>KP.out g (by have h:g < w5.heap.size:=h;omega) (.inl h)).more fun g h=>by have h:g < w5.heap.size:=h;show g < _;omega)
   clear S2 S0 KP BU
   go_wp2_with (first|(refine lB 32 (.tmp 4) w1.heap.size BA.out Tryz.underlying32 ?_)|(refine lB 28 (.tmp 3) w.heap.size BN.out Tryz.underlying28 ?_)|(refine lB 32 (.tmp 5) w2.heap.size BB.out Tryz.underlying32 ?_))
   refine (N1.out _ ((Old.now HW.out).fut FR.out.out).all ((Old.now HB.out).fut FR.out.out).all ((Old.now HA.out).fut FR.out.out).all ((Old.now HB2.out).fut FR.out.out).all).mono ?_
   rintro e wa ⟨A3,n3,c3,rfl,s3,hb,-⟩
   have S3:=zH s3.old
   clear s3
   replace FR:=zH (FR.out.fut hb)
   replace BN:=zH (BN.out.fut hb)
   replace BA:=zH (BA.out.fut hb)
   replace BB:=zH (BB.out.fut hb)
   replace BX2:=zH (BX2.out.fut hb)
   replace SU:=zH (SU.out.fut hb)
   replace SW:=zH (SW.out.fut hb)
   clear hb
   obtain ⟨wb,hw_wb,BX3,k_wb⟩:=nB wa #[.int .i64 x.h,.int .i64 x.v,.int .i64 x.c,.slice A3 n3 c3] 32
   replace FR:=zH (FR.out.fut k_wb)
   replace BN:=zH (BN.out.fut k_wb)
   replace BA:=zH (BA.out.fut k_wb)
   replace BB:=zH (BB.out.fut k_wb)
   replace BX2:=zH (BX2.out.fut k_wb)
   replace SU:=zH (SU.out.fut k_wb)
   replace SW:=zH (SW.out.fut k_wb)
   replace S3:=zH (S3.out.fut k_wb)
   clear k_wb
   have HH:=zH ((Old.now HA.out).fut FR.out.out)
   go_wp2_with (first
    | (refine wpList_load_midw (by kernel_rfl) 32 (.tmp 10) rfl w8.heap.size 0 rfl _ _ (range_blk (vs:=[.int .i64 x.h,.int .i64 x.v,.int .i64 x.c,.slice A2 n2 c2]) BX2.out rfl) Tryz.underlying32 rfl (by kernel_rfl) ?_)|(refine wpList_load_midw (by kernel_rfl) 32 (.tmp 13) rfl wa.heap.size 0 rfl _ _ (range_blk (vs:=[.int .i64 x.h,.int .i64 x.v,.int .i64 x.c,.slice A3 n3 c3]) BX3.out rfl) Tryz.underlying32 rfl (by kernel_rfl) ?_)|(refine wpList_load_midw (by kernel_rfl) 32 (.tmp 4) rfl w1.heap.size 0 rfl _ _ (range_blk (vs:=[.int .i64 a.h,.int .i64 a.v,.int .i64 a.c,.slice A n cap]) BA.out rfl) Tryz.underlying32 rfl (by kernel_rfl) ?_)|(refine wpList_load_midw (by kernel_rfl) 30 (.tmp 77) rfl w1.heap.size 0 rfl _ _ (range_blk (vs:=[.int .i64 a.h,.int .i64 a.v,.int .i64 a.c]) BA.out rfl) Tryz.underlying30 rfl (by kernel_rfl) ?_)
    | (go_at_call 12;with_reducible refine (same05_eq x A2 A3 n2 c2 n3 c3 _ SU.out S3.out).mono ?_;rintro e wc ⟨rfl,hb⟩;replace FR:=zH (FR.out.fut hb);replace BA:=zH (BA.out.fut hb);replace HH:=zH (HH.out.fut hb);replace SW:=zH (SW.out.fut hb);clear hb hw_wb)
    | (go_at_call 12;with_reducible refine (same05_eq a A A0 n cap n c0 _ HH.out.all SW.out).mono ?_;rintro e wd ⟨rfl,hb⟩;replace FR:=zH (FR.out.fut hb);clear hb)
    | (go_at_call 7;refine (KN.out _).mono ?_;rintro e w15 ⟨rfl,hb⟩;replace FR:=zH (FR.out.fut hb);clear hb))
   go_ret
   exact ⟨rfl,FR.out.out⟩
theorem runAgain_walk (cs:Array Value) (d:Node) {w0:World} (hd:tNode.rep w0 (blo w0.heap.size) cs.toList d) (cs':Array Value) (a:Tensor) (ha:tTensor.rep w0 (blo w0.heap.size) cs'.toList a) (cs'':Array Value) (b:Tensor) (hb:tTensor.rep w0 (blo w0.heap.size) cs''.toList b) (w:World) (e:w0=w) :
  Calls Tryz.prog 5 #[.agg cs,.agg cs',.agg cs''] w fun e w'=>e=.returned (.bool true)∧Below w.heap.size w w':=by
 subst e
 obtain ⟨W,nw,cw,B,nb,cb,e2,k3,k4,k5⟩:=node_open hd
 obtain ⟨A,n,cap,e1,k1,k2⟩:=tensor_open ha
 obtain ⟨A',n',cap',e1',k1',k2'⟩:=tensor_open hb
 obtain ⟨cs⟩:=cs
 obtain ⟨cs'⟩:=cs'
 obtain ⟨cs''⟩:=cs''
 simp only at e1 e2 e1'
 subst e1 e2 e1'
 exact runAgain_any d W nw cw B nb cb a b A A' n cap n' cap' _ k1 k1' k3 k4 k5 k2 k2'
end Go.Proofs.YtlbkekabmpienaaGreat
namespace Go.Proofs.YtlbkekabmpienaaGreat
set_option linter.unusedVariables false
set_option linter.unusedSimpArgs false
open Go.RowKit Go.ChangeShapes Go.WideShapes Go.Deep Go.ChangeAt
set_option maxRecDepth 100000 in
theorem runAgain_lifted (os:Os) (started:os.Started) (H:Type) (enc:TypeId × Value → H) :
  ReturnsInHanded {} Tryz.checked os 5 .any (Rows.runAgainSpec.pre6 enc Tryz.prog Tryz.f5 Rows.runAgainRow.domain false) (Rows.runAgainSpec.post enc Tryz.prog Tryz.f5 false true false false):=by
 refine law_lift (C:=Tryz.checked) (T:=4) (by kernel_rfl) started (by kernel_rfl) Tryz.func5
  (ChangeSpec.witness6 (enc:=enc) (C:=Tryz.checked) false ⟨#[],#[.agg #[.int .i64 0,.int .i64 0,.int .i64 0,.int .i64 0,.int .i64 0,.int .i64 0,.int .i64 0,.int .i8 0,.int .i8 0,.slice none 0 0,.slice none 0 0,.int .i32 0,.int .i64 0,.int .i8 0,.int .i32 0,.int .i64 0,.int .i8 0,.int .i8 0,.int .i8 0],.agg #[.int .i64 0,.int .i64 0,.int .i64 0,.slice none 0 0],.agg #[.int .i64 0,.int .i64 0,.int .i64 0,.slice none 0 0]],[]⟩ 8 (by kernel_rfl) (by kernel_rfl) (by kernel_rfl) (by kernel_rfl))
  (by kernel_rfl) (by kernel_rfl) rfl Tryz.underlying4 rfl ?_ ?_
 ·intro ds hlen
  match ds,hlen with
  | [d0,d1,d2],_=>exact ⟨rfl,rfl,rfl⟩
 ·intro W base args ds p hval hA
  rw [Tryz.params5] at hA hval
  obtain ⟨v0,vs0,d0,ds0,p0,q0,hargs,rfl,rfl,h0,r0⟩:=trodAll_cons hA
  obtain ⟨v1,vs1,d1,ds1,p1,q1,rfl,rfl,rfl,h1,r1⟩:=trodAll_cons r0
  obtain ⟨v2,vs2,d2,ds2,p2,q2,rfl,rfl,rfl,h2,r2⟩:=trodAll_cons r1
  obtain ⟨rfl,rfl,rfl⟩:=trodAll_nil r2
  obtain rfl:args=#[v0,v1,v2]:=by cases args;simp_all
  obtain ⟨cs0,y0,rfl,k0⟩:=arg_struct (t:=tNode) Tryz.underlying28 opens_node (hval 0 28 v0 rfl rfl) h0
  obtain ⟨cs1,y1,rfl,k1⟩:=arg_struct (t:=tTensor) Tryz.underlying32 opens_tensor (hval 1 32 v1 rfl rfl) h1
  obtain ⟨cs2,y2,rfl,k2⟩:=arg_struct (t:=tTensor) Tryz.underlying32 opens_tensor (hval 2 32 v2 rfl rfl) h2
  exact runAgain_walk cs0 y0 k0 cs1 y1 k1 cs2 y2 k2 W rfl
theorem runAgain_holds:Rows.RunAgainSaid :=
 OpenClaim.holds_of_wide 5 Tryz.f5 rfl rfl rfl rfl rfl rfl rfl ⟨rfl,rfl,rfl,rfl,rfl⟩ rfl rfl rfl rfl rfl (by kernel_rfl) Tryz.func5 (by kernel_rfl)
  (of_decide_eq_true (by kernel_rfl)) (by unfold Func.isWrapper;rw [if_neg (of_decide_eq_false (by kernel_rfl))];exact ⟨rfl,rfl⟩)
  (fun os started H enc _=>runAgain_lifted os started H enc)
#print axioms runAgain_holds
end Go.Proofs.YtlbkekabmpienaaGreat
