/-
  What a node makes (layer 26): the document's Node.
  What any node makes of any tensors is what the document says (the walk of the law RunNodes).
  THE STATEMENT RunNodes: for every input the law returns true, and each argument reads behind the call as it did before.
  Conditions: none but the given row's own.
-/
import Derived.Test.YtlbkekabmpienaaGreatJ41
import Derived.Test.YtlbkekabmpienaaGreatJ28
import Derived.Test.YtlbkekabmpienaaGreatKA10
import Derived.Test.YtlbkekabmpienaaGreatJ00
import Derived.Test.YtlbkekabmpienaaGreatJ29
import Derived.Test.YtlbkekabmpienaaGreatJ31
import Derived.Test.YtlbkekabmpienaaGreatKA08
import Derived.Test.YtlbkekabmpienaaGreatJ32
import Derived.Test.YtlbkekabmpienaaGreatKA05
import Derived.Test.YtlbkekabmpienaaGreatJ34
import Derived.Test.YtlbkekabmpienaaGreatJ40
import Derived.Test.YtlbkekabmpienaaGreatKA11
import Derived.Test.YtlbkekabmpienaaGreatJ19
import Derived.Test.YtlbkekabmpienaaGreatJ27
import Derived.Test.YtlbkekabmpienaaGreatKA09
import Derived.Test.YtlbkekabmpienaaGreatJ30
import Derived.Test.YtlbkekabmpienaaGreatJ08
import Derived.Test.YtlbkekabmpienaaGreatJ26
import Derived.Test.YtlbkekabmpienaaGreatKA06
import Derived.Test.YtlbkekabmpienaaGreatJ25
import Derived.Test.YtlbkekabmpienaaGreatJ06
import Derived.Test.YtlbkekabmpienaaGreatJ03
import Derived.Test.YtlbkekabmpienaaGreatJ05
import Derived.Test.YtlbkekabmpienaaGreatJ33
import Derived.Test.YtlbkekabmpienaaGreatJ14
import Derived.Test.YtlbkekabmpienaaGreatKA01
import Derived.Test.YtlbkekabmpienaaGreatJ23
import Derived.Test.YtlbkekabmpienaaGreatJ24
import Derived.Test.YtlbkekabmpienaaGreatJ16
import Derived.Test.YtlbkekabmpienaaGreatJ20
import Derived.Test.YtlbkekabmpienaaGreatJ15
import Derived.Test.YtlbkekabmpienaaGreatKA00
import Derived.Test.YtlbkekabmpienaaGreatJ04
import Derived.Test.YtlbkekabmpienaaGreatJ01
import Derived.Test.YtlbkekabmpienaaGreatJ07
import Derived.Test.YtlbkekabmpienaaGreatJ17
import Derived.Test.YtlbkekabmpienaaGreatJ02
import Derived.Test.YtlbkekabmpienaaGreatKA07
import Derived.Test.YtlbkekabmpienaaGreatJ09
import Derived.Test.YtlbkekabmpienaaGreatRows
namespace Go.Proofs.YtlbkekabmpienaaGreat
set_option linter.unusedVariables false
set_option linter.unusedSimpArgs false
open Go.RowKit Go.ChangeShapes Go.WideShapes
set_option maxRecDepth 100000
set_option maxHeartbeats 4000000
theorem poolU_true:poolU true=maxU:=rfl
theorem poolU_false:poolU false=meanV:=rfl
theorem rrunNode_any (d:Node) (W:Option Addr) (nw cw:Nat) (B:Option Addr) (nb cb:Nat) (a b:Tensor) (A A':Option Addr) (n cap n' cap':Nat) (w:World) (ht:TensorIn a) (hu:TensorIn b) (hd:NodeIn d)
  (hw:Sl (tInt .i8) w (blo w.heap.size) W nw cw d.w) (hbi:Sl (tInt .i32) w (blo w.heap.size) B nb cb d.bias) (ha:Sl (tInt .i8) w (blo w.heap.size) A n cap a.data) (hbs:Sl (tInt .i8) w (blo w.heap.size) A' n' cap' b.data) (mw:nw≤2000∧nb≤200) :
  Calls Tryz.prog 9 #[.agg #[.int .i64 d.kind,.int .i64 d.a,.int .i64 d.b,.int .i64 d.k,.int .i64 d.s,.int .i64 d.p,.int .i64 d.out,.int .i8 d.za,.int .i8 d.zb,.slice W nw cw,.slice B nb cb,.int .i32 d.qm,.int .i64 d.qs,.int .i8 d.qz,.int .i32 d.rm,.int .i64 d.rs,.int .i8 d.rz,.int .i8 d.lo,.int .i8 d.hi],.agg #[.int .i64 a.h,.int .i64 a.v,.int .i64 a.c,.slice A n cap],.agg #[.int .i64 b.h,.int .i64 b.v,.int .i64 b.c,.slice A' n' cap']] w (RetO .i8 (nodeQ d a b).1 (nodeQ d a b).2 w):=by
 have HW:=zH hw
 have HB:=zH hbi
 have HA:=zH ha
 have HB2:=zH hbs
 have CK:=zH (fun w hw hb=>rcheck_any d W nw cw B nb cb w hw hb (by omega) (by omega))
 have c1':decide (0 < elems a.h a.v a.c∧elems a.h a.v a.c=n)=a.ok:=by unfold Tensor.ok;rw [HA.out.n_eq]
 have RA:=zH (fun w=>rtensorRight_any a.h a.v a.c A n cap w ht.h ht.v ht.c (Nat.le_trans ha.cap_le ha.max_le))
 rw [c1'] at RA
 have en:a.data.length=n:=ha.n_eq
 have NQ:=zH (show nodeQ d a b=if ¬ checkV d=0 then (noTensor,checkV d) else if a.ok=false then (noTensor,5) else if d.kind=4 then poolQ maxU a d else if d.kind=5 then poolQ meanV a d else if d.kind=6 then joinQ a b d else if d.kind=7 then actQ a d else if d.kind=8 then padO a d.p d.za else if d.kind=9 then (⟨1,1,n,a.data⟩,0) else sumQ a d by unfold nodeQ;rw [en])
 obtain ⟨x,hx⟩:∃ x,nodeQ d a b=x:=⟨_,rfl⟩
 rw [hx] at NQ ⊢
 have FR:=zH (Far.refl w)
 obtain ⟨w1,hw_w1,BN,k_w1⟩:=nB w #[.int .i64 d.kind,.int .i64 d.a,.int .i64 d.b,.int .i64 d.k,.int .i64 d.s,.int .i64 d.p,.int .i64 d.out,.int .i8 d.za,.int .i8 d.zb,.slice W nw cw,.slice B nb cb,.int .i32 d.qm,.int .i64 d.qs,.int .i8 d.qz,.int .i32 d.rm,.int .i64 d.rs,.int .i8 d.rz,.int .i8 d.lo,.int .i8 d.hi] 28
 replace FR:=zH (FR.out.fut k_w1)
 clear k_w1
 obtain ⟨w2,hw_w2,BA,k_w2⟩:=nB w1 #[.int .i64 a.h,.int .i64 a.v,.int .i64 a.c,.slice A n cap] 32
 replace FR:=zH (FR.out.fut k_w2)
 replace BN:=zH (BN.out.fut k_w2)
 clear k_w2
 obtain ⟨w3,hw_w3,BB,k_w3⟩:=nB w2 #[.int .i64 b.h,.int .i64 b.v,.int .i64 b.c,.slice A' n' cap'] 32
 replace FR:=zH (FR.out.fut k_w3)
 replace BN:=zH (BN.out.fut k_w3)
 replace BA:=zH (BA.out.fut k_w3)
 clear k_w3
 obtain ⟨w4,hw_w4,BR,k_w4⟩:=nB w3 #[.int .i64 0,.int .i64 0,.int .i64 0,.slice none 0 0] 32
 replace FR:=zH (FR.out.fut k_w4)
 replace BN:=zH (BN.out.fut k_w4)
 replace BA:=zH (BA.out.fut k_w4)
 replace BB:=zH (BB.out.fut k_w4)
 clear k_w4
 have l1:w.heap.size < w1.heap.size:=by rw [← hw_w1];simp
 have l2:w1.heap.size < w2.heap.size:=by rw [← hw_w2];simp
 have l3:w2.heap.size < w3.heap.size:=by rw [← hw_w3];simp
 have l4:w3.heap.size < w4.heap.size:=by rw [← hw_w4];simp
 have HM:=zH (And.intro ht (And.intro hu (And.intro hd mw)))
 have mxa:n≤9223372036854775807:=Nat.le_trans ha.cap_le ha.max_le
 have hok0:=zH (show a.ok=true → a.ok=true from id)
 clear c1' en hx ht hu hd hw hbi ha hbs mw
 obtain ⟨ck,hck⟩:∃ k,checkV d=k:=⟨_,rfl⟩
 rw [hck] at CK NQ
 clear hck
 by_cases q1:¬ ck=0
 ·rw [if_pos q1] at NQ
  rw [NQ.out]
  have hk2:(ck != 0)=true:=by rw [bne_iff_ne];exact q1
  clear q1 NQ
  go_enter Tryz.func9,Tryz.ntmps9
  go_wp2_with (first|(refine lB 28 (.tmp 3) w.heap.size BN.out Tryz.underlying28 ?_)|(go_at_call 25;refine (CK.out _ ((Old.now HW.out).fut FR.out.out).all ((Old.now HB.out).fut FR.out.out).all).mono ?_;rintro e w5 ⟨rfl,hb⟩;have l5:=hb.size;replace FR:=zH (FR.out.fut hb);replace BN:=zH (BN.out.fut hb);replace BA:=zH (BA.out.fut hb);replace BB:=zH (BB.out.fut hb);replace BR:=zH (BR.out.fut hb);clear hb hw_w1 hw_w2 hw_w3 hw_w4)|(refine sB 32 (.tmp 6) (.tmp 16) w3.heap.size #[.int .i64 0,.int .i64 0,.int .i64 0,.slice none 0 0] BR.out ?_;intro w9 B9 g9))
  refine ret_cell_tmp rfl B9 rfl Tryz.underlying32 (by kernel_rfl) rfl ?_
  exact RetO.none (FR.out.away g9 (by omega)).out
 rw [if_neg q1] at NQ
 rw [Decidable.not_not] at q1
 subst q1
 by_cases q2:a.ok=false
 ·rw [if_pos q2] at NQ
  rw [q2] at RA
  rw [NQ.out]
  clear q2 NQ
  go_enter Tryz.func9,Tryz.ntmps9
  go_wp2_with (first|(refine lB 28 (.tmp 3) w.heap.size BN.out Tryz.underlying28 ?_)|(go_at_call 25;refine (CK.out _ ((Old.now HW.out).fut FR.out.out).all ((Old.now HB.out).fut FR.out.out).all).mono ?_;rintro e w5 ⟨rfl,hb⟩;have l5:=hb.size;replace FR:=zH (FR.out.fut hb);replace BN:=zH (BN.out.fut hb);replace BA:=zH (BA.out.fut hb);replace BB:=zH (BB.out.fut hb);replace BR:=zH (BR.out.fut hb);clear hb hw_w1 hw_w2 hw_w3 hw_w4)|(refine lB 32 (.tmp 4) w1.heap.size BA.out Tryz.underlying32 ?_)|(go_at_call 15;refine (RA.out _).mono ?_;rintro e w6 ⟨rfl,hb⟩;have l6:=hb.size;replace FR:=zH (FR.out.fut hb);replace BN:=zH (BN.out.fut hb);replace BA:=zH (BA.out.fut hb);replace BB:=zH (BB.out.fut hb);replace BR:=zH (BR.out.fut hb);clear hb)|(refine sB 32 (.tmp 6) (.tmp 21) w3.heap.size #[.int .i64 0,.int .i64 0,.int .i64 0,.slice none 0 0] BR.out ?_;intro w9 B9 g9))
  refine ret_cell_tmp rfl B9 rfl Tryz.underlying32 (by kernel_rfl) rfl ?_
  exact RetO.none (FR.out.away g9 (by omega)).out
 rw [if_neg q2] at NQ
 rw [Bool.not_eq_false] at q2
 rw [q2] at RA
 have C1:=zH q2
 by_cases k4:d.kind=4
 ·rw [if_pos k4] at NQ
  have S:=zH (show ∀ w,Sl (tInt .i8) w (blo w.heap.size) A n cap a.data → Calls Tryz.prog 26 #[.agg #[.int .i64 a.h,.int .i64 a.v,.int .i64 a.c,.slice A n cap],.agg #[.int .i64 d.kind,.int .i64 d.a,.int .i64 d.b,.int .i64 d.k,.int .i64 d.s,.int .i64 d.p,.int .i64 d.out,.int .i8 d.za,.int .i8 d.zb,.slice W nw cw,.slice B nb cb,.int .i32 d.qm,.int .i64 d.qs,.int .i8 d.qz,.int .i32 d.rm,.int .i64 d.rs,.int .i8 d.rz,.int .i8 d.lo,.int .i8 d.hi],.bool true] w (RetT .i8 (poolQ maxU a d).1 (poolQ maxU a d).2 w) from fun w ha=>by have q:=rpool_any true a A n cap d W nw cw B nb cb w ha C1.out;rw [poolU_true] at q;exact q)
  rw [← NQ.out] at S
  have KE:=zH k4
  clear k4  NQ q2
  go_enter Tryz.func9,Tryz.ntmps9
  go_wp2_with (first|(refine lB 28 (.tmp 3) w.heap.size BN.out Tryz.underlying28 ?_)|(go_at_call 25;refine (CK.out _ ((Old.now HW.out).fut FR.out.out).all ((Old.now HB.out).fut FR.out.out).all).mono ?_;rintro e w5 ⟨rfl,hb⟩;have l5:=hb.size;replace FR:=zH (FR.out.fut hb);replace BN:=zH (BN.out.fut hb);replace BA:=zH (BA.out.fut hb);replace BB:=zH (BB.out.fut hb);replace BR:=zH (BR.out.fut hb);clear hb hw_w1 hw_w2 hw_w3 hw_w4)|(refine lB 32 (.tmp 4) w1.heap.size BA.out Tryz.underlying32 ?_)|(go_at_call 15;refine (RA.out _).mono ?_;rintro e w6 ⟨rfl,hb⟩;have l6:=hb.size;replace FR:=zH (FR.out.fut hb);replace BN:=zH (BN.out.fut hb);replace BA:=zH (BA.out.fut hb);replace BB:=zH (BB.out.fut hb);replace BR:=zH (BR.out.fut hb);clear hb;have c0:=BN.out.cell 0;simp only [gX] at c0;rw [KE.out] at c0))
  refine (S.out _ ((Old.now HA.out).fut FR.out.out).all).mono ?_
  rintro e wm ⟨RA,rn,rc,rfl,rs,hb⟩
  have RS:=zH (show New w6 (tInt .i8) wm RA rn rc x.1.data from ⟨rs⟩)
  have lbr:=BR.out.lt
  have lfr:=FR.out.size
  replace BR:=zH (BR.out.fut hb)
  replace FR:=zH (FR.out.fut hb)
  clear hb rs c0
  go_wp2_with (refine sB 32 (.tmp 6) (.tmp 29) w3.heap.size #[.int .i64 x.1.h,.int .i64 x.1.v,.int .i64 x.1.c,.slice RA rn rc] BR.out ?_;intro w9 B9 g9)
  refine ret_cell_tmp rfl B9 rfl Tryz.underlying32 (by kernel_rfl) rfl ?_
  exact ⟨RA,rn,rc,rfl,(RS.out.away g9 lbr).old,(FR.out.away g9 (by omega)).out⟩
 rw [if_neg k4] at NQ
 have t4:(d.kind == 4)=false:=by simpa using k4
 by_cases k5:d.kind=5
 ·rw [if_pos k5] at NQ
  have S:=zH (show ∀ w,Sl (tInt .i8) w (blo w.heap.size) A n cap a.data → Calls Tryz.prog 26 #[.agg #[.int .i64 a.h,.int .i64 a.v,.int .i64 a.c,.slice A n cap],.agg #[.int .i64 d.kind,.int .i64 d.a,.int .i64 d.b,.int .i64 d.k,.int .i64 d.s,.int .i64 d.p,.int .i64 d.out,.int .i8 d.za,.int .i8 d.zb,.slice W nw cw,.slice B nb cb,.int .i32 d.qm,.int .i64 d.qs,.int .i8 d.qz,.int .i32 d.rm,.int .i64 d.rs,.int .i8 d.rz,.int .i8 d.lo,.int .i8 d.hi],.bool false] w (RetT .i8 (poolQ meanV a d).1 (poolQ meanV a d).2 w) from fun w ha=>by have q:=rpool_any false a A n cap d W nw cw B nb cb w ha C1.out;rw [poolU_false] at q;exact q)
  rw [← NQ.out] at S
  have KE:=zH k5
  clear k5  k4 t4 NQ q2
  go_enter Tryz.func9,Tryz.ntmps9
  go_wp2_with (first|(refine lB 28 (.tmp 3) w.heap.size BN.out Tryz.underlying28 ?_)|(go_at_call 25;refine (CK.out _ ((Old.now HW.out).fut FR.out.out).all ((Old.now HB.out).fut FR.out.out).all).mono ?_;rintro e w5 ⟨rfl,hb⟩;have l5:=hb.size;replace FR:=zH (FR.out.fut hb);replace BN:=zH (BN.out.fut hb);replace BA:=zH (BA.out.fut hb);replace BB:=zH (BB.out.fut hb);replace BR:=zH (BR.out.fut hb);clear hb hw_w1 hw_w2 hw_w3 hw_w4)|(refine lB 32 (.tmp 4) w1.heap.size BA.out Tryz.underlying32 ?_)|(go_at_call 15;refine (RA.out _).mono ?_;rintro e w6 ⟨rfl,hb⟩;have l6:=hb.size;replace FR:=zH (FR.out.fut hb);replace BN:=zH (BN.out.fut hb);replace BA:=zH (BA.out.fut hb);replace BB:=zH (BB.out.fut hb);replace BR:=zH (BR.out.fut hb);clear hb;have c0:=BN.out.cell 0;simp only [gX] at c0;rw [KE.out] at c0))
  refine (S.out _ ((Old.now HA.out).fut FR.out.out).all).mono ?_
  rintro e wm ⟨RA,rn,rc,rfl,rs,hb⟩
  have RS:=zH (show New w6 (tInt .i8) wm RA rn rc x.1.data from ⟨rs⟩)
  have lbr:=BR.out.lt
  have lfr:=FR.out.size
  replace BR:=zH (BR.out.fut hb)
  replace FR:=zH (FR.out.fut hb)
  clear hb rs c0
  go_wp2_with (refine sB 32 (.tmp 6) (.tmp 36) w3.heap.size #[.int .i64 x.1.h,.int .i64 x.1.v,.int .i64 x.1.c,.slice RA rn rc] BR.out ?_;intro w9 B9 g9)
  refine ret_cell_tmp rfl B9 rfl Tryz.underlying32 (by kernel_rfl) rfl ?_
  exact ⟨RA,rn,rc,rfl,(RS.out.away g9 lbr).old,(FR.out.away g9 (by omega)).out⟩
 rw [if_neg k5] at NQ
 have t5:(d.kind == 5)=false:=by simpa using k5
 by_cases k6:d.kind=6
 ·rw [if_pos k6] at NQ
  have S:=zH (fun w ha hbs=>rjoinOf_any a b A A' n cap n' cap' d W nw cw B nb cb w HM.out.1 HM.out.2.1 HM.out.2.2.1 ha hbs C1.out)
  rw [← NQ.out] at S
  have KE:=zH k6
  clear k6  k4 t4 k5 t5 NQ q2
  go_enter Tryz.func9,Tryz.ntmps9
  go_wp2_with (first|(refine lB 28 (.tmp 3) w.heap.size BN.out Tryz.underlying28 ?_)|(go_at_call 25;refine (CK.out _ ((Old.now HW.out).fut FR.out.out).all ((Old.now HB.out).fut FR.out.out).all).mono ?_;rintro e w5 ⟨rfl,hb⟩;have l5:=hb.size;replace FR:=zH (FR.out.fut hb);replace BN:=zH (BN.out.fut hb);replace BA:=zH (BA.out.fut hb);replace BB:=zH (BB.out.fut hb);replace BR:=zH (BR.out.fut hb);clear hb hw_w1 hw_w2 hw_w3 hw_w4)|(refine lB 32 (.tmp 4) w1.heap.size BA.out Tryz.underlying32 ?_)|(go_at_call 15;refine (RA.out _).mono ?_;rintro e w6 ⟨rfl,hb⟩;have l6:=hb.size;replace FR:=zH (FR.out.fut hb);replace BN:=zH (BN.out.fut hb);replace BA:=zH (BA.out.fut hb);replace BB:=zH (BB.out.fut hb);replace BR:=zH (BR.out.fut hb);clear hb;have c0:=BN.out.cell 0;simp only [gX] at c0;rw [KE.out] at c0)|(refine lB 32 (.tmp 5) w2.heap.size BB.out Tryz.underlying32 ?_))
  refine (S.out _ ((Old.now HA.out).fut FR.out.out).all ((Old.now HB2.out).fut FR.out.out).all).mono ?_
  rintro e wm ⟨RA,rn,rc,rfl,rs,hb⟩
  have RS:=zH (show New w6 (tInt .i8) wm RA rn rc x.1.data from ⟨rs⟩)
  have lbr:=BR.out.lt
  have lfr:=FR.out.size
  replace BR:=zH (BR.out.fut hb)
  replace FR:=zH (FR.out.fut hb)
  clear hb rs c0
  go_wp2_with (refine sB 32 (.tmp 6) (.tmp 44) w3.heap.size #[.int .i64 x.1.h,.int .i64 x.1.v,.int .i64 x.1.c,.slice RA rn rc] BR.out ?_;intro w9 B9 g9)
  refine ret_cell_tmp rfl B9 rfl Tryz.underlying32 (by kernel_rfl) rfl ?_
  exact ⟨RA,rn,rc,rfl,(RS.out.away g9 lbr).old,(FR.out.away g9 (by omega)).out⟩
 rw [if_neg k6] at NQ
 have t6:(d.kind == 6)=false:=by simpa using k6
 by_cases k7:d.kind=7
 ·rw [if_pos k7] at NQ
  have S:=zH (fun w ha=>ractOf_any a A n cap d W nw cw B nb cb w HM.out.1 HM.out.2.2.1 ha C1.out)
  rw [← NQ.out] at S
  have KE:=zH k7
  clear k7  k4 t4 k5 t5 k6 t6 NQ q2
  go_enter Tryz.func9,Tryz.ntmps9
  go_wp2_with (first|(refine lB 28 (.tmp 3) w.heap.size BN.out Tryz.underlying28 ?_)|(go_at_call 25;refine (CK.out _ ((Old.now HW.out).fut FR.out.out).all ((Old.now HB.out).fut FR.out.out).all).mono ?_;rintro e w5 ⟨rfl,hb⟩;have l5:=hb.size;replace FR:=zH (FR.out.fut hb);replace BN:=zH (BN.out.fut hb);replace BA:=zH (BA.out.fut hb);replace BB:=zH (BB.out.fut hb);replace BR:=zH (BR.out.fut hb);clear hb hw_w1 hw_w2 hw_w3 hw_w4)|(refine lB 32 (.tmp 4) w1.heap.size BA.out Tryz.underlying32 ?_)|(go_at_call 15;refine (RA.out _).mono ?_;rintro e w6 ⟨rfl,hb⟩;have l6:=hb.size;replace FR:=zH (FR.out.fut hb);replace BN:=zH (BN.out.fut hb);replace BA:=zH (BA.out.fut hb);replace BB:=zH (BB.out.fut hb);replace BR:=zH (BR.out.fut hb);clear hb;have c0:=BN.out.cell 0;simp only [gX] at c0;rw [KE.out] at c0))
  refine (S.out _ ((Old.now HA.out).fut FR.out.out).all).mono ?_
  rintro e wm ⟨RA,rn,rc,rfl,rs,hb⟩
  have RS:=zH (show New w6 (tInt .i8) wm RA rn rc x.1.data from ⟨rs⟩)
  have lbr:=BR.out.lt
  have lfr:=FR.out.size
  replace BR:=zH (BR.out.fut hb)
  replace FR:=zH (FR.out.fut hb)
  clear hb rs c0
  go_wp2_with (refine sB 32 (.tmp 6) (.tmp 51) w3.heap.size #[.int .i64 x.1.h,.int .i64 x.1.v,.int .i64 x.1.c,.slice RA rn rc] BR.out ?_;intro w9 B9 g9)
  refine ret_cell_tmp rfl B9 rfl Tryz.underlying32 (by kernel_rfl) rfl ?_
  exact ⟨RA,rn,rc,rfl,(RS.out.away g9 lbr).old,(FR.out.away g9 (by omega)).out⟩
 rw [if_neg k7] at NQ
 have t7:(d.kind == 7)=false:=by simpa using k7
 by_cases k8:d.kind=8
 ·rw [if_pos k8] at NQ
  have KE:=zH k8
  have MA:=zH (fun w ha=>rpadMay_any a A n cap d.p w HM.out.1 ha C1.out)
  unfold padO at NQ
  by_cases hp:d.p < 0 ∨ 4 < d.p
  ·rw [if_pos hp] at MA NQ
   rw [NQ.out]
   clear k8  k4 t4 k5 t5 k6 t6 k7 t7 NQ q2 hp
   go_enter Tryz.func9,Tryz.ntmps9
   go_wp2_with (first|(refine lB 28 (.tmp 3) w.heap.size BN.out Tryz.underlying28 ?_)|(go_at_call 25;refine (CK.out _ ((Old.now HW.out).fut FR.out.out).all ((Old.now HB.out).fut FR.out.out).all).mono ?_;rintro e w5 ⟨rfl,hb⟩;have l5:=hb.size;replace FR:=zH (FR.out.fut hb);replace BN:=zH (BN.out.fut hb);replace BA:=zH (BA.out.fut hb);replace BB:=zH (BB.out.fut hb);replace BR:=zH (BR.out.fut hb);clear hb hw_w1 hw_w2 hw_w3 hw_w4)|(refine lB 32 (.tmp 4) w1.heap.size BA.out Tryz.underlying32 ?_)|(go_at_call 15;refine (RA.out _).mono ?_;rintro e w6 ⟨rfl,hb⟩;have l6:=hb.size;replace FR:=zH (FR.out.fut hb);replace BN:=zH (BN.out.fut hb);replace BA:=zH (BA.out.fut hb);replace BB:=zH (BB.out.fut hb);replace BR:=zH (BR.out.fut hb);clear hb;have c0:=BN.out.cell 0;simp only [gX] at c0;rw [KE.out] at c0;have c5:=BN.out.cell 5;have c7:=BN.out.cell 7;simp only [gX] at c5 c7)|(go_at_call 29;refine (MA.out _ ((Old.now HA.out).fut FR.out.out).all).mono ?_;rintro e w7 ⟨rfl,hb⟩;have l7:=hb.size;replace FR:=zH (FR.out.fut hb);replace BN:=zH (BN.out.fut hb);replace BA:=zH (BA.out.fut hb);replace BB:=zH (BB.out.fut hb);replace BR:=zH (BR.out.fut hb);clear hb c0 c5 c7;have c5:=BN.out.cell 5;have c7:=BN.out.cell 7;simp only [gX] at c5 c7)|(refine sB 32 (.tmp 6) (.tmp 61) w3.heap.size #[.int .i64 0,.int .i64 0,.int .i64 0,.slice none 0 0] BR.out ?_;intro w9 B9 g9))
   refine ret_cell_tmp rfl B9 rfl Tryz.underlying32 (by kernel_rfl) rfl ?_
   exact RetO.none (FR.out.away g9 (by omega)).out
  ·rw [if_neg hp] at MA NQ
   obtain ⟨H,V,C,TK⟩:=tok_of C1.out
   have en:a.data.length=n:=HA.out.n_eq
   rw [en] at TK
   have hpn:(d.p.toNat:Int)=d.p:=by omega
   have S:=zH (fun w ha=>rresize_any a H V C d.p.toNat A n cap d.za w ha TK (by omega) HM.out.2.2.1.za)
   rw [← TK.h,← TK.v,← TK.c,hpn,← NQ.out] at S
   clear k8  k4 t4 k5 t5 k6 t6 k7 t7 NQ q2 hp TK hpn en
   go_enter Tryz.func9,Tryz.ntmps9
   go_wp2_with (first|(refine lB 28 (.tmp 3) w.heap.size BN.out Tryz.underlying28 ?_)|(go_at_call 25;refine (CK.out _ ((Old.now HW.out).fut FR.out.out).all ((Old.now HB.out).fut FR.out.out).all).mono ?_;rintro e w5 ⟨rfl,hb⟩;have l5:=hb.size;replace FR:=zH (FR.out.fut hb);replace BN:=zH (BN.out.fut hb);replace BA:=zH (BA.out.fut hb);replace BB:=zH (BB.out.fut hb);replace BR:=zH (BR.out.fut hb);clear hb hw_w1 hw_w2 hw_w3 hw_w4)|(refine lB 32 (.tmp 4) w1.heap.size BA.out Tryz.underlying32 ?_)|(go_at_call 15;refine (RA.out _).mono ?_;rintro e w6 ⟨rfl,hb⟩;have l6:=hb.size;replace FR:=zH (FR.out.fut hb);replace BN:=zH (BN.out.fut hb);replace BA:=zH (BA.out.fut hb);replace BB:=zH (BB.out.fut hb);replace BR:=zH (BR.out.fut hb);clear hb;have c0:=BN.out.cell 0;simp only [gX] at c0;rw [KE.out] at c0;have c5:=BN.out.cell 5;have c7:=BN.out.cell 7;simp only [gX] at c5 c7)|(go_at_call 29;refine (MA.out _ ((Old.now HA.out).fut FR.out.out).all).mono ?_;rintro e w7 ⟨rfl,hb⟩;have l7:=hb.size;replace FR:=zH (FR.out.fut hb);replace BN:=zH (BN.out.fut hb);replace BA:=zH (BA.out.fut hb);replace BB:=zH (BB.out.fut hb);replace BR:=zH (BR.out.fut hb);clear hb c0 c5 c7;have c5:=BN.out.cell 5;have c7:=BN.out.cell 7;simp only [gX] at c5 c7))
   refine (S.out _ ((Old.now HA.out).fut FR.out.out).all).mono ?_
   rintro e wm ⟨RA,rn,rc,rfl,rs,hb⟩
   have RS:=zH (show New w7 (tInt .i8) wm RA rn rc x.1.data from ⟨rs⟩)
   have lbr:=BR.out.lt
   have lfr:=FR.out.size
   replace BR:=zH (BR.out.fut hb)
   replace FR:=zH (FR.out.fut hb)
   clear hb rs c5 c7
   go_wp2_with (refine sB 32 (.tmp 6) (.tmp 69) w3.heap.size #[.int .i64 x.1.h,.int .i64 x.1.v,.int .i64 x.1.c,.slice RA rn rc] BR.out ?_;intro w9 B9 g9)
   refine ret_cell_tmp rfl B9 rfl Tryz.underlying32 (by kernel_rfl) rfl ?_
   exact ⟨RA,rn,rc,rfl,(RS.out.away g9 lbr).old,(FR.out.away g9 (by omega)).out⟩
 rw [if_neg k8] at NQ
 have t8:(d.kind == 8)=false:=by simpa using k8
 by_cases k9:d.kind=9
 ·rw [if_pos k9] at NQ
  have KE:=zH k9
  rw [NQ.out]
  clear k9  k4 t4 k5 t5 k6 t6 k7 t7 k8 t8 NQ q2
  go_enter Tryz.func9,Tryz.ntmps9
  go_wp2_with (first|(refine lB 28 (.tmp 3) w.heap.size BN.out Tryz.underlying28 ?_)|(go_at_call 25;refine (CK.out _ ((Old.now HW.out).fut FR.out.out).all ((Old.now HB.out).fut FR.out.out).all).mono ?_;rintro e w5 ⟨rfl,hb⟩;have l5:=hb.size;replace FR:=zH (FR.out.fut hb);replace BN:=zH (BN.out.fut hb);replace BA:=zH (BA.out.fut hb);replace BB:=zH (BB.out.fut hb);replace BR:=zH (BR.out.fut hb);clear hb hw_w1 hw_w2 hw_w3 hw_w4)|(refine lB 32 (.tmp 4) w1.heap.size BA.out Tryz.underlying32 ?_)|(go_at_call 15;refine (RA.out _).mono ?_;rintro e w6 ⟨rfl,hb⟩;have l6:=hb.size;replace FR:=zH (FR.out.fut hb);replace BN:=zH (BN.out.fut hb);replace BA:=zH (BA.out.fut hb);replace BB:=zH (BB.out.fut hb);replace BR:=zH (BR.out.fut hb);clear hb;have c0:=BN.out.cell 0;simp only [gX] at c0;rw [KE.out] at c0;have a3:=BA.out.cell 3;simp only [gX] at a3)|(refine sB 32 (.tmp 6) (.tmp 79) w3.heap.size #[.int .i64 1,.int .i64 1,.int .i64 n,.slice A n cap] BR.out ?_;intro w9 B9 g9))
  refine ret_cell_tmp rfl B9 rfl Tryz.underlying32 (by kernel_rfl) rfl ?_
  have FE:=FR.out.away g9 (by omega)
  exact ⟨A,n,cap,rfl,((Old.now HA.out).fut FE.out).all,FE.out⟩
 rw [if_neg k9] at NQ
 have t9:(d.kind == 9)=false:=by simpa using k9
 have SM:=zH (fun w ha hw hb=>rrunSum_any a A n cap d W nw cw B nb cb w HM.out.1 HM.out.2.2.1 ha hw hb HM.out.2.2.2)
 have SN:=zH (sum_nat a d)
 unfold sumQ at NQ
 obtain ⟨⟨y,k⟩,hy⟩:∃ q,sumOf a d=q:=⟨_,rfl⟩
 rw [hy] at SM SN NQ
 have HX:=zH (show (if k=0 then putQ y d else (noTensor,k))=x from NQ.out.symm)
 clear k4 k5 k6 k7 k8 k9 NQ q2 hy
 go_enter Tryz.func9,Tryz.ntmps9
 go_wp2_with (first|(refine lB 28 (.tmp 3) w.heap.size BN.out Tryz.underlying28 ?_)|(go_at_call 25;refine (CK.out _ ((Old.now HW.out).fut FR.out.out).all ((Old.now HB.out).fut FR.out.out).all).mono ?_;rintro e w5 ⟨rfl,hb⟩;have l5:=hb.size;replace FR:=zH (FR.out.fut hb);replace BN:=zH (BN.out.fut hb);replace BA:=zH (BA.out.fut hb);replace BB:=zH (BB.out.fut hb);replace BR:=zH (BR.out.fut hb);clear hb hw_w1 hw_w2 hw_w3 hw_w4)|(refine lB 32 (.tmp 4) w1.heap.size BA.out Tryz.underlying32 ?_)|(go_at_call 15;refine (RA.out _).mono ?_;rintro e w6 ⟨rfl,hb⟩;have l6:=hb.size;replace FR:=zH (FR.out.fut hb);replace BN:=zH (BN.out.fut hb);replace BA:=zH (BA.out.fut hb);replace BB:=zH (BB.out.fut hb);replace BR:=zH (BR.out.fut hb);clear hb;have c0:=BN.out.cell 0;simp only [gX] at c0))
 refine (SM.out _ ((Old.now HA.out).fut FR.out.out).all ((Old.now HW.out).fut FR.out.out).all ((Old.now HB.out).fut FR.out.out).all).mono ?_
 rintro e w7 ⟨RA,rn,rc,rfl,rs,hb⟩
 have RS:=zH (show New w6 (tInt .i32) w7 RA rn rc y.data from ⟨rs⟩)
 have ern:=rs.n_eq
 have l7:=hb.size
 clear rs c0
 replace FR:=zH (FR.out.fut hb)
 replace BN:=zH (BN.out.fut hb)
 replace BA:=zH (BA.out.fut hb)
 replace BR:=zH (BR.out.fut hb)
 clear hb
 obtain ⟨w8,hw_w8,BX,k_w8⟩:=nB w7 #[.int .i64 y.h,.int .i64 y.v,.int .i64 y.c,.slice RA rn rc] 41
 replace FR:=zH (FR.out.fut k_w8)
 replace BN:=zH (BN.out.fut k_w8)
 replace BA:=zH (BA.out.fut k_w8)
 replace BR:=zH (BR.out.fut k_w8)
 replace RS:=zH (RS.out.fut k_w8)
 clear k_w8
 have l8:w7.heap.size < w8.heap.size:=by rw [← hw_w8];simp
 by_cases k0:k=0
 ·subst k0
  have hx:=HX.out
  rw [if_pos rfl] at hx
  obtain ⟨e1,e2,e3,e4⟩:=SN.out rfl
  simp only [ern] at e1 e2 e3
  have AP:=zH (fun w ha=>ractPut_any y RA rn rc d W nw cw B nb cb w e4 HM.out.2.2.1 ha e1 e2 e3)
  rw [hx] at AP
  clear e1 e2 e3 e4 hx SN ern
  go_wp2_with (first|(refine lB 41 (.tmp 10) w7.heap.size BX.out Tryz.underlying41 ?_)|(refine lB 28 (.tmp 3) w.heap.size BN.out Tryz.underlying28 ?_))
  refine (AP.out _ RS.out.old).mono ?_
  rintro e wm ⟨RA,rn,rc,rfl,rs,hb⟩
  have RS:=zH (show New w8 (tInt .i8) wm RA rn rc x.1.data from ⟨rs⟩)
  have lbr:=BR.out.lt
  replace BR:=zH (BR.out.fut hb)
  replace FR:=zH (FR.out.fut hb)
  clear hb rs hw_w8
  go_wp2_with (refine sB 32 (.tmp 6) (.tmp 93) w3.heap.size #[.int .i64 x.1.h,.int .i64 x.1.v,.int .i64 x.1.c,.slice RA rn rc] BR.out ?_;intro w9 B9 g9)
  refine ret_cell_tmp rfl B9 rfl Tryz.underlying32 (by kernel_rfl) rfl ?_
  exact ⟨RA,rn,rc,rfl,(RS.out.away g9 lbr).old,(FR.out.away g9 (by omega)).out⟩
 ·have hx:=HX.out
  rw [if_neg k0] at hx
  subst hx
  have hk2:(k != 0)=true:=by rw [bne_iff_ne];exact k0
  clear k0 SN ern
  go_wp2_with (refine sB 32 (.tmp 6) (.tmp 88) w3.heap.size #[.int .i64 0,.int .i64 0,.int .i64 0,.slice none 0 0] BR.out ?_;intro w9 B9 g9)
  refine ret_cell_tmp rfl B9 rfl Tryz.underlying32 (by kernel_rfl) rfl ?_
  exact RetO.none (FR.out.away g9 (by omega)).out
end Go.Proofs.YtlbkekabmpienaaGreat
namespace Go.Proofs.YtlbkekabmpienaaGreat
set_option linter.unusedVariables false
set_option linter.unusedSimpArgs false
open Go.RowKit Go.ChangeShapes Go.WideShapes
set_option maxRecDepth 100000
set_option maxHeartbeats 4000000
theorem runNodes_any (d:Node) (W:Option Addr) (nw cw:Nat) (B:Option Addr) (nb cb:Nat) (a b:Tensor) (A A':Option Addr) (n cap n' cap':Nat) (w:World) (ht:TensorIn a) (hu:TensorIn b) (hd:NodeIn d)
  (hw:Sl (tInt .i8) w (blo w.heap.size) W nw cw d.w) (hbi:Sl (tInt .i32) w (blo w.heap.size) B nb cb d.bias) (ha:Sl (tInt .i8) w (blo w.heap.size) A n cap a.data) (hbs:Sl (tInt .i8) w (blo w.heap.size) A' n' cap' b.data) :
  Calls Tryz.prog 3 #[.agg #[.int .i64 d.kind,.int .i64 d.a,.int .i64 d.b,.int .i64 d.k,.int .i64 d.s,.int .i64 d.p,.int .i64 d.out,.int .i8 d.za,.int .i8 d.zb,.slice W nw cw,.slice B nb cb,.int .i32 d.qm,.int .i64 d.qs,.int .i8 d.qz,.int .i32 d.rm,.int .i64 d.rs,.int .i8 d.rz,.int .i8 d.lo,.int .i8 d.hi],.agg #[.int .i64 a.h,.int .i64 a.v,.int .i64 a.c,.slice A n cap],.agg #[.int .i64 b.h,.int .i64 b.v,.int .i64 b.c,.slice A' n' cap']] w fun e w'=>e=.returned (.bool true)∧Below w.heap.size w w':=by
 have HW:=zH hw
 have HB:=zH hbi
 have HA:=zH ha
 have HB2:=zH hbs
 have HT:=zH (And.intro ht (And.intro hu hd))
 have FW:=zH (fun w=>few_any a A n cap d W nw cw B nb cb w (Nat.le_trans ha.cap_le ha.max_le) (Nat.le_trans hw.cap_le hw.max_le) (Nat.le_trans hbi.cap_le hbi.max_le))
 have KN:=zH (fun w=>known26_any w)
 have FR:=zH (Far.refl w)
 have mxb:n'≤9223372036854775807:=Nat.le_trans hbs.cap_le hbs.max_le
 have mxa:n≤9223372036854775807:=Nat.le_trans ha.cap_le ha.max_le
 obtain ⟨w1,hw_w1,BN,k_w1⟩:=nB w #[.int .i64 d.kind,.int .i64 d.a,.int .i64 d.b,.int .i64 d.k,.int .i64 d.s,.int .i64 d.p,.int .i64 d.out,.int .i8 d.za,.int .i8 d.zb,.slice W nw cw,.slice B nb cb,.int .i32 d.qm,.int .i64 d.qs,.int .i8 d.qz,.int .i32 d.rm,.int .i64 d.rs,.int .i8 d.rz,.int .i8 d.lo,.int .i8 d.hi] 28
 replace FR:=zH (FR.out.fut k_w1)
 clear k_w1
 obtain ⟨w2,hw_w2,BA,k_w2⟩:=nB w1 #[.int .i64 a.h,.int .i64 a.v,.int .i64 a.c,.slice A n cap] 32
 replace FR:=zH (FR.out.fut k_w2)
 replace BN:=zH (BN.out.fut k_w2)
 clear k_w2
 obtain ⟨w3,hw_w3,BB,k_w3⟩:=nB w2 #[.int .i64 b.h,.int .i64 b.v,.int .i64 b.c,.slice A' n' cap'] 32
 replace FR:=zH (FR.out.fut k_w3)
 replace BN:=zH (BN.out.fut k_w3)
 replace BA:=zH (BA.out.fut k_w3)
 clear k_w3
 clear ht hu hd hw hbi ha hbs
 by_cases cf:n≤1024∧nw≤2000∧nb≤200
 rotate_left
 ·rw [decide_eq_false cf] at FW
  clear cf
  go_enter Tryz.func3,Tryz.ntmps3
  go_wp2_with (first|(refine lB 32 (.tmp 4) w1.heap.size BA.out Tryz.underlying32 ?_)|(refine lB 28 (.tmp 3) w.heap.size BN.out Tryz.underlying28 ?_)|(go_at_call 6;refine (FW.out _).mono ?_;rintro e w4 ⟨rfl,hb⟩;replace FR:=zH (FR.out.fut hb);replace BN:=zH (BN.out.fut hb);replace BA:=zH (BA.out.fut hb);replace BB:=zH (BB.out.fut hb);clear hb hw_w1 hw_w2 hw_w3;have b3:=BB.out.cell 3;simp only [gX] at b3))
  refine (KN.out _).mono ?_
  rintro e w5 ⟨rfl,hb⟩
  have F5:=zH (FR.out.fut hb)
  clear hb
  go_wp2_with fail
  go_ret
  exact ⟨rfl,F5.out.out⟩
 rw [decide_eq_true cf] at FW
 by_cases cb':n'≤1024
 rotate_left
 ·have t1:(1024:Int) < (n':Int):=by omega
  clear cf cb'
  go_enter Tryz.func3,Tryz.ntmps3
  go_wp2_with (first|(refine lB 32 (.tmp 4) w1.heap.size BA.out Tryz.underlying32 ?_)|(refine lB 28 (.tmp 3) w.heap.size BN.out Tryz.underlying28 ?_)|(go_at_call 6;refine (FW.out _).mono ?_;rintro e w4 ⟨rfl,hb⟩;replace FR:=zH (FR.out.fut hb);replace BN:=zH (BN.out.fut hb);replace BA:=zH (BA.out.fut hb);replace BB:=zH (BB.out.fut hb);clear hb hw_w1 hw_w2 hw_w3;have b3:=BB.out.cell 3;simp only [gX] at b3))
  refine (KN.out _).mono ?_
  rintro e w5 ⟨rfl,hb⟩
  have F5:=zH (FR.out.fut hb)
  clear hb
  go_wp2_with fail
  go_ret
  exact ⟨rfl,F5.out.out⟩
 have t1:¬ (1024:Int) < (n':Int):=by omega
 have mw:nw≤2000∧nb≤200:=cf.2
 have N1:=zH (fun w hw hbi ha hbs=>runNode_any d W nw cw B nb cb a b A A' n cap n' cap' w HT.out.1 HT.out.2.1 HT.out.2.2 hw hbi ha hbs mw)
 have N2:=zH (fun w hw hbi ha hbs=>rrunNode_any d W nw cw B nb cb a b A A' n cap n' cap' w HT.out.1 HT.out.2.1 HT.out.2.2 hw hbi ha hbs mw)
 have N3:=zH (fun w ha hw hbi=>runSum_any a A n cap d W nw cw B nb cb w HT.out.1 HT.out.2.2 ha hw hbi mw)
 have N4:=zH (fun w ha hw hbi=>rrunSum_any a A n cap d W nw cw B nb cb w HT.out.1 HT.out.2.2 ha hw hbi mw)
 obtain ⟨⟨x,k⟩,hx⟩:∃ q,nodeQ d a b=q:=⟨_,rfl⟩
 obtain ⟨⟨y,j⟩,hy⟩:∃ q,sumOf a d=q:=⟨_,rfl⟩
 rw [hx] at N1 N2
 rw [hy] at N3 N4
 clear cf cb' mw hx hy
 go_enter Tryz.func3,Tryz.ntmps3
 go_wp2_with (first|(refine lB 32 (.tmp 4) w1.heap.size BA.out Tryz.underlying32 ?_)|(refine lB 28 (.tmp 3) w.heap.size BN.out Tryz.underlying28 ?_)|(refine lB 32 (.tmp 5) w2.heap.size BB.out Tryz.underlying32 ?_)|(go_at_call 6;refine (FW.out _).mono ?_;rintro e w4 ⟨rfl,hb⟩;replace FR:=zH (FR.out.fut hb);replace BN:=zH (BN.out.fut hb);replace BA:=zH (BA.out.fut hb);replace BB:=zH (BB.out.fut hb);clear hb hw_w1 hw_w2 hw_w3;have b3:=BB.out.cell 3;simp only [gX] at b3))
 clear b3
 refine (N1.out _ ((Old.now HW.out).fut FR.out.out).all ((Old.now HB.out).fut FR.out.out).all ((Old.now HA.out).fut FR.out.out).all ((Old.now HB2.out).fut FR.out.out).all).mono ?_
 rintro e w5 ⟨A1,n1,c1,rfl,s1,hb⟩
 have S1:=zH s1.old
 clear s1
 replace FR:=zH (FR.out.fut hb)
 replace BN:=zH (BN.out.fut hb)
 replace BA:=zH (BA.out.fut hb)
 replace BB:=zH (BB.out.fut hb)
 clear hb
 obtain ⟨w6,hw_w6,BX1,k_w6⟩:=nB w5 #[.int .i64 x.h,.int .i64 x.v,.int .i64 x.c,.slice A1 n1 c1] 32
 replace FR:=zH (FR.out.fut k_w6)
 replace BN:=zH (BN.out.fut k_w6)
 replace BA:=zH (BA.out.fut k_w6)
 replace BB:=zH (BB.out.fut k_w6)
 replace S1:=zH (S1.out.fut k_w6)
 clear k_w6
 go_wp2_with (first|(refine lB 32 (.tmp 4) w1.heap.size BA.out Tryz.underlying32 ?_)|(refine lB 28 (.tmp 3) w.heap.size BN.out Tryz.underlying28 ?_)|(refine lB 32 (.tmp 5) w2.heap.size BB.out Tryz.underlying32 ?_))
 refine (N2.out _ ((Old.now HW.out).fut FR.out.out).all ((Old.now HB.out).fut FR.out.out).all ((Old.now HA.out).fut FR.out.out).all ((Old.now HB2.out).fut FR.out.out).all).mono ?_
 rintro e w7 ⟨A2,n2,c2,rfl,s2,hb⟩
 have S2:=zH s2
 clear s2 hw_w6
 replace FR:=zH (FR.out.fut hb)
 replace BN:=zH (BN.out.fut hb)
 replace BA:=zH (BA.out.fut hb)
 replace BB:=zH (BB.out.fut hb)
 replace S1:=zH (S1.out.fut hb)
 replace BX1:=zH (BX1.out.fut hb)
 clear hb
 obtain ⟨w8,hw_w8,BX2,k_w8⟩:=nB w7 #[.int .i64 x.h,.int .i64 x.v,.int .i64 x.c,.slice A2 n2 c2] 32
 replace FR:=zH (FR.out.fut k_w8)
 replace BN:=zH (BN.out.fut k_w8)
 replace BA:=zH (BA.out.fut k_w8)
 replace BB:=zH (BB.out.fut k_w8)
 replace S1:=zH (S1.out.fut k_w8)
 replace S2:=zH (S2.out.fut k_w8)
 replace BX1:=zH (BX1.out.fut k_w8)
 clear k_w8
 go_wp2_with (first|(refine lB 32 (.tmp 4) w1.heap.size BA.out Tryz.underlying32 ?_)|(refine lB 28 (.tmp 3) w.heap.size BN.out Tryz.underlying28 ?_))
 refine (N3.out _ ((Old.now HA.out).fut FR.out.out).all ((Old.now HW.out).fut FR.out.out).all ((Old.now HB.out).fut FR.out.out).all).mono ?_
 rintro e w9 ⟨A3,n3,c3,rfl,s3,hb⟩
 have S3:=zH s3.old
 clear s3 hw_w8
 replace FR:=zH (FR.out.fut hb)
 replace BN:=zH (BN.out.fut hb)
 replace BA:=zH (BA.out.fut hb)
 replace BB:=zH (BB.out.fut hb)
 replace S1:=zH (S1.out.fut hb)
 replace S2:=zH (S2.out.fut hb)
 replace BX1:=zH (BX1.out.fut hb)
 replace BX2:=zH (BX2.out.fut hb)
 clear hb
 obtain ⟨w10,hw_w10,BX3,k_w10⟩:=nB w9 #[.int .i64 y.h,.int .i64 y.v,.int .i64 y.c,.slice A3 n3 c3] 41
 replace FR:=zH (FR.out.fut k_w10)
 replace BN:=zH (BN.out.fut k_w10)
 replace BA:=zH (BA.out.fut k_w10)
 replace BB:=zH (BB.out.fut k_w10)
 replace S1:=zH (S1.out.fut k_w10)
 replace S2:=zH (S2.out.fut k_w10)
 replace S3:=zH (S3.out.fut k_w10)
 replace BX1:=zH (BX1.out.fut k_w10)
 replace BX2:=zH (BX2.out.fut k_w10)
 clear k_w10
 go_wp2_with (first|(refine lB 32 (.tmp 4) w1.heap.size BA.out Tryz.underlying32 ?_)|(refine lB 28 (.tmp 3) w.heap.size BN.out Tryz.underlying28 ?_))
 refine (N4.out _ ((Old.now HA.out).fut FR.out.out).all ((Old.now HW.out).fut FR.out.out).all ((Old.now HB.out).fut FR.out.out).all).mono ?_
 rintro e w11 ⟨A4,n4,c4,rfl,s4,hb⟩
 have S4:=zH s4.old
 clear s4 hw_w10
 replace FR:=zH (FR.out.fut hb)
 replace BN:=zH (BN.out.fut hb)
 replace BA:=zH (BA.out.fut hb)
 replace BB:=zH (BB.out.fut hb)
 replace S1:=zH (S1.out.fut hb)
 replace S2:=zH (S2.out.fut hb)
 replace S3:=zH (S3.out.fut hb)
 replace BX1:=zH (BX1.out.fut hb)
 replace BX2:=zH (BX2.out.fut hb)
 replace BX3:=zH (BX3.out.fut hb)
 clear hb
 obtain ⟨w12,hw_w12,BX4,k_w12⟩:=nB w11 #[.int .i64 y.h,.int .i64 y.v,.int .i64 y.c,.slice A4 n4 c4] 41
 replace FR:=zH (FR.out.fut k_w12)
 replace BN:=zH (BN.out.fut k_w12)
 replace BA:=zH (BA.out.fut k_w12)
 replace BB:=zH (BB.out.fut k_w12)
 replace S1:=zH (S1.out.fut k_w12)
 replace S2:=zH (S2.out.fut k_w12)
 replace S3:=zH (S3.out.fut k_w12)
 replace S4:=zH (S4.out.fut k_w12)
 replace BX1:=zH (BX1.out.fut k_w12)
 replace BX2:=zH (BX2.out.fut k_w12)
 replace BX3:=zH (BX3.out.fut k_w12)
 clear k_w12
 go_wp2_with (first|(refine wpList_load_midw (by kernel_rfl) 32 (.tmp 7) rfl w5.heap.size 0 rfl _ _ (range_blk (vs:=[.int .i64 x.h,.int .i64 x.v,.int .i64 x.c,.slice A1 n1 c1]) BX1.out rfl) Tryz.underlying32 rfl (by kernel_rfl) ?_)|(refine wpList_load_midw (by kernel_rfl) 32 (.tmp 9) rfl w7.heap.size 0 rfl _ _ (range_blk (vs:=[.int .i64 x.h,.int .i64 x.v,.int .i64 x.c,.slice A2 n2 c2]) BX2.out rfl) Tryz.underlying32 rfl (by kernel_rfl) ?_)|(refine wpList_load_midw (by kernel_rfl) 41 (.tmp 11) rfl w9.heap.size 0 rfl _ _ (range_blk (vs:=[.int .i64 y.h,.int .i64 y.v,.int .i64 y.c,.slice A3 n3 c3]) BX3.out rfl) Tryz.underlying41 rfl (by kernel_rfl) ?_)|(refine wpList_load_midw (by kernel_rfl) 41 (.tmp 13) rfl w11.heap.size 0 rfl _ _ (range_blk (vs:=[.int .i64 y.h,.int .i64 y.v,.int .i64 y.c,.slice A4 n4 c4]) BX4.out rfl) Tryz.underlying41 rfl (by kernel_rfl) ?_)|(go_at_call 12;refine (same05_eq x A1 A2 n1 c1 n2 c2 _ S1.out S2.out).mono ?_;rintro e w13 ⟨rfl,hb⟩;replace FR:=zH (FR.out.fut hb);replace S3:=zH (S3.out.fut hb);replace S4:=zH (S4.out.fut hb);replace BX3:=zH (BX3.out.fut hb);replace BX4:=zH (BX4.out.fut hb);clear hb hw_w12)|(go_at_call 13;refine (sameAcc_any y A3 A4 n3 c3 n4 c4 _ S3.out S4.out).mono ?_;rintro e w14 ⟨rfl,hb⟩;replace FR:=zH (FR.out.fut hb);clear hb)|(go_at_call 7;refine (KN.out _).mono ?_;rintro e w15 ⟨rfl,hb⟩;replace FR:=zH (FR.out.fut hb);clear hb))
 go_ret
 exact ⟨rfl,FR.out.out⟩
theorem runNodes_walk (cs:Array Value) (d:Node) {w0:World} (hd:tNode.rep w0 (blo w0.heap.size) cs.toList d) (cs':Array Value) (a:Tensor) (ha:tTensor.rep w0 (blo w0.heap.size) cs'.toList a) (cs'':Array Value) (b:Tensor) (hb:tTensor.rep w0 (blo w0.heap.size) cs''.toList b) (w:World) (e:w0=w) :
  Calls Tryz.prog 3 #[.agg cs,.agg cs',.agg cs''] w fun e w'=>e=.returned (.bool true)∧Below w.heap.size w w':=by
 subst e
 obtain ⟨W,nw,cw,B,nb,cb,e2,k3,k4,k5⟩:=node_open hd
 obtain ⟨A,n,cap,e1,k1,k2⟩:=tensor_open ha
 obtain ⟨A',n',cap',e1',k1',k2'⟩:=tensor_open hb
 obtain ⟨cs⟩:=cs
 obtain ⟨cs'⟩:=cs'
 obtain ⟨cs''⟩:=cs''
 simp only at e1 e2 e1'
 subst e1 e2 e1'
 exact runNodes_any d W nw cw B nb cb a b A A' n cap n' cap' _ k1 k1' k3 k4 k5 k2 k2'
end Go.Proofs.YtlbkekabmpienaaGreat
namespace Go.Proofs.YtlbkekabmpienaaGreat
set_option linter.unusedVariables false
set_option linter.unusedSimpArgs false
open Go.RowKit Go.ChangeShapes Go.WideShapes Go.Deep Go.ChangeAt
set_option maxRecDepth 100000 in
theorem runNodes_lifted (os:Os) (started:os.Started) (H:Type) (enc:TypeId × Value → H) :
  ReturnsInHanded {} Tryz.checked os 3 .any (Rows.runNodesSpec.pre6 enc Tryz.prog Tryz.f3 Rows.runNodesRow.domain false) (Rows.runNodesSpec.post enc Tryz.prog Tryz.f3 false true false false):=by
 refine law_lift (C:=Tryz.checked) (T:=4) (by kernel_rfl) started (by kernel_rfl) Tryz.func3
  (ChangeSpec.witness6 (enc:=enc) (C:=Tryz.checked) false ⟨#[],#[.agg #[.int .i64 0,.int .i64 0,.int .i64 0,.int .i64 0,.int .i64 0,.int .i64 0,.int .i64 0,.int .i8 0,.int .i8 0,.slice none 0 0,.slice none 0 0,.int .i32 0,.int .i64 0,.int .i8 0,.int .i32 0,.int .i64 0,.int .i8 0,.int .i8 0,.int .i8 0],.agg #[.int .i64 0,.int .i64 0,.int .i64 0,.slice none 0 0],.agg #[.int .i64 0,.int .i64 0,.int .i64 0,.slice none 0 0]],[]⟩ 8 (by kernel_rfl) (by kernel_rfl) (by kernel_rfl) (by kernel_rfl))
  (by kernel_rfl) (by kernel_rfl) rfl Tryz.underlying4 rfl ?_ ?_
 ·intro ds hlen
  match ds,hlen with
  | [d0,d1,d2],_=>exact ⟨rfl,rfl,rfl⟩
 ·intro W base args ds p hval hA
  rw [Tryz.params3] at hA hval
  obtain ⟨v0,vs0,d0,ds0,p0,q0,hargs,rfl,rfl,h0,r0⟩:=trodAll_cons hA
  obtain ⟨v1,vs1,d1,ds1,p1,q1,rfl,rfl,rfl,h1,r1⟩:=trodAll_cons r0
  obtain ⟨v2,vs2,d2,ds2,p2,q2,rfl,rfl,rfl,h2,r2⟩:=trodAll_cons r1
  obtain ⟨rfl,rfl,rfl⟩:=trodAll_nil r2
  obtain rfl:args=#[v0,v1,v2]:=by cases args;simp_all
  obtain ⟨cs0,y0,rfl,k0⟩:=arg_struct (t:=tNode) Tryz.underlying28 opens_node (hval 0 28 v0 rfl rfl) h0
  obtain ⟨cs1,y1,rfl,k1⟩:=arg_struct (t:=tTensor) Tryz.underlying32 opens_tensor (hval 1 32 v1 rfl rfl) h1
  obtain ⟨cs2,y2,rfl,k2⟩:=arg_struct (t:=tTensor) Tryz.underlying32 opens_tensor (hval 2 32 v2 rfl rfl) h2
  exact runNodes_walk cs0 y0 k0 cs1 y1 k1 cs2 y2 k2 W rfl
theorem runNodes_holds:Rows.RunNodesSaid :=
 OpenClaim.holds_of_wide 3 Tryz.f3 rfl rfl rfl rfl rfl rfl rfl ⟨rfl,rfl,rfl,rfl,rfl⟩ rfl rfl rfl rfl rfl (by kernel_rfl) Tryz.func3 (by kernel_rfl)
  (of_decide_eq_true (by kernel_rfl)) (by unfold Func.isWrapper;rw [if_neg (of_decide_eq_false (by kernel_rfl))];exact ⟨rfl,rfl⟩)
  (fun os started H enc _=>runNodes_lifted os started H enc)
#print axioms runNodes_holds
end Go.Proofs.YtlbkekabmpienaaGreat
