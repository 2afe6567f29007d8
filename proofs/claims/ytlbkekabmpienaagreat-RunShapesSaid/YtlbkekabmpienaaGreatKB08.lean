/-
  What a node makes has the shape that was told ahead (the walk of the law RunShapes).
-/
import Derived.Test.YtlbkekabmpienaaGreatJ41
import Derived.Test.YtlbkekabmpienaaGreatKB01
import Derived.Test.YtlbkekabmpienaaGreatKB07
import Derived.Test.YtlbkekabmpienaaGreatJ00
import Derived.Test.YtlbkekabmpienaaGreatJ20
import Derived.Test.YtlbkekabmpienaaGreatJ06
import Derived.Test.YtlbkekabmpienaaGreatJ03
import Derived.Test.YtlbkekabmpienaaGreatJ08
import Derived.Test.YtlbkekabmpienaaGreatKB00
import Derived.Test.YtlbkekabmpienaaGreatKB03
import Derived.Test.YtlbkekabmpienaaGreatKB04
import Derived.Test.YtlbkekabmpienaaGreatKB05
import Derived.Test.YtlbkekabmpienaaGreatKB06
import Derived.Test.YtlbkekabmpienaaGreatJ28
import Derived.Test.YtlbkekabmpienaaGreatJ09
import Derived.Test.YtlbkekabmpienaaGreatJ01
import Derived.Test.YtlbkekabmpienaaGreatJ29
import Derived.Test.YtlbkekabmpienaaGreatJ31
import Derived.Test.YtlbkekabmpienaaGreatJ32
import Derived.Test.YtlbkekabmpienaaGreatJ34
import Derived.Test.YtlbkekabmpienaaGreatJ40
import Derived.Test.YtlbkekabmpienaaGreatJ04
import Derived.Test.YtlbkekabmpienaaGreatJ11
import Derived.Test.YtlbkekabmpienaaGreatJ12
import Derived.Test.YtlbkekabmpienaaGreatKB02
import Derived.Test.YtlbkekabmpienaaGreatJ19
import Derived.Test.YtlbkekabmpienaaGreatJ16
import Derived.Test.YtlbkekabmpienaaGreatJ27
import Derived.Test.YtlbkekabmpienaaGreatJ30
import Derived.Test.YtlbkekabmpienaaGreatJ26
import Derived.Test.YtlbkekabmpienaaGreatJ35
import Derived.Test.YtlbkekabmpienaaGreatJ36
import Derived.Test.YtlbkekabmpienaaGreatJ07
import Derived.Test.YtlbkekabmpienaaGreatJ05
import Derived.Test.YtlbkekabmpienaaGreatJ25
import Derived.Test.YtlbkekabmpienaaGreatJ23
import Derived.Test.YtlbkekabmpienaaGreatJ33
import Derived.Test.YtlbkekabmpienaaGreatJ18
import Derived.Test.YtlbkekabmpienaaGreatJ37
import Derived.Test.YtlbkekabmpienaaGreatJ38
import Derived.Test.YtlbkekabmpienaaGreatJ39
import Derived.Test.YtlbkekabmpienaaGreatJ14
import Derived.Test.YtlbkekabmpienaaGreatJ24
import Derived.Test.YtlbkekabmpienaaGreatJ15
import Derived.Test.YtlbkekabmpienaaGreatJ02
import Derived.Test.YtlbkekabmpienaaGreatJ21
import Derived.Test.YtlbkekabmpienaaGreatJ22
import Derived.Test.YtlbkekabmpienaaGreatJ10
import Derived.Test.YtlbkekabmpienaaGreatJ13
import Derived.Test.YtlbkekabmpienaaGreatJ17
namespace Go.Proofs.YtlbkekabmpienaaGreat
set_option linter.unusedVariables false
set_option linter.unusedSimpArgs false
open Go.RowKit Go.ChangeShapes Go.WideShapes
set_option maxRecDepth 100000
set_option maxHeartbeats 4000000
theorem rkshape_bad (h v c h2 v2 c2:Int) (d:Node) (W:Option Addr) (nw cw:Nat) (B:Option Addr) (nb cb:Nat) (w:World) (hk:d.kind < 1 ∨ 9 < d.kind) :
  Calls Tryz.prog 14 #[.agg #[.int .i64 d.kind,.int .i64 d.a,.int .i64 d.b,.int .i64 d.k,.int .i64 d.s,.int .i64 d.p,.int .i64 d.out,.int .i8 d.za,.int .i8 d.zb,.slice W nw cw,.slice B nb cb,.int .i32 d.qm,.int .i64 d.qs,.int .i8 d.qz,.int .i32 d.rm,.int .i64 d.rs,.int .i8 d.rz,.int .i8 d.lo,.int .i8 d.hi],.agg #[.int .i64 h,.int .i64 v,.int .i64 c],.agg #[.int .i64 h2,.int .i64 v2,.int .i64 c2]] w fun e w'=>e=retS (noS 6)∧Below w.heap.size w w':=by
 have FR:=zH (Far.refl w)
 obtain ⟨w1,hw_w1,BN,k_w1⟩:=nB w #[.int .i64 d.kind,.int .i64 d.a,.int .i64 d.b,.int .i64 d.k,.int .i64 d.s,.int .i64 d.p,.int .i64 d.out,.int .i8 d.za,.int .i8 d.zb,.slice W nw cw,.slice B nb cb,.int .i32 d.qm,.int .i64 d.qs,.int .i8 d.qz,.int .i32 d.rm,.int .i64 d.rs,.int .i8 d.rz,.int .i8 d.lo,.int .i8 d.hi] 28
 replace FR:=zH (FR.out.fut k_w1)
 clear k_w1
 obtain ⟨w2,hw_w2,BA,k_w2⟩:=nB w1 #[.int .i64 h,.int .i64 v,.int .i64 c] 30
 replace FR:=zH (FR.out.fut k_w2)
 replace BN:=zH (BN.out.fut k_w2)
 clear k_w2
 obtain ⟨w3,hw_w3,BB,k_w3⟩:=nB w2 #[.int .i64 h2,.int .i64 v2,.int .i64 c2] 30
 replace FR:=zH (FR.out.fut k_w3)
 replace BN:=zH (BN.out.fut k_w3)
 replace BA:=zH (BA.out.fut k_w3)
 clear k_w3
 obtain ⟨w4,hw_w4,BR,k_w4⟩:=nB w3 #[.int .i64 0,.int .i64 0,.int .i64 0] 30
 replace FR:=zH (FR.out.fut k_w4)
 replace BN:=zH (BN.out.fut k_w4)
 replace BA:=zH (BA.out.fut k_w4)
 replace BB:=zH (BB.out.fut k_w4)
 clear k_w4
 have l1:w.heap.size < w1.heap.size:=by rw [← hw_w1];simp
 have l2:w1.heap.size < w2.heap.size:=by rw [← hw_w2];simp
 have l3:w2.heap.size < w3.heap.size:=by rw [← hw_w3];simp
 have c0:=BN.out.cell 0
 simp only [gX] at c0
 have t1:(d.kind == 1)=false:=by simp;omega
 have t2:(d.kind == 2)=false:=by simp;omega
 have t3:(d.kind == 3)=false:=by simp;omega
 have t4:(d.kind == 4)=false:=by simp;omega
 have t5:(d.kind == 5)=false:=by simp;omega
 obtain ⟨k,hkk⟩:∃ k,d.kind=k:=⟨_,rfl⟩
 rw [hkk] at hk c0 t1 t2 t3 t4 t5
 clear hkk
 by_cases q:k < 1
 ·have q':=q
  clear hk
  go_enter Tryz.func14,Tryz.ntmps14
  go_wp2_with (refine sB 30 (.tmp 6) (.tmp 61) w3.heap.size #[.int .i64 0,.int .i64 0,.int .i64 0] BR.out ?_;intro w9 B9 g9)
  exact ret_cell_tmp rfl B9 rfl Tryz.underlying30 (by kernel_rfl) rfl ⟨rfl,(FR.out.away g9 (by omega)).out⟩
 ·have q2:9 < k:=by omega
  clear hk
  go_enter Tryz.func14,Tryz.ntmps14
  go_wp2_with (refine sB 30 (.tmp 6) (.tmp 61) w3.heap.size #[.int .i64 0,.int .i64 0,.int .i64 0] BR.out ?_;intro w9 B9 g9)
  exact ret_cell_tmp rfl B9 rfl Tryz.underlying30 (by kernel_rfl) rfl ⟨rfl,(FR.out.away g9 (by omega)).out⟩
theorem nodeQ_none {d:Node} {a b x:Tensor} {k:Int} (h:nodeQ d a b=(x,k)) (hk:¬ k=0):x=noTensor:=by
 have A:∀ {U:List Int → Int},poolQ U a d=(x,k) → x=noTensor:=fun h=>by
  unfold poolQ at h
  split at h
  ·exact absurd (Prod.mk.inj h).2.symm hk
  ·exact (Prod.mk.inj h).1.symm
 unfold nodeQ at h
 split at h
 ·exact (Prod.mk.inj h).1.symm
 split at h
 ·exact (Prod.mk.inj h).1.symm
 split at h
 ·exact A h
 split at h
 ·exact A h
 split at h
 ·unfold joinQ at h
  repeat (split at h;exact (Prod.mk.inj h).1.symm)
  exact absurd (Prod.mk.inj h).2.symm hk
 split at h
 ·unfold actQ at h
  split at h
  ·exact absurd (Prod.mk.inj h).2.symm hk
  ·exact (Prod.mk.inj h).1.symm
 split at h
 ·unfold padO padQ at h
  split at h
  ·exact (Prod.mk.inj h).1.symm
  split at h
  ·exact (Prod.mk.inj h).1.symm
  ·exact absurd (Prod.mk.inj h).2.symm hk
 split at h
 ·exact absurd (Prod.mk.inj h).2.symm hk
 unfold sumQ putQ at h
 split at h
 ·split at h
  ·exact absurd (Prod.mk.inj h).2.symm hk
  ·exact (Prod.mk.inj h).1.symm
 ·exact (Prod.mk.inj h).1.symm
theorem runShapes_any (d:Node) (W:Option Addr) (nw cw:Nat) (B:Option Addr) (nb cb:Nat) (a b:Tensor) (A A':Option Addr) (n cap n' cap':Nat) (w:World) (ht:TensorIn a) (hu:TensorIn b) (hd:NodeIn d)
  (hw:Sl (tInt .i8) w (blo w.heap.size) W nw cw d.w) (hbi:Sl (tInt .i32) w (blo w.heap.size) B nb cb d.bias) (ha:Sl (tInt .i8) w (blo w.heap.size) A n cap a.data) (hbs:Sl (tInt .i8) w (blo w.heap.size) A' n' cap' b.data) :
  Calls Tryz.prog 4 #[.agg #[.int .i64 d.kind,.int .i64 d.a,.int .i64 d.b,.int .i64 d.k,.int .i64 d.s,.int .i64 d.p,.int .i64 d.out,.int .i8 d.za,.int .i8 d.zb,.slice W nw cw,.slice B nb cb,.int .i32 d.qm,.int .i64 d.qs,.int .i8 d.qz,.int .i32 d.rm,.int .i64 d.rs,.int .i8 d.rz,.int .i8 d.lo,.int .i8 d.hi],.agg #[.int .i64 a.h,.int .i64 a.v,.int .i64 a.c,.slice A n cap],.agg #[.int .i64 b.h,.int .i64 b.v,.int .i64 b.c,.slice A' n' cap']] w fun e w'=>e=.returned (.bool true)∧Below w.heap.size w w':=by
 have HW:=zH hw
 have HB:=zH hbi
 have HA:=zH ha
 have HB2:=zH hbs
 have HT:=zH (And.intro ht (And.intro hu hd))
 have FW:=zH (fun w=>few_any a A n cap d W nw cw B nb cb w (Nat.le_trans ha.cap_le ha.max_le) (Nat.le_trans hw.cap_le hw.max_le) (Nat.le_trans hbi.cap_le hbi.max_le))
 have KN:=zH (fun w=>known26_any w)
 have FR:=zH (Far.refl w)
 have mxb:n'≤9223372036854775807:=Nat.le_trans hbs.cap_le hbs.max_le
 have mxa:n≤9223372036854775807:=Nat.le_trans ha.cap_le ha.max_le
 obtain ⟨w1,hw_w1,BN,k_w1⟩:=nB w #[.int .i64 d.kind,.int .i64 d.a,.int .i64 d.b,.int .i64 d.k,.int .i64 d.s,.int .i64 d.p,.int .i64 d.out,.int .i8 d.za,.int .i8 d.zb,.slice W nw cw,.slice B nb cb,.int .i32 d.qm,.int .i64 d.qs,.int .i8 d.qz,.int .i32 d.rm,.int .i64 d.rs,.int .i8 d.rz,.int .i8 d.lo,.int .i8 d.hi] 28
 replace FR:=zH (FR.out.fut k_w1)
 clear k_w1
 obtain ⟨w2,hw_w2,BA,k_w2⟩:=nB w1 #[.int .i64 a.h,.int .i64 a.v,.int .i64 a.c,.slice A n cap] 32
 replace FR:=zH (FR.out.fut k_w2)
 replace BN:=zH (BN.out.fut k_w2)
 clear k_w2
 obtain ⟨w3,hw_w3,BB,k_w3⟩:=nB w2 #[.int .i64 b.h,.int .i64 b.v,.int .i64 b.c,.slice A' n' cap'] 32
 replace FR:=zH (FR.out.fut k_w3)
 replace BN:=zH (BN.out.fut k_w3)
 replace BA:=zH (BA.out.fut k_w3)
 clear k_w3
 clear ht hu hd hw hbi ha hbs
 by_cases cf:n≤1024∧nw≤2000∧nb≤200
 rotate_left
 ·rw [decide_eq_false cf] at FW
  clear cf
  go_enter Tryz.func4,Tryz.ntmps4
  go_wp2_with (first|(refine lB 32 (.tmp 4) w1.heap.size BA.out Tryz.underlying32 ?_)|(refine lB 28 (.tmp 3) w.heap.size BN.out Tryz.underlying28 ?_)|(go_at_call 6;refine (FW.out _).mono ?_;rintro e w4 ⟨rfl,hb⟩;replace FR:=zH (FR.out.fut hb);replace BN:=zH (BN.out.fut hb);replace BA:=zH (BA.out.fut hb);replace BB:=zH (BB.out.fut hb);clear hb hw_w1 hw_w2 hw_w3;have b3:=BB.out.cell 3;simp only [gX] at b3))
  refine (KN.out _).mono ?_
  rintro e w5 ⟨rfl,hb⟩
  have F5:=zH (FR.out.fut hb)
  clear hb
  go_wp2_with fail
  go_ret
  exact ⟨rfl,F5.out.out⟩
 rw [decide_eq_true cf] at FW
 by_cases cb':n'≤1024
 rotate_left
 ·have t1:(1024:Int) < (n':Int):=by omega
  clear cf cb'
  go_enter Tryz.func4,Tryz.ntmps4
  go_wp2_with (first|(refine lB 32 (.tmp 4) w1.heap.size BA.out Tryz.underlying32 ?_)|(refine lB 28 (.tmp 3) w.heap.size BN.out Tryz.underlying28 ?_)|(go_at_call 6;refine (FW.out _).mono ?_;rintro e w4 ⟨rfl,hb⟩;replace FR:=zH (FR.out.fut hb);replace BN:=zH (BN.out.fut hb);replace BA:=zH (BA.out.fut hb);replace BB:=zH (BB.out.fut hb);clear hb hw_w1 hw_w2 hw_w3;have b3:=BB.out.cell 3;simp only [gX] at b3))
  refine (KN.out _).mono ?_
  rintro e w5 ⟨rfl,hb⟩
  have F5:=zH (FR.out.fut hb)
  clear hb
  go_wp2_with fail
  go_ret
  exact ⟨rfl,F5.out.out⟩
 have t1:¬ (1024:Int) < (n':Int):=by omega
 have mw:nw≤2000∧nb≤200:=cf.2
 have N1:=zH (fun w hw hbi ha hbs=>runNode_any d W nw cw B nb cb a b A A' n cap n' cap' w HT.out.1 HT.out.2.1 HT.out.2.2 hw hbi ha hbs mw)
 obtain ⟨⟨⟨z1,z2,z3⟩,zc⟩,hsv,hse⟩:∃ s:ShE,(∀ w,Calls Tryz.prog 14 #[.agg #[.int .i64 d.kind,.int .i64 d.a,.int .i64 d.b,.int .i64 d.k,.int .i64 d.s,.int .i64 d.p,.int .i64 d.out,.int .i8 d.za,.int .i8 d.zb,.slice W nw cw,.slice B nb cb,.int .i32 d.qm,.int .i64 d.qs,.int .i8 d.qz,.int .i32 d.rm,.int .i64 d.rs,.int .i8 d.rz,.int .i8 d.lo,.int .i8 d.hi],.agg #[.int .i64 a.h,.int .i64 a.v,.int .i64 a.c],.agg #[.int .i64 b.h,.int .i64 b.v,.int .i64 b.c]] w fun e w'=>e=retS s∧Below w.heap.size w w')∧(1≤d.kind∧d.kind≤9 → s=shapeV a.h a.v a.c b.h b.v b.c d):=by
  by_cases hk:1≤d.kind∧d.kind≤9
  ·exact ⟨_,fun w=>rkshape_any a.h a.v a.c b.h b.v b.c d W nw cw B nb cb w HT.out.1.h HT.out.1.v HT.out.1.c HT.out.2.2.out HT.out.2.2.p HW.out.n_eq.symm HB.out.n_eq.symm (by omega) (by omega) hk,fun _=>rfl⟩
  ·exact ⟨_,fun w=>rkshape_bad a.h a.v a.c b.h b.v b.c d W nw cw B nb cb w (by omega),fun h=>absurd h hk⟩
 have SV:=zH hsv
 obtain ⟨⟨x,k⟩,hx⟩:∃ q,nodeQ d a b=q:=⟨_,rfl⟩
 rw [hx] at N1
 have HX:=zH hx
 have HS:=zH hse
 clear cf cb' mw hx hsv hse
 go_enter Tryz.func4,Tryz.ntmps4
 go_wp2_with (first|(refine lB 32 (.tmp 4) w1.heap.size BA.out Tryz.underlying32 ?_)|(refine lB 28 (.tmp 3) w.heap.size BN.out Tryz.underlying28 ?_)|(refine lB 32 (.tmp 5) w2.heap.size BB.out Tryz.underlying32 ?_)|(go_at_call 6;refine (FW.out _).mono ?_;rintro e w4 ⟨rfl,hb⟩;replace FR:=zH (FR.out.fut hb);replace BN:=zH (BN.out.fut hb);replace BA:=zH (BA.out.fut hb);replace BB:=zH (BB.out.fut hb);clear hb hw_w1 hw_w2 hw_w3;have b3:=BB.out.cell 3;simp only [gX] at b3))
 clear b3
 refine (N1.out _ ((Old.now HW.out).fut FR.out.out).all ((Old.now HB.out).fut FR.out.out).all ((Old.now HA.out).fut FR.out.out).all ((Old.now HB2.out).fut FR.out.out).all).mono ?_
 rintro e w5 ⟨A1,n1,c1,rfl,s1,hb⟩
 have S1:=zH s1.old
 clear s1
 replace FR:=zH (FR.out.fut hb)
 replace BN:=zH (BN.out.fut hb)
 replace BA:=zH (BA.out.fut hb)
 replace BB:=zH (BB.out.fut hb)
 clear hb
 obtain ⟨w6,hw_w6,BX1,k_w6⟩:=nB w5 #[.int .i64 x.h,.int .i64 x.v,.int .i64 x.c,.slice A1 n1 c1] 32
 replace FR:=zH (FR.out.fut k_w6)
 replace BN:=zH (BN.out.fut k_w6)
 replace BA:=zH (BA.out.fut k_w6)
 replace BB:=zH (BB.out.fut k_w6)
 replace S1:=zH (S1.out.fut k_w6)
 clear k_w6
 go_wp2_with (first|(refine lB 28 (.tmp 3) w.heap.size BN.out Tryz.underlying28 ?_)|(refine wpList_load_blk rfl 30 (.tmp 31) rfl w1.heap.size 0 rfl _ #[.int .i64 a.h,.int .i64 a.v,.int .i64 a.c,.slice A n cap] #[.int .i64 a.h,.int .i64 a.v,.int .i64 a.c] _ BA.out Tryz.underlying30 rfl (by kernel_rfl) rfl ?_)|(refine wpList_load_blk rfl 30 (.tmp 33) rfl w2.heap.size 0 rfl _ #[.int .i64 b.h,.int .i64 b.v,.int .i64 b.c,.slice A' n' cap'] #[.int .i64 b.h,.int .i64 b.v,.int .i64 b.c] _ BB.out Tryz.underlying30 rfl (by kernel_rfl) rfl ?_))
 refine (SV.out _).mono ?_
 rintro e w7 ⟨rfl,hb⟩
 simp only [retS]
 clear hw_w6
 replace FR:=zH (FR.out.fut hb)
 replace S1:=zH (S1.out.fut hb)
 replace BX1:=zH (BX1.out.fut hb)
 clear hb
 obtain ⟨w8,hw_w8,BS,k_w8⟩:=nB w7 #[.int .i64 z1,.int .i64 z2,.int .i64 z3] 30
 replace FR:=zH (FR.out.fut k_w8)
 replace S1:=zH (S1.out.fut k_w8)
 replace BX1:=zH (BX1.out.fut k_w8)
 clear k_w8
 by_cases k0:k=0
 ·subst k0
  obtain ⟨e1,e2,e3⟩:=node_shape HX.out
  have e4:=HS.out e3
  rw [e1] at e4
  injection e4 with e4 e5
  injection e4 with e4 e6
  injection e6 with e6 e7
  subst e4 e5 e6 e7
  have QE:=zH (fun w=>(eq_shape w x.h x.v x.c x.h x.v x.c).trans (show _=Result.ok true w by rw [beq_self_eq_true]))
  have xo:=e2
  simp only [Tensor.ok,decide_eq_true_eq] at xo
  obtain ⟨H,V,C,TX⟩:=tok_of e2
  have n1e:x.data.length=n1:=S1.out.n_eq
  have RR:=zH (fun w=>rtensorRight_any x.h x.v x.c A1 n1 c1 w (by rw [TX.h,inK_i64];have:=TX.h1;omega) (by rw [TX.v,inK_i64];have:=TX.v1;omega) (by rw [TX.c,inK_i64];have:=TX.c1;omega) (Nat.le_trans S1.out.cap_le S1.out.max_le))
  rw [show decide (0 < elems x.h x.v x.c∧elems x.h x.v x.c=n1)=true by rw [← n1e];exact decide_eq_true xo] at RR
  clear e1 e2 e3 xo TX n1e
  go_wp2_with (first|(refine wpList_load_midw (by kernel_rfl) 30 (.tmp 49) rfl w5.heap.size 0 rfl _ _ (range_blk (vs:=[.int .i64 x.h,.int .i64 x.v,.int .i64 x.c]) BX1.out rfl) Tryz.underlying30 rfl (by kernel_rfl) ?_)|(refine wpList_load_midw (by kernel_rfl) 30 (.tmp 9) rfl w7.heap.size 0 rfl _ _ (range_blk (vs:=[.int .i64 x.h,.int .i64 x.v,.int .i64 x.c]) BS.out rfl) Tryz.underlying30 rfl (by kernel_rfl) ?_)|(refine wpList_eql_agg 30 _ (.tmp 50) (.tmp 51) rfl _ _ rfl rfl (by kernel_rfl) (by kernel_rfl) _ (QE.out _) ?_)|(refine wpList_load_midw (by kernel_rfl) 32 (.tmp 7) rfl w5.heap.size 0 rfl _ _ (range_blk (vs:=[.int .i64 x.h,.int .i64 x.v,.int .i64 x.c,.slice A1 n1 c1]) BX1.out rfl) Tryz.underlying32 rfl (by kernel_rfl) ?_)|(go_at_call 15;refine (RR.out _).mono ?_;rintro e w13 ⟨rfl,hb⟩;replace FR:=zH (FR.out.fut hb);clear hb hw_w8)|(go_at_call 7;refine (KN.out _).mono ?_;rintro e w15 ⟨rfl,hb⟩;replace FR:=zH (FR.out.fut hb);clear hb))
  go_ret
  exact ⟨rfl,FR.out.out⟩
 ·have hk2:(k != 0)=true:=by rw [bne_iff_ne];exact k0
  obtain rfl:x=noTensor:=nodeQ_none HX.out k0
  clear k0
  go_wp2_with (first|(refine lB 32 (.tmp 7) w5.heap.size BX1.out Tryz.underlying32 ?_)|(go_at_call 12;refine (same05_eq noTensor A1 none n1 c1 0 0 _ S1.out (Sl.nil _ _ _)).mono ?_;rintro e w13 ⟨rfl,hb⟩;replace FR:=zH (FR.out.fut hb);clear hb hw_w8)|(go_at_call 7;refine (KN.out _).mono ?_;rintro e w15 ⟨rfl,hb⟩;replace FR:=zH (FR.out.fut hb);clear hb))
  go_ret
  exact ⟨rfl,FR.out.out⟩
theorem runShapes_walk (cs:Array Value) (d:Node) {w0:World} (hd:tNode.rep w0 (blo w0.heap.size) cs.toList d) (cs':Array Value) (a:Tensor) (ha:tTensor.rep w0 (blo w0.heap.size) cs'.toList a) (cs'':Array Value) (b:Tensor) (hb:tTensor.rep w0 (blo w0.heap.size) cs''.toList b) (w:World) (e:w0=w) :
  Calls Tryz.prog 4 #[.agg cs,.agg cs',.agg cs''] w fun e w'=>e=.returned (.bool true)∧Below w.heap.size w w':=by
 subst e
 obtain ⟨W,nw,cw,B,nb,cb,e2,k3,k4,k5⟩:=node_open hd
 obtain ⟨A,n,cap,e1,k1,k2⟩:=tensor_open ha
 obtain ⟨A',n',cap',e1',k1',k2'⟩:=tensor_open hb
 obtain ⟨cs⟩:=cs
 obtain ⟨cs'⟩:=cs'
 obtain ⟨cs''⟩:=cs''
 simp only at e1 e2 e1'
 subst e1 e2 e1'
 exact runShapes_any d W nw cw B nb cb a b A A' n cap n' cap' _ k1 k1' k3 k4 k5 k2 k2'
end Go.Proofs.YtlbkekabmpienaaGreat
