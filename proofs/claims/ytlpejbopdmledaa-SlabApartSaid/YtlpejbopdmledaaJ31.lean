/-
  The shape that a node makes (layers 18, 25): the document's Shape.
  Conditions: at most 2^20 weights.
-/
import Derived.Test.YtlpejbopdmledaaChecked
import Derived.Test.YtlpejbopdmledaaJ06
import Derived.Test.YtlpejbopdmledaaJ10
import Derived.Test.YtlpejbopdmledaaJ21
import Derived.Test.YtlpejbopdmledaaJ29
import Derived.Test.YtlpejbopdmledaaJ30
namespace Go.Proofs.Ytlpejbopdmledaa
set_option linter.unusedVariables false
set_option linter.unusedSimpArgs false
open Go.RowKit Go.ChangeShapes Go.WideShapes
set_option maxRecDepth 100000


set_option maxHeartbeats 16000000 in
theorem rkshape_any_1 (h v c h2 v2 c2 : Int) (d : Node) (W : Option Addr) (nw cw : Nat) (B : Option Addr) (nb cb : Nat) (w : World) (i0 : InK .i64 h) (i1 : InK .i64 v) (i2 : InK .i64 c) (hout : InK .i64 d.out) (hp : InK .i64 d.p) (hnw : nw = d.w.length) (hnb : nb = d.bias.length) (mw : nw ≤ 1048576) (mb : nb ≤ 1048576) (e : d.kind = 1) :
    Calls Try.prog 21 #[.agg #[.int .i64 d.kind, .int .i64 d.a, .int .i64 d.b, .int .i64 d.k, .int .i64 d.s, .int .i64 d.p, .int .i64 d.out, .int .i8 d.za, .int .i8 d.zb, .slice W nw cw, .slice B nb cb, .int .i32 d.qm, .int .i64 d.qs, .int .i8 d.qz, .int .i32 d.rm, .int .i64 d.rs, .int .i8 d.rz, .int .i8 d.lo, .int .i8 d.hi], .agg #[.int .i64 h, .int .i64 v, .int .i64 c], .agg #[.int .i64 h2, .int .i64 v2, .int .i64 c2]] w fun e w' => e = retS (shapeV h v c h2 v2 c2 d) ∧ Below w.heap.size w w' := by
  obtain ⟨r, hr⟩ : ∃ r, shapeV h v c h2 v2 c2 d = r := ⟨_, rfl⟩
  rw [hr]
  unfold shapeV at hr
  have VV := Lib.hid hr.symm
  clear hr
  have FR := Lib.hid (Far.refl w)
  obtain ⟨w1, hw_w1⟩ : ∃ nw_, w.alloc (.cells #[.int .i64 d.kind, .int .i64 d.a, .int .i64 d.b, .int .i64 d.k, .int .i64 d.s, .int .i64 d.p, .int .i64 d.out, .int .i8 d.za, .int .i8 d.zb, .slice W nw cw, .slice B nb cb, .int .i32 d.qm, .int .i64 d.qs, .int .i8 d.qz, .int .i32 d.rm, .int .i64 d.rs, .int .i8 d.rz, .int .i8 d.lo, .int .i8 d.hi] 53) = nw_ := ⟨_, rfl⟩
  have k_w1 : Below w.heap.size w w1 := by rw [← hw_w1]; exact (Below.refl _ _).alloc (Nat.le_refl _) _
  replace FR := Lib.hid (FR.out.fut k_w1)
  have BN := Lib.hid (show Blk w1 w.heap.size 53 #[.int .i64 d.kind, .int .i64 d.a, .int .i64 d.b, .int .i64 d.k, .int .i64 d.s, .int .i64 d.p, .int .i64 d.out, .int .i8 d.za, .int .i8 d.zb, .slice W nw cw, .slice B nb cb, .int .i32 d.qm, .int .i64 d.qs, .int .i8 d.qz, .int .i32 d.rm, .int .i64 d.rs, .int .i8 d.rz, .int .i8 d.lo, .int .i8 d.hi] by rw [← hw_w1]; exact Blk.now _ _ _ _ rfl)
  clear k_w1
  obtain ⟨w2, hw_w2⟩ : ∃ nw_, w1.alloc (.cells #[.int .i64 h, .int .i64 v, .int .i64 c] 24) = nw_ := ⟨_, rfl⟩
  have k_w2 : Below w1.heap.size w1 w2 := by rw [← hw_w2]; exact (Below.refl _ _).alloc (Nat.le_refl _) _
  replace FR := Lib.hid (FR.out.fut k_w2)
  replace BN := Lib.hid (BN.out.fut k_w2)
  have BA := Lib.hid (show Blk w2 w1.heap.size 24 #[.int .i64 h, .int .i64 v, .int .i64 c] by rw [← hw_w2]; exact Blk.now _ _ _ _ rfl)
  clear k_w2
  obtain ⟨w3, hw_w3⟩ : ∃ nw_, w2.alloc (.cells #[.int .i64 h2, .int .i64 v2, .int .i64 c2] 24) = nw_ := ⟨_, rfl⟩
  have k_w3 : Below w2.heap.size w2 w3 := by rw [← hw_w3]; exact (Below.refl _ _).alloc (Nat.le_refl _) _
  replace FR := Lib.hid (FR.out.fut k_w3)
  replace BN := Lib.hid (BN.out.fut k_w3)
  replace BA := Lib.hid (BA.out.fut k_w3)
  have BB := Lib.hid (show Blk w3 w2.heap.size 24 #[.int .i64 h2, .int .i64 v2, .int .i64 c2] by rw [← hw_w3]; exact Blk.now _ _ _ _ rfl)
  clear k_w3
  obtain ⟨w4, hw_w4⟩ : ∃ nw_, w3.alloc (.cells #[.int .i64 0, .int .i64 0, .int .i64 0] 24) = nw_ := ⟨_, rfl⟩
  have k_w4 : Below w3.heap.size w3 w4 := by rw [← hw_w4]; exact (Below.refl _ _).alloc (Nat.le_refl _) _
  replace FR := Lib.hid (FR.out.fut k_w4)
  replace BN := Lib.hid (BN.out.fut k_w4)
  replace BA := Lib.hid (BA.out.fut k_w4)
  replace BB := Lib.hid (BB.out.fut k_w4)
  have BR := Lib.hid (show Blk w4 w3.heap.size 24 #[.int .i64 0, .int .i64 0, .int .i64 0] by rw [← hw_w4]; exact Blk.now _ _ _ _ rfl)
  clear k_w4
  have l1 : w.heap.size < w1.heap.size := by rw [← hw_w1]; simp
  have l2 : w1.heap.size < w2.heap.size := by rw [← hw_w2]; simp
  have l3 : w2.heap.size < w3.heap.size := by rw [← hw_w3]; simp
  have l4 : w3.heap.size < w4.heap.size := by rw [← hw_w4]; simp
  have n0 := BN.out.cell 0
  · skip
    have k1 : (d.kind == 1) = true := by simp [e]
    have k2 : (d.kind == 2) = false := by simp [e]
    have k3 : (d.kind == 3) = false := by simp [e]
    have k4 : (d.kind == 4) = false := by simp [e]
    have k5 : (d.kind == 5) = false := by simp [e]
    have k6 : (d.kind == 6) = false := by simp [e]
    have k8 : (d.kind == 8) = false := by simp [e]
    have k9 : (d.kind == 9) = false := by simp [e]
    have kl : decide (d.kind < 1) = false := by simp [e]
    have kg : decide (9 < d.kind) = false := by simp [e]
    have CN := Lib.hid (fun w => rconvShape_any h v c d W nw cw B nb cb w i0 i1 i2 hout hnw hnb mw mb)
    obtain ⟨⟨⟨x1, x2, x3⟩, xe⟩, hx⟩ : ∃ x, convV h v c d = x := ⟨_, rfl⟩
    have R := Lib.hid (show r = ((x1, x2, x3), xe) by rw [VV.out, ← hx]; simp [e])
    rw [hx] at CN
    simp only [retS] at CN
    clear VV hx e i0 i1 i2 hout hp hnw hnb mw mb
    go_enter Try.func21, Try.ntmps21
    go_wp2_with (first
      | (refine wpList_load_row rfl 24 (.tmp 4) rfl w1.heap.size rfl _ _ (0, 0) _ BA.out.heap Try.underlying24 rfl (by kernel_rfl) ?_)
      | (refine wpList_load_row rfl 53 (.tmp 3) rfl w.heap.size rfl _ _ (0, 0) _ BN.out.heap Try.underlying53 rfl (by kernel_rfl) ?_))
    clear hw_w1 hw_w2 hw_w3 hw_w4 n0
    refine (CN.out _).mono ?_
    rintro e w5 ⟨rfl, hb⟩
    replace FR := Lib.hid (FR.out.fut hb)
    replace BN := Lib.hid (BN.out.fut hb)
    replace BA := Lib.hid (BA.out.fut hb)
    replace BB := Lib.hid (BB.out.fut hb)
    replace BR := Lib.hid (BR.out.fut hb)
    clear hb
    go_wp2_with (first
      | (refine wpList_store_all rfl 24 (.tmp 6) (.tmp 15) rfl w3.heap.size #[.int .i64 x1, .int .i64 x2, .int .i64 x3] rfl rfl _ _ BR.out rfl (by kernel_rfl) (by simp [Value.oneCell']) ?_; intro w7 BR7 g7))
    refine ret_cell_tmp rfl BR7 rfl Try.underlying24 (by kernel_rfl) rfl ⟨by rw [R.out]; rfl, (FR.out.away g7 (by omega)).out⟩

set_option maxHeartbeats 16000000 in
theorem rkshape_any_2 (h v c h2 v2 c2 : Int) (d : Node) (W : Option Addr) (nw cw : Nat) (B : Option Addr) (nb cb : Nat) (w : World) (i0 : InK .i64 h) (i1 : InK .i64 v) (i2 : InK .i64 c) (hout : InK .i64 d.out) (hp : InK .i64 d.p) (hnw : nw = d.w.length) (hnb : nb = d.bias.length) (mw : nw ≤ 1048576) (mb : nb ≤ 1048576) (e : d.kind = 2) :
    Calls Try.prog 21 #[.agg #[.int .i64 d.kind, .int .i64 d.a, .int .i64 d.b, .int .i64 d.k, .int .i64 d.s, .int .i64 d.p, .int .i64 d.out, .int .i8 d.za, .int .i8 d.zb, .slice W nw cw, .slice B nb cb, .int .i32 d.qm, .int .i64 d.qs, .int .i8 d.qz, .int .i32 d.rm, .int .i64 d.rs, .int .i8 d.rz, .int .i8 d.lo, .int .i8 d.hi], .agg #[.int .i64 h, .int .i64 v, .int .i64 c], .agg #[.int .i64 h2, .int .i64 v2, .int .i64 c2]] w fun e w' => e = retS (shapeV h v c h2 v2 c2 d) ∧ Below w.heap.size w w' := by
  obtain ⟨r, hr⟩ : ∃ r, shapeV h v c h2 v2 c2 d = r := ⟨_, rfl⟩
  rw [hr]
  unfold shapeV at hr
  have VV := Lib.hid hr.symm
  clear hr
  have FR := Lib.hid (Far.refl w)
  obtain ⟨w1, hw_w1⟩ : ∃ nw_, w.alloc (.cells #[.int .i64 d.kind, .int .i64 d.a, .int .i64 d.b, .int .i64 d.k, .int .i64 d.s, .int .i64 d.p, .int .i64 d.out, .int .i8 d.za, .int .i8 d.zb, .slice W nw cw, .slice B nb cb, .int .i32 d.qm, .int .i64 d.qs, .int .i8 d.qz, .int .i32 d.rm, .int .i64 d.rs, .int .i8 d.rz, .int .i8 d.lo, .int .i8 d.hi] 53) = nw_ := ⟨_, rfl⟩
  have k_w1 : Below w.heap.size w w1 := by rw [← hw_w1]; exact (Below.refl _ _).alloc (Nat.le_refl _) _
  replace FR := Lib.hid (FR.out.fut k_w1)
  have BN := Lib.hid (show Blk w1 w.heap.size 53 #[.int .i64 d.kind, .int .i64 d.a, .int .i64 d.b, .int .i64 d.k, .int .i64 d.s, .int .i64 d.p, .int .i64 d.out, .int .i8 d.za, .int .i8 d.zb, .slice W nw cw, .slice B nb cb, .int .i32 d.qm, .int .i64 d.qs, .int .i8 d.qz, .int .i32 d.rm, .int .i64 d.rs, .int .i8 d.rz, .int .i8 d.lo, .int .i8 d.hi] by rw [← hw_w1]; exact Blk.now _ _ _ _ rfl)
  clear k_w1
  obtain ⟨w2, hw_w2⟩ : ∃ nw_, w1.alloc (.cells #[.int .i64 h, .int .i64 v, .int .i64 c] 24) = nw_ := ⟨_, rfl⟩
  have k_w2 : Below w1.heap.size w1 w2 := by rw [← hw_w2]; exact (Below.refl _ _).alloc (Nat.le_refl _) _
  replace FR := Lib.hid (FR.out.fut k_w2)
  replace BN := Lib.hid (BN.out.fut k_w2)
  have BA := Lib.hid (show Blk w2 w1.heap.size 24 #[.int .i64 h, .int .i64 v, .int .i64 c] by rw [← hw_w2]; exact Blk.now _ _ _ _ rfl)
  clear k_w2
  obtain ⟨w3, hw_w3⟩ : ∃ nw_, w2.alloc (.cells #[.int .i64 h2, .int .i64 v2, .int .i64 c2] 24) = nw_ := ⟨_, rfl⟩
  have k_w3 : Below w2.heap.size w2 w3 := by rw [← hw_w3]; exact (Below.refl _ _).alloc (Nat.le_refl _) _
  replace FR := Lib.hid (FR.out.fut k_w3)
  replace BN := Lib.hid (BN.out.fut k_w3)
  replace BA := Lib.hid (BA.out.fut k_w3)
  have BB := Lib.hid (show Blk w3 w2.heap.size 24 #[.int .i64 h2, .int .i64 v2, .int .i64 c2] by rw [← hw_w3]; exact Blk.now _ _ _ _ rfl)
  clear k_w3
  obtain ⟨w4, hw_w4⟩ : ∃ nw_, w3.alloc (.cells #[.int .i64 0, .int .i64 0, .int .i64 0] 24) = nw_ := ⟨_, rfl⟩
  have k_w4 : Below w3.heap.size w3 w4 := by rw [← hw_w4]; exact (Below.refl _ _).alloc (Nat.le_refl _) _
  replace FR := Lib.hid (FR.out.fut k_w4)
  replace BN := Lib.hid (BN.out.fut k_w4)
  replace BA := Lib.hid (BA.out.fut k_w4)
  replace BB := Lib.hid (BB.out.fut k_w4)
  have BR := Lib.hid (show Blk w4 w3.heap.size 24 #[.int .i64 0, .int .i64 0, .int .i64 0] by rw [← hw_w4]; exact Blk.now _ _ _ _ rfl)
  clear k_w4
  have l1 : w.heap.size < w1.heap.size := by rw [← hw_w1]; simp
  have l2 : w1.heap.size < w2.heap.size := by rw [← hw_w2]; simp
  have l3 : w2.heap.size < w3.heap.size := by rw [← hw_w3]; simp
  have l4 : w3.heap.size < w4.heap.size := by rw [← hw_w4]; simp
  have n0 := BN.out.cell 0
  · skip
    have k1 : (d.kind == 1) = false := by simp [e]
    have k2 : (d.kind == 2) = true := by simp [e]
    have k3 : (d.kind == 3) = false := by simp [e]
    have k4 : (d.kind == 4) = false := by simp [e]
    have k5 : (d.kind == 5) = false := by simp [e]
    have k6 : (d.kind == 6) = false := by simp [e]
    have k8 : (d.kind == 8) = false := by simp [e]
    have k9 : (d.kind == 9) = false := by simp [e]
    have kl : decide (d.kind < 1) = false := by simp [e]
    have kg : decide (9 < d.kind) = false := by simp [e]
    have CN := Lib.hid (fun w => rdepthShape_any h v c d W nw cw B nb cb w i0 i1 i2 hout hnw hnb mw mb)
    obtain ⟨⟨⟨x1, x2, x3⟩, xe⟩, hx⟩ : ∃ x, depthV h v c d = x := ⟨_, rfl⟩
    have R := Lib.hid (show r = ((x1, x2, x3), xe) by rw [VV.out, ← hx]; simp [e])
    rw [hx] at CN
    simp only [retS] at CN
    clear VV hx e i0 i1 i2 hout hp hnw hnb mw mb
    go_enter Try.func21, Try.ntmps21
    go_wp2_with (first
      | (refine wpList_load_row rfl 24 (.tmp 4) rfl w1.heap.size rfl _ _ (0, 0) _ BA.out.heap Try.underlying24 rfl (by kernel_rfl) ?_)
      | (refine wpList_load_row rfl 53 (.tmp 3) rfl w.heap.size rfl _ _ (0, 0) _ BN.out.heap Try.underlying53 rfl (by kernel_rfl) ?_))
    clear hw_w1 hw_w2 hw_w3 hw_w4 n0
    refine (CN.out _).mono ?_
    rintro e w5 ⟨rfl, hb⟩
    replace FR := Lib.hid (FR.out.fut hb)
    replace BN := Lib.hid (BN.out.fut hb)
    replace BA := Lib.hid (BA.out.fut hb)
    replace BB := Lib.hid (BB.out.fut hb)
    replace BR := Lib.hid (BR.out.fut hb)
    clear hb
    go_wp2_with (first
      | (refine wpList_store_all rfl 24 (.tmp 6) (.tmp 23) rfl w3.heap.size #[.int .i64 x1, .int .i64 x2, .int .i64 x3] rfl rfl _ _ BR.out rfl (by kernel_rfl) (by simp [Value.oneCell']) ?_; intro w7 BR7 g7))
    refine ret_cell_tmp rfl BR7 rfl Try.underlying24 (by kernel_rfl) rfl ⟨by rw [R.out]; rfl, (FR.out.away g7 (by omega)).out⟩

set_option maxHeartbeats 16000000 in
theorem rkshape_any_3 (h v c h2 v2 c2 : Int) (d : Node) (W : Option Addr) (nw cw : Nat) (B : Option Addr) (nb cb : Nat) (w : World) (i0 : InK .i64 h) (i1 : InK .i64 v) (i2 : InK .i64 c) (hout : InK .i64 d.out) (hp : InK .i64 d.p) (hnw : nw = d.w.length) (hnb : nb = d.bias.length) (mw : nw ≤ 1048576) (mb : nb ≤ 1048576) (e : d.kind = 3) :
    Calls Try.prog 21 #[.agg #[.int .i64 d.kind, .int .i64 d.a, .int .i64 d.b, .int .i64 d.k, .int .i64 d.s, .int .i64 d.p, .int .i64 d.out, .int .i8 d.za, .int .i8 d.zb, .slice W nw cw, .slice B nb cb, .int .i32 d.qm, .int .i64 d.qs, .int .i8 d.qz, .int .i32 d.rm, .int .i64 d.rs, .int .i8 d.rz, .int .i8 d.lo, .int .i8 d.hi], .agg #[.int .i64 h, .int .i64 v, .int .i64 c], .agg #[.int .i64 h2, .int .i64 v2, .int .i64 c2]] w fun e w' => e = retS (shapeV h v c h2 v2 c2 d) ∧ Below w.heap.size w w' := by
  obtain ⟨r, hr⟩ : ∃ r, shapeV h v c h2 v2 c2 d = r := ⟨_, rfl⟩
  rw [hr]
  unfold shapeV at hr
  have VV := Lib.hid hr.symm
  clear hr
  have FR := Lib.hid (Far.refl w)
  obtain ⟨w1, hw_w1⟩ : ∃ nw_, w.alloc (.cells #[.int .i64 d.kind, .int .i64 d.a, .int .i64 d.b, .int .i64 d.k, .int .i64 d.s, .int .i64 d.p, .int .i64 d.out, .int .i8 d.za, .int .i8 d.zb, .slice W nw cw, .slice B nb cb, .int .i32 d.qm, .int .i64 d.qs, .int .i8 d.qz, .int .i32 d.rm, .int .i64 d.rs, .int .i8 d.rz, .int .i8 d.lo, .int .i8 d.hi] 53) = nw_ := ⟨_, rfl⟩
  have k_w1 : Below w.heap.size w w1 := by rw [← hw_w1]; exact (Below.refl _ _).alloc (Nat.le_refl _) _
  replace FR := Lib.hid (FR.out.fut k_w1)
  have BN := Lib.hid (show Blk w1 w.heap.size 53 #[.int .i64 d.kind, .int .i64 d.a, .int .i64 d.b, .int .i64 d.k, .int .i64 d.s, .int .i64 d.p, .int .i64 d.out, .int .i8 d.za, .int .i8 d.zb, .slice W nw cw, .slice B nb cb, .int .i32 d.qm, .int .i64 d.qs, .int .i8 d.qz, .int .i32 d.rm, .int .i64 d.rs, .int .i8 d.rz, .int .i8 d.lo, .int .i8 d.hi] by rw [← hw_w1]; exact Blk.now _ _ _ _ rfl)
  clear k_w1
  obtain ⟨w2, hw_w2⟩ : ∃ nw_, w1.alloc (.cells #[.int .i64 h, .int .i64 v, .int .i64 c] 24) = nw_ := ⟨_, rfl⟩
  have k_w2 : Below w1.heap.size w1 w2 := by rw [← hw_w2]; exact (Below.refl _ _).alloc (Nat.le_refl _) _
  replace FR := Lib.hid (FR.out.fut k_w2)
  replace BN := Lib.hid (BN.out.fut k_w2)
  have BA := Lib.hid (show Blk w2 w1.heap.size 24 #[.int .i64 h, .int .i64 v, .int .i64 c] by rw [← hw_w2]; exact Blk.now _ _ _ _ rfl)
  clear k_w2
  obtain ⟨w3, hw_w3⟩ : ∃ nw_, w2.alloc (.cells #[.int .i64 h2, .int .i64 v2, .int .i64 c2] 24) = nw_ := ⟨_, rfl⟩
  have k_w3 : Below w2.heap.size w2 w3 := by rw [← hw_w3]; exact (Below.refl _ _).alloc (Nat.le_refl _) _
  replace FR := Lib.hid (FR.out.fut k_w3)
  replace BN := Lib.hid (BN.out.fut k_w3)
  replace BA := Lib.hid (BA.out.fut k_w3)
  have BB := Lib.hid (show Blk w3 w2.heap.size 24 #[.int .i64 h2, .int .i64 v2, .int .i64 c2] by rw [← hw_w3]; exact Blk.now _ _ _ _ rfl)
  clear k_w3
  obtain ⟨w4, hw_w4⟩ : ∃ nw_, w3.alloc (.cells #[.int .i64 0, .int .i64 0, .int .i64 0] 24) = nw_ := ⟨_, rfl⟩
  have k_w4 : Below w3.heap.size w3 w4 := by rw [← hw_w4]; exact (Below.refl _ _).alloc (Nat.le_refl _) _
  replace FR := Lib.hid (FR.out.fut k_w4)
  replace BN := Lib.hid (BN.out.fut k_w4)
  replace BA := Lib.hid (BA.out.fut k_w4)
  replace BB := Lib.hid (BB.out.fut k_w4)
  have BR := Lib.hid (show Blk w4 w3.heap.size 24 #[.int .i64 0, .int .i64 0, .int .i64 0] by rw [← hw_w4]; exact Blk.now _ _ _ _ rfl)
  clear k_w4
  have l1 : w.heap.size < w1.heap.size := by rw [← hw_w1]; simp
  have l2 : w1.heap.size < w2.heap.size := by rw [← hw_w2]; simp
  have l3 : w2.heap.size < w3.heap.size := by rw [← hw_w3]; simp
  have l4 : w3.heap.size < w4.heap.size := by rw [← hw_w4]; simp
  have n0 := BN.out.cell 0
  · skip
    have k1 : (d.kind == 1) = false := by simp [e]
    have k2 : (d.kind == 2) = false := by simp [e]
    have k3 : (d.kind == 3) = true := by simp [e]
    have k4 : (d.kind == 4) = false := by simp [e]
    have k5 : (d.kind == 5) = false := by simp [e]
    have k6 : (d.kind == 6) = false := by simp [e]
    have k8 : (d.kind == 8) = false := by simp [e]
    have k9 : (d.kind == 9) = false := by simp [e]
    have kl : decide (d.kind < 1) = false := by simp [e]
    have kg : decide (9 < d.kind) = false := by simp [e]
    have CN := Lib.hid (fun w => rdense25_any h v c d W nw cw B nb cb w i0 i1 i2 hout hnw hnb mw mb)
    obtain ⟨⟨⟨x1, x2, x3⟩, xe⟩, hx⟩ : ∃ x, denseV h v c d = x := ⟨_, rfl⟩
    have R := Lib.hid (show r = ((x1, x2, x3), xe) by rw [VV.out, ← hx]; simp [e])
    rw [hx] at CN
    simp only [retS] at CN
    clear VV hx e i0 i1 i2 hout hp hnw hnb mw mb
    go_enter Try.func21, Try.ntmps21
    go_wp2_with (first
      | (refine wpList_load_row rfl 24 (.tmp 4) rfl w1.heap.size rfl _ _ (0, 0) _ BA.out.heap Try.underlying24 rfl (by kernel_rfl) ?_)
      | (refine wpList_load_row rfl 53 (.tmp 3) rfl w.heap.size rfl _ _ (0, 0) _ BN.out.heap Try.underlying53 rfl (by kernel_rfl) ?_))
    clear hw_w1 hw_w2 hw_w3 hw_w4 n0
    refine (CN.out _).mono ?_
    rintro e w5 ⟨rfl, hb⟩
    replace FR := Lib.hid (FR.out.fut hb)
    replace BN := Lib.hid (BN.out.fut hb)
    replace BA := Lib.hid (BA.out.fut hb)
    replace BB := Lib.hid (BB.out.fut hb)
    replace BR := Lib.hid (BR.out.fut hb)
    clear hb
    go_wp2_with (first
      | (refine wpList_store_all rfl 24 (.tmp 6) (.tmp 31) rfl w3.heap.size #[.int .i64 x1, .int .i64 x2, .int .i64 x3] rfl rfl _ _ BR.out rfl (by kernel_rfl) (by simp [Value.oneCell']) ?_; intro w7 BR7 g7))
    refine ret_cell_tmp rfl BR7 rfl Try.underlying24 (by kernel_rfl) rfl ⟨by rw [R.out]; rfl, (FR.out.away g7 (by omega)).out⟩
end Go.Proofs.Ytlpejbopdmledaa
