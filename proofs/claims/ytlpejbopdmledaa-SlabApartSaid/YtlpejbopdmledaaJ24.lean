/-
  The shape that a node makes (layers 18, 25): kinds.around.
  Conditions: at most 2^20 weights.
  The shape that a node makes (layers 18, 25): kinds.plainShape.
  Conditions: at most 2^20 weights.
-/
import Derived.Test.YtlpejbopdmledaaChecked
import Derived.Test.YtlpejbopdmledaaJ06
import Derived.Test.YtlpejbopdmledaaJ10
import Derived.Test.YtlpejbopdmledaaJ21
namespace Go.Proofs.Ytlpejbopdmledaa
set_option linter.unusedVariables false
set_option linter.unusedSimpArgs false
open Go.RowKit Go.ChangeShapes Go.WideShapes
set_option maxRecDepth 100000


set_option maxHeartbeats 8000000 in
theorem around_any (h v c p : Int) (w : World) (hb : 1 ≤ h ∧ h ≤ 16 ∧ 1 ≤ v ∧ v ≤ 16 ∧ 1 ≤ c ∧ c ≤ 1024) (hp : InK .i64 p) :
    Calls Try.prog 67 #[.agg #[.int .i64 h, .int .i64 v, .int .i64 c], .int .i64 p] w fun e w' => e = retS (aroundV h v c p) ∧ Below w.heap.size w w' := by
  obtain ⟨r, hr⟩ : ∃ r, aroundV h v c p = r := ⟨_, rfl⟩
  rw [hr]
  unfold aroundV at hr
  have VV := Lib.hid hr.symm
  clear hr hp
  have FR := Lib.hid (Far.refl w)
  obtain ⟨w1, hw_w1⟩ : ∃ nw_, w.alloc (.cells #[.int .i64 h, .int .i64 v, .int .i64 c] 24) = nw_ := ⟨_, rfl⟩
  have k_w1 : Below w.heap.size w w1 := by rw [← hw_w1]; exact (Below.refl _ _).alloc (Nat.le_refl _) _
  replace FR := Lib.hid (FR.out.fut k_w1)
  have BA := Lib.hid (show Blk w1 w.heap.size 24 #[.int .i64 h, .int .i64 v, .int .i64 c] by rw [← hw_w1]; exact Blk.now _ _ _ _ rfl)
  clear k_w1
  obtain ⟨w2, hw_w2⟩ : ∃ nw_, w1.alloc (.cells #[.int .i64 0, .int .i64 0, .int .i64 0] 24) = nw_ := ⟨_, rfl⟩
  have k_w2 : Below w1.heap.size w1 w2 := by rw [← hw_w2]; exact (Below.refl _ _).alloc (Nat.le_refl _) _
  replace FR := Lib.hid (FR.out.fut k_w2)
  replace BA := Lib.hid (BA.out.fut k_w2)
  have BR := Lib.hid (show Blk w2 w1.heap.size 24 #[.int .i64 0, .int .i64 0, .int .i64 0] by rw [← hw_w2]; exact Blk.now _ _ _ _ rfl)
  clear k_w2
  have l1 : w.heap.size < w1.heap.size := by rw [← hw_w1]; simp
  have l2 : w1.heap.size < w2.heap.size := by rw [← hw_w2]; simp
  by_cases c1 : p < 0
  · have t1 : decide (p < 0) = true := decide_eq_true c1
    have R := Lib.hid (show r = noS 2 by rw [VV.out, if_pos (.inl c1)])
    clear c1 VV hb
    go_enter Try.func67, Try.ntmps67
    go_wp2_with (first
      | (refine wpList_store_all rfl 24 (.tmp 4) (.tmp 13) rfl w1.heap.size #[.int .i64 0, .int .i64 0, .int .i64 0] rfl rfl _ _ BR.out rfl (by kernel_rfl) (by simp [Value.oneCell']) ?_; intro w7 BR7 g7))
    refine ret_cell_tmp rfl BR7 rfl Try.underlying24 (by kernel_rfl) rfl ⟨by rw [R.out]; rfl, (FR.out.away g7 (by omega)).out⟩
  have t1 : decide (p < 0) = false := decide_eq_false c1
  have p1 : 0 ≤ p := by omega
  clear c1
  by_cases c1 : 4 < p
  · have t2 : decide (4 < p) = true := decide_eq_true c1
    have R := Lib.hid (show r = noS 2 by rw [VV.out, if_pos (.inr c1)])
    clear c1 VV hb
    go_enter Try.func67, Try.ntmps67
    go_wp2_with (first
      | (refine wpList_store_all rfl 24 (.tmp 4) (.tmp 13) rfl w1.heap.size #[.int .i64 0, .int .i64 0, .int .i64 0] rfl rfl _ _ BR.out rfl (by kernel_rfl) (by simp [Value.oneCell']) ?_; intro w7 BR7 g7))
    refine ret_cell_tmp rfl BR7 rfl Try.underlying24 (by kernel_rfl) rfl ⟨by rw [R.out]; rfl, (FR.out.away g7 (by omega)).out⟩
  have t2 : decide (4 < p) = false := decide_eq_false c1
  have p2 : p ≤ 4 := by omega
  clear c1
  have R1 := Lib.hid (fun w => shapeRight_any (h + 2 * p) c (v + 2 * p) w (by rw [inK_i64]; omega) (by rw [inK_i64]; omega) (by rw [inK_i64]; omega))
  have e1 : IntKind.i64.wrap (2 * p) = 2 * p := IntWalk.i64_in _ (by omega)
  have e2 : IntKind.i64.wrap (h + 2 * p) = h + 2 * p := IntWalk.i64_in _ (by omega)
  have e3 : IntKind.i64.wrap (v + 2 * p) = v + 2 * p := IntWalk.i64_in _ (by omega)
  have m0 := (elems_range (h + 2 * p) (v + 2 * p) c).1
  have V2 := Lib.hid (show r = (if elems (h + 2 * p) (v + 2 * p) c = 0 then noS 5 else ((h + 2 * p, v + 2 * p, c), 0)) by rw [VV.out, if_neg (by omega)])
  obtain ⟨m, hm⟩ : ∃ m, elems (h + 2 * p) (v + 2 * p) c = m := ⟨_, rfl⟩
  rw [hm] at V2 R1 m0
  clear VV hm hb p1 p2
  have a0 := BA.out.cell 0
  have a1 := BA.out.cell 1
  have a2 := BA.out.cell 2
  obtain ⟨w3, hw_w3⟩ : ∃ nw_, w2.alloc (.cells #[.int .i64 0, .int .i64 0, .int .i64 0] 24) = nw_ := ⟨_, rfl⟩
  have k_w3 : Below w2.heap.size w2 w3 := by rw [← hw_w3]; exact (Below.refl _ _).alloc (Nat.le_refl _) _
  replace FR := Lib.hid (FR.out.fut k_w3)
  replace BA := Lib.hid (BA.out.fut k_w3)
  replace BR := Lib.hid (BR.out.fut k_w3)
  have BT := Lib.hid (show Blk w3 w2.heap.size 24 #[.int .i64 0, .int .i64 0, .int .i64 0] by rw [← hw_w3]; exact Blk.now _ _ _ _ rfl)
  clear k_w3
  by_cases c3 : m = 0
  · have t3 : decide (0 < m) = false := by simp; omega
    have R := Lib.hid (show r = noS 5 by rw [V2.out, if_pos c3])
    clear V2 c3 m0
    go_enter Try.func67, Try.ntmps67
    go_wp2_with (first
      | (refine wpList_store_all rfl 24 (.tmp 6) (.tmp 26) rfl w2.heap.size #[.int .i64 (h + 2 * p), .int .i64 (v + 2 * p), .int .i64 c] rfl rfl _ _ BT.out rfl (by kernel_rfl) (by simp [Value.oneCell']) ?_; intro w6 BT6 g6; have BR6 := Lib.hid (BR.out.away g6 (by omega)); have FR6 := Lib.hid (FR.out.away g6 (by omega)))
      | (refine wpList_load_row rfl 24 (.tmp 6) rfl w2.heap.size rfl _ _ (0, 0) _ BT6.heap Try.underlying24 rfl (by kernel_rfl) ?_))
    clear hw_w1 hw_w2 hw_w3 a0 a1 a2
    refine (R1.out _).mono ?_
    rintro e w5 ⟨rfl, hb⟩
    have BT5 := Lib.hid (BT6.fut hb)
    replace BR6 := Lib.hid (BR6.out.fut hb)
    replace FR6 := Lib.hid (FR6.out.fut hb)
    clear hb
    go_wp2_with (first
      | (refine wpList_store_all rfl 24 (.tmp 4) (.tmp 30) rfl w1.heap.size #[.int .i64 0, .int .i64 0, .int .i64 0] rfl rfl _ _ BR6.out rfl (by kernel_rfl) (by simp [Value.oneCell']) ?_; intro w7 BR7 g7))
    refine ret_cell_tmp rfl BR7 rfl Try.underlying24 (by kernel_rfl) rfl ⟨by rw [R.out]; rfl, (FR6.out.away g7 (by omega)).out⟩
  have t3 : decide (0 < m) = true := by simp; omega
  have R := Lib.hid (show r = ((h + 2 * p, v + 2 * p, c), 0) by rw [V2.out, if_neg c3])
  clear V2 c3 m0
  go_enter Try.func67, Try.ntmps67
  go_wp2_with (first
    | (refine wpList_store_all rfl 24 (.tmp 6) (.tmp 26) rfl w2.heap.size #[.int .i64 (h + 2 * p), .int .i64 (v + 2 * p), .int .i64 c] rfl rfl _ _ BT.out rfl (by kernel_rfl) (by simp [Value.oneCell']) ?_; intro w6 BT6 g6; have BR6 := Lib.hid (BR.out.away g6 (by omega)); have FR6 := Lib.hid (FR.out.away g6 (by omega)))
    | (refine wpList_load_row rfl 24 (.tmp 6) rfl w2.heap.size rfl _ _ (0, 0) _ BT6.heap Try.underlying24 rfl (by kernel_rfl) ?_))
  clear hw_w1 hw_w2 hw_w3 a0 a1 a2
  refine (R1.out _).mono ?_
  rintro e w5 ⟨rfl, hb⟩
  have BT5 := Lib.hid (BT6.fut hb)
  replace BR6 := Lib.hid (BR6.out.fut hb)
  replace FR6 := Lib.hid (FR6.out.fut hb)
  clear hb
  go_wp2_with (first
    | (refine wpList_load_row rfl 24 (.tmp 6) rfl w2.heap.size rfl _ _ (0, 0) _ BT5.out.heap Try.underlying24 rfl (by kernel_rfl) ?_)
    | (refine wpList_store_all rfl 24 (.tmp 4) (.tmp 31) rfl w1.heap.size #[.int .i64 (h + 2 * p), .int .i64 (v + 2 * p), .int .i64 c] rfl rfl _ _ BR6.out rfl (by kernel_rfl) (by simp [Value.oneCell']) ?_; intro w7 BR7 g7))
  refine ret_cell_tmp rfl BR7 rfl Try.underlying24 (by kernel_rfl) rfl ⟨by rw [R.out]; rfl, (FR6.out.away g7 (by omega)).out⟩
end Go.Proofs.Ytlpejbopdmledaa
namespace Go.Proofs.Ytlpejbopdmledaa
set_option linter.unusedVariables false
set_option linter.unusedSimpArgs false
open Go.RowKit Go.ChangeShapes Go.WideShapes
set_option maxRecDepth 100000


set_option maxHeartbeats 8000000 in
theorem plainShape_any (h v c h2 v2 c2 : Int) (d : Node) (W : Option Addr) (nw cw : Nat) (B : Option Addr) (nb cb : Nat) (w : World) (i0 : InK .i64 h) (i1 : InK .i64 v) (i2 : InK .i64 c) (hout : InK .i64 d.out) (hp : InK .i64 d.p) (hnw : nw = d.w.length) (hnb : nb = d.bias.length) (mw : nw ≤ 1048576) (mb : nb ≤ 1048576) (hk : 6 ≤ d.kind ∧ d.kind ≤ 9) :
    Calls Try.prog 53 #[.agg #[.int .i64 d.kind, .int .i64 d.a, .int .i64 d.b, .int .i64 d.k, .int .i64 d.s, .int .i64 d.p, .int .i64 d.out, .int .i8 d.za, .int .i8 d.zb, .slice W nw cw, .slice B nb cb, .int .i32 d.qm, .int .i64 d.qs, .int .i8 d.qz, .int .i32 d.rm, .int .i64 d.rs, .int .i8 d.rz, .int .i8 d.lo, .int .i8 d.hi], .agg #[.int .i64 h, .int .i64 v, .int .i64 c], .agg #[.int .i64 h2, .int .i64 v2, .int .i64 c2]] w fun e w' => e = retS (plainV d.kind h v c h2 v2 c2 d.p) ∧ Below w.heap.size w w' := by
  obtain ⟨r, hr⟩ : ∃ r, plainV d.kind h v c h2 v2 c2 d.p = r := ⟨_, rfl⟩
  rw [hr]
  unfold plainV at hr
  have RI := Lib.hid (fun w => shapeRight_any h c v w i0 i1 i2)
  have RE := Lib.hid (fun w => elems_any h c v w i0 i1 i2)
  have EB := Lib.hid (elems_bd (h := h) (v := v) (c := c))
  have m0 := (elems_range h v c).1
  obtain ⟨m, hm⟩ : ∃ m, elems h v c = m := ⟨_, rfl⟩
  obtain ⟨eq, he⟩ : ∃ x, ([h, v, c] == [h2, v2, c2]) = x := ⟨_, rfl⟩
  have QE := Lib.hid (fun w => eq_shape w h v c h2 v2 c2)
  rw [hm, he] at hr
  rw [hm] at RI RE EB m0
  rw [he] at QE
  have VV := Lib.hid hr.symm
  clear hr hm he i0 i1 i2 hout hnw hnb mw mb
  have FR := Lib.hid (Far.refl w)
  obtain ⟨w1, hw_w1⟩ : ∃ nw_, w.alloc (.cells #[.int .i64 d.kind, .int .i64 d.a, .int .i64 d.b, .int .i64 d.k, .int .i64 d.s, .int .i64 d.p, .int .i64 d.out, .int .i8 d.za, .int .i8 d.zb, .slice W nw cw, .slice B nb cb, .int .i32 d.qm, .int .i64 d.qs, .int .i8 d.qz, .int .i32 d.rm, .int .i64 d.rs, .int .i8 d.rz, .int .i8 d.lo, .int .i8 d.hi] 53) = nw_ := ⟨_, rfl⟩
  have k_w1 : Below w.heap.size w w1 := by rw [← hw_w1]; exact (Below.refl _ _).alloc (Nat.le_refl _) _
  replace FR := Lib.hid (FR.out.fut k_w1)
  have BN := Lib.hid (show Blk w1 w.heap.size 53 #[.int .i64 d.kind, .int .i64 d.a, .int .i64 d.b, .int .i64 d.k, .int .i64 d.s, .int .i64 d.p, .int .i64 d.out, .int .i8 d.za, .int .i8 d.zb, .slice W nw cw, .slice B nb cb, .int .i32 d.qm, .int .i64 d.qs, .int .i8 d.qz, .int .i32 d.rm, .int .i64 d.rs, .int .i8 d.rz, .int .i8 d.lo, .int .i8 d.hi] by rw [← hw_w1]; exact Blk.now _ _ _ _ rfl)
  clear k_w1
  obtain ⟨w2, hw_w2⟩ : ∃ nw_, w1.alloc (.cells #[.int .i64 h, .int .i64 v, .int .i64 c] 24) = nw_ := ⟨_, rfl⟩
  have k_w2 : Below w1.heap.size w1 w2 := by rw [← hw_w2]; exact (Below.refl _ _).alloc (Nat.le_refl _) _
  replace FR := Lib.hid (FR.out.fut k_w2)
  replace BN := Lib.hid (BN.out.fut k_w2)
  have BA := Lib.hid (show Blk w2 w1.heap.size 24 #[.int .i64 h, .int .i64 v, .int .i64 c] by rw [← hw_w2]; exact Blk.now _ _ _ _ rfl)
  clear k_w2
  obtain ⟨w3, hw_w3⟩ : ∃ nw_, w2.alloc (.cells #[.int .i64 h2, .int .i64 v2, .int .i64 c2] 24) = nw_ := ⟨_, rfl⟩
  have k_w3 : Below w2.heap.size w2 w3 := by rw [← hw_w3]; exact (Below.refl _ _).alloc (Nat.le_refl _) _
  replace FR := Lib.hid (FR.out.fut k_w3)
  replace BN := Lib.hid (BN.out.fut k_w3)
  replace BA := Lib.hid (BA.out.fut k_w3)
  have BB := Lib.hid (show Blk w3 w2.heap.size 24 #[.int .i64 h2, .int .i64 v2, .int .i64 c2] by rw [← hw_w3]; exact Blk.now _ _ _ _ rfl)
  clear k_w3
  obtain ⟨w4, hw_w4⟩ : ∃ nw_, w3.alloc (.cells #[.int .i64 0, .int .i64 0, .int .i64 0] 24) = nw_ := ⟨_, rfl⟩
  have k_w4 : Below w3.heap.size w3 w4 := by rw [← hw_w4]; exact (Below.refl _ _).alloc (Nat.le_refl _) _
  replace FR := Lib.hid (FR.out.fut k_w4)
  replace BN := Lib.hid (BN.out.fut k_w4)
  replace BA := Lib.hid (BA.out.fut k_w4)
  replace BB := Lib.hid (BB.out.fut k_w4)
  have BR := Lib.hid (show Blk w4 w3.heap.size 24 #[.int .i64 0, .int .i64 0, .int .i64 0] by rw [← hw_w4]; exact Blk.now _ _ _ _ rfl)
  clear k_w4
  have l1 : w.heap.size < w1.heap.size := by rw [← hw_w1]; simp
  have l2 : w1.heap.size < w2.heap.size := by rw [← hw_w2]; simp
  have l3 : w2.heap.size < w3.heap.size := by rw [← hw_w3]; simp
  have l4 : w3.heap.size < w4.heap.size := by rw [← hw_w4]; simp
  by_cases c1 : m = 0
  · have t1 : decide (0 < m) = false := by simp; omega
    have R := Lib.hid (show r = noS 5 by rw [VV.out, if_pos c1])
    clear c1 VV m0 hk hp EB
    go_enter Try.func53, Try.ntmps53
    go_wp2_with (first
      | (refine wpList_load_row rfl 24 (.tmp 4) rfl w1.heap.size rfl _ _ (0, 0) _ BA.out.heap Try.underlying24 rfl (by kernel_rfl) ?_))
    clear hw_w1 hw_w2 hw_w3 hw_w4
    refine (RI.out _).mono ?_
    rintro e w5 ⟨rfl, hb⟩
    replace FR := Lib.hid (FR.out.fut hb)
    replace BN := Lib.hid (BN.out.fut hb)
    replace BA := Lib.hid (BA.out.fut hb)
    replace BB := Lib.hid (BB.out.fut hb)
    replace BR := Lib.hid (BR.out.fut hb)
    clear hb
    go_wp2_with (first
      | (refine wpList_store_all rfl 24 (.tmp 6) (.tmp 11) rfl w3.heap.size #[.int .i64 0, .int .i64 0, .int .i64 0] rfl rfl _ _ BR.out rfl (by kernel_rfl) (by simp [Value.oneCell']) ?_; intro w7 BR7 g7))
    refine ret_cell_tmp rfl BR7 rfl Try.underlying24 (by kernel_rfl) rfl ⟨by rw [R.out]; rfl, (FR.out.away g7 (by omega)).out⟩
  have t1 : decide (0 < m) = true := by simp; omega
  have V2 := Lib.hid (show r = (if d.kind = 6 ∧ eq = false then noS 5 else if d.kind = 8 then aroundV h v c d.p else if d.kind = 9 then ((1, 1, m), 0) else ((h, v, c), 0)) by rw [VV.out, if_neg c1])
  have AR := Lib.hid (fun w => around_any h v c d.p w (EB.out c1) hp)
  clear VV c1 m0 hp EB
  rcases (show d.kind = 6 ∨ d.kind = 7 ∨ d.kind = 8 ∨ d.kind = 9 by omega) with e | e | e | e
  · clear hk
    have k6 : (d.kind == 6) = true := by simp [e]
    have k8 : (d.kind == 8) = false := by simp [e]
    have k9 : (d.kind == 9) = false := by simp [e]
    cases eq
    case false =>
      have R := Lib.hid (show r = noS 5 by rw [V2.out]; simp [e])
      clear V2 e AR RE
      go_enter Try.func53, Try.ntmps53
      go_wp2_with (first
        | (refine wpList_load_row rfl 24 (.tmp 4) rfl w1.heap.size rfl _ _ (0, 0) _ BA.out.heap Try.underlying24 rfl (by kernel_rfl) ?_))
      clear hw_w1 hw_w2 hw_w3 hw_w4
      refine (RI.out _).mono ?_
      rintro e w5 ⟨rfl, hb⟩
      replace FR := Lib.hid (FR.out.fut hb)
      replace BN := Lib.hid (BN.out.fut hb)
      replace BA := Lib.hid (BA.out.fut hb)
      replace BB := Lib.hid (BB.out.fut hb)
      replace BR := Lib.hid (BR.out.fut hb)
      clear hb
      have n0 := BN.out.cell 0
      go_wp2_with (first
        | (refine wpList_load_row rfl 24 (.tmp 4) rfl w1.heap.size rfl _ _ (0, 0) _ BA.out.heap Try.underlying24 rfl (by kernel_rfl) ?_)
        | (refine wpList_load_row rfl 24 (.tmp 5) rfl w2.heap.size rfl _ _ (0, 0) _ BB.out.heap Try.underlying24 rfl (by kernel_rfl) ?_)
        | (refine wpList_neq_agg 24 _ (.tmp 16) (.tmp 17) rfl _ _ rfl rfl (by rfl) (by kernel_rfl) _ (QE.out _) ?_; try simp only [Bool.not_true, Bool.not_false])
        | (refine wpList_store_all rfl 24 (.tmp 6) (.tmp 19) rfl w3.heap.size #[.int .i64 0, .int .i64 0, .int .i64 0] rfl rfl _ _ BR.out rfl (by kernel_rfl) (by simp [Value.oneCell']) ?_; intro w7 BR7 g7))
      refine ret_cell_tmp rfl BR7 rfl Try.underlying24 (by kernel_rfl) rfl ⟨by rw [R.out]; rfl, (FR.out.away g7 (by omega)).out⟩
    case true =>
      have R := Lib.hid (show r = ((h, v, c), 0) by rw [V2.out]; simp [e])
      clear V2 e AR RE
      go_enter Try.func53, Try.ntmps53
      go_wp2_with (first
        | (refine wpList_load_row rfl 24 (.tmp 4) rfl w1.heap.size rfl _ _ (0, 0) _ BA.out.heap Try.underlying24 rfl (by kernel_rfl) ?_))
      clear hw_w1 hw_w2 hw_w3 hw_w4
      refine (RI.out _).mono ?_
      rintro e w5 ⟨rfl, hb⟩
      replace FR := Lib.hid (FR.out.fut hb)
      replace BN := Lib.hid (BN.out.fut hb)
      replace BA := Lib.hid (BA.out.fut hb)
      replace BB := Lib.hid (BB.out.fut hb)
      replace BR := Lib.hid (BR.out.fut hb)
      clear hb
      have n0 := BN.out.cell 0
      go_wp2_with (first
        | (refine wpList_load_row rfl 24 (.tmp 4) rfl w1.heap.size rfl _ _ (0, 0) _ BA.out.heap Try.underlying24 rfl (by kernel_rfl) ?_)
        | (refine wpList_load_row rfl 24 (.tmp 5) rfl w2.heap.size rfl _ _ (0, 0) _ BB.out.heap Try.underlying24 rfl (by kernel_rfl) ?_)
        | (refine wpList_neq_agg 24 _ (.tmp 16) (.tmp 17) rfl _ _ rfl rfl (by rfl) (by kernel_rfl) _ (QE.out _) ?_; try simp only [Bool.not_true, Bool.not_false])
        | (refine wpList_store_all rfl 24 (.tmp 6) (.tmp 33) rfl w3.heap.size #[.int .i64 h, .int .i64 v, .int .i64 c] rfl rfl _ _ BR.out rfl (by kernel_rfl) (by simp [Value.oneCell']) ?_; intro w7 BR7 g7))
      refine ret_cell_tmp rfl BR7 rfl Try.underlying24 (by kernel_rfl) rfl ⟨by rw [R.out]; rfl, (FR.out.away g7 (by omega)).out⟩
  · clear hk
    have k6 : (d.kind == 6) = false := by simp [e]
    have k8 : (d.kind == 8) = false := by simp [e]
    have k9 : (d.kind == 9) = false := by simp [e]
    have R := Lib.hid (show r = ((h, v, c), 0) by rw [V2.out]; simp [e])
    clear V2 e AR RE QE
    go_enter Try.func53, Try.ntmps53
    go_wp2_with (first
      | (refine wpList_load_row rfl 24 (.tmp 4) rfl w1.heap.size rfl _ _ (0, 0) _ BA.out.heap Try.underlying24 rfl (by kernel_rfl) ?_))
    clear hw_w1 hw_w2 hw_w3 hw_w4
    refine (RI.out _).mono ?_
    rintro e w5 ⟨rfl, hb⟩
    replace FR := Lib.hid (FR.out.fut hb)
    replace BN := Lib.hid (BN.out.fut hb)
    replace BA := Lib.hid (BA.out.fut hb)
    replace BB := Lib.hid (BB.out.fut hb)
    replace BR := Lib.hid (BR.out.fut hb)
    clear hb
    have n0 := BN.out.cell 0
    go_wp2_with (first
      | (refine wpList_load_row rfl 24 (.tmp 4) rfl w1.heap.size rfl _ _ (0, 0) _ BA.out.heap Try.underlying24 rfl (by kernel_rfl) ?_)
      | (refine wpList_store_all rfl 24 (.tmp 6) (.tmp 33) rfl w3.heap.size #[.int .i64 h, .int .i64 v, .int .i64 c] rfl rfl _ _ BR.out rfl (by kernel_rfl) (by simp [Value.oneCell']) ?_; intro w7 BR7 g7))
    refine ret_cell_tmp rfl BR7 rfl Try.underlying24 (by kernel_rfl) rfl ⟨by rw [R.out]; rfl, (FR.out.away g7 (by omega)).out⟩
  · clear hk
    have k6 : (d.kind == 6) = false := by simp [e]
    have k8 : (d.kind == 8) = true := by simp [e]
    have k9 : (d.kind == 9) = false := by simp [e]
    obtain ⟨⟨⟨x1, x2, x3⟩, xe⟩, hx⟩ : ∃ x, aroundV h v c d.p = x := ⟨_, rfl⟩
    rw [hx] at V2 AR
    simp only [retS] at AR
    have R := Lib.hid (show r = ((x1, x2, x3), xe) by rw [V2.out]; simp [e])
    clear V2 e RE QE hx
    go_enter Try.func53, Try.ntmps53
    go_wp2_with (first
      | (refine wpList_load_row rfl 24 (.tmp 4) rfl w1.heap.size rfl _ _ (0, 0) _ BA.out.heap Try.underlying24 rfl (by kernel_rfl) ?_))
    clear hw_w1 hw_w2 hw_w3 hw_w4
    refine (RI.out _).mono ?_
    rintro e w5 ⟨rfl, hb⟩
    replace FR := Lib.hid (FR.out.fut hb)
    replace BN := Lib.hid (BN.out.fut hb)
    replace BA := Lib.hid (BA.out.fut hb)
    replace BB := Lib.hid (BB.out.fut hb)
    replace BR := Lib.hid (BR.out.fut hb)
    clear hb
    have n0 := BN.out.cell 0
    have n5 := BN.out.cell 5
    go_wp2_with (first
      | (refine wpList_load_row rfl 24 (.tmp 4) rfl w1.heap.size rfl _ _ (0, 0) _ BA.out.heap Try.underlying24 rfl (by kernel_rfl) ?_))
    clear n0 n5
    refine (AR.out _).mono ?_
    rintro e w6 ⟨rfl, hb⟩
    replace FR := Lib.hid (FR.out.fut hb)
    replace BN := Lib.hid (BN.out.fut hb)
    replace BA := Lib.hid (BA.out.fut hb)
    replace BB := Lib.hid (BB.out.fut hb)
    replace BR := Lib.hid (BR.out.fut hb)
    clear hb
    go_wp2_with (first
      | (refine wpList_store_all rfl 24 (.tmp 6) (.tmp 26) rfl w3.heap.size #[.int .i64 x1, .int .i64 x2, .int .i64 x3] rfl rfl _ _ BR.out rfl (by kernel_rfl) (by simp [Value.oneCell']) ?_; intro w7 BR7 g7))
    refine ret_cell_tmp rfl BR7 rfl Try.underlying24 (by kernel_rfl) rfl ⟨by rw [R.out]; rfl, (FR.out.away g7 (by omega)).out⟩
  · clear hk
    have k6 : (d.kind == 6) = false := by simp [e]
    have k8 : (d.kind == 8) = false := by simp [e]
    have k9 : (d.kind == 9) = true := by simp [e]
    have R := Lib.hid (show r = ((1, 1, m), 0) by rw [V2.out]; simp [e])
    clear V2 e AR QE
    go_enter Try.func53, Try.ntmps53
    go_wp2_with (first
      | (refine wpList_load_row rfl 24 (.tmp 4) rfl w1.heap.size rfl _ _ (0, 0) _ BA.out.heap Try.underlying24 rfl (by kernel_rfl) ?_))
    clear hw_w1 hw_w2 hw_w3 hw_w4
    refine (RI.out _).mono ?_
    rintro e w5 ⟨rfl, hb⟩
    replace FR := Lib.hid (FR.out.fut hb)
    replace BN := Lib.hid (BN.out.fut hb)
    replace BA := Lib.hid (BA.out.fut hb)
    replace BB := Lib.hid (BB.out.fut hb)
    replace BR := Lib.hid (BR.out.fut hb)
    clear hb
    have n0 := BN.out.cell 0
    go_wp2_with (first
      | (refine wpList_load_row rfl 24 (.tmp 4) rfl w1.heap.size rfl _ _ (0, 0) _ BA.out.heap Try.underlying24 rfl (by kernel_rfl) ?_))
    clear n0
    refine (RE.out _).mono ?_
    rintro e w6 ⟨rfl, hb⟩
    replace FR := Lib.hid (FR.out.fut hb)
    replace BN := Lib.hid (BN.out.fut hb)
    replace BA := Lib.hid (BA.out.fut hb)
    replace BB := Lib.hid (BB.out.fut hb)
    replace BR := Lib.hid (BR.out.fut hb)
    clear hb
    go_wp2_with (first
      | (refine wpList_store_all rfl 24 (.tmp 6) (.tmp 32) rfl w3.heap.size #[.int .i64 1, .int .i64 1, .int .i64 m] rfl rfl _ _ BR.out rfl (by kernel_rfl) (by simp [Value.oneCell']) ?_; intro w7 BR7 g7))
    refine ret_cell_tmp rfl BR7 rfl Try.underlying24 (by kernel_rfl) rfl ⟨by rw [R.out]; rfl, (FR.out.away g7 (by omega)).out⟩
end Go.Proofs.Ytlpejbopdmledaa
