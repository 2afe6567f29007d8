/-
  The shape that a node makes (layers 18, 25): kinds.around.
  Conditions: at most 2^20 weights.
-/
import Derived.Test.YtlpejbopdmledaaChecked
import Derived.Test.YtlpejbopdmledaaJ06
import Derived.Test.YtlpejbopdmledaaJ10
import Derived.Test.YtlpejbopdmledaaJ21
namespace Go.Proofs.Ytlpejbopdmledaa
set_option linter.unusedVariables false
set_option linter.unusedSimpArgs false
open Go.RowKit Go.ChangeShapes Go.WideShapes
set_option maxRecDepth 100000


set_option maxHeartbeats 8000000 in
theorem around_any (h v c p : Int) (w : World) (hb : 1 ≤ h ∧ h ≤ 16 ∧ 1 ≤ v ∧ v ≤ 16 ∧ 1 ≤ c ∧ c ≤ 1024) (hp : InK .i64 p) :
    Calls Try.prog 67 #[.agg #[.int .i64 h, .int .i64 v, .int .i64 c], .int .i64 p] w fun e w' => e = retS (aroundV h v c p) ∧ Below w.heap.size w w' := by
  obtain ⟨r, hr⟩ : ∃ r, aroundV h v c p = r := ⟨_, rfl⟩
  rw [hr]
  unfold aroundV at hr
  have VV := Lib.hid hr.symm
  clear hr hp
  have FR := Lib.hid (Far.refl w)
  obtain ⟨w1, hw_w1⟩ : ∃ nw_, w.alloc (.cells #[.int .i64 h, .int .i64 v, .int .i64 c] 24) = nw_ := ⟨_, rfl⟩
  have k_w1 : Below w.heap.size w w1 := by rw [← hw_w1]; exact (Below.refl _ _).alloc (Nat.le_refl _) _
  replace FR := Lib.hid (FR.out.fut k_w1)
  have BA := Lib.hid (show Blk w1 w.heap.size 24 #[.int .i64 h, .int .i64 v, .int .i64 c] by rw [← hw_w1]; exact Blk.now _ _ _ _ rfl)
  clear k_w1
  obtain ⟨w2, hw_w2⟩ : ∃ nw_, w1.alloc (.cells #[.int .i64 0, .int .i64 0, .int .i64 0] 24) = nw_ := ⟨_, rfl⟩
  have k_w2 : Below w1.heap.size w1 w2 := by rw [← hw_w2]; exact (Below.refl _ _).alloc (Nat.le_refl _) _
  replace FR := Lib.hid (FR.out.fut k_w2)
  replace BA := Lib.hid (BA.out.fut k_w2)
  have BR := Lib.hid (show Blk w2 w1.heap.size 24 #[.int .i64 0, .int .i64 0, .int .i64 0] by rw [← hw_w2]; exact Blk.now _ _ _ _ rfl)
  clear k_w2
  have l1 : w.heap.size < w1.heap.size := by rw [← hw_w1]; simp
  have l2 : w1.heap.size < w2.heap.size := by rw [← hw_w2]; simp
  by_cases c1 : p < 0
  · have t1 : decide (p < 0) = true := decide_eq_true c1
    have R := Lib.hid (show r = noS 2 by rw [VV.out, if_pos (.inl c1)])
    clear c1 VV hb
    go_enter Try.func67, Try.ntmps67
    go_wp2_with (first
      | (refine wpList_store_all rfl 24 (.tmp 4) (.tmp 13) rfl w1.heap.size #[.int .i64 0, .int .i64 0, .int .i64 0] rfl rfl _ _ BR.out rfl (by kernel_rfl) (by simp [Value.oneCell']) ?_; intro w7 BR7 g7))
    refine ret_cell_tmp rfl BR7 rfl Try.underlying24 (by kernel_rfl) rfl ⟨by rw [R.out]; rfl, (FR.out.away g7 (by omega)).out⟩
  have t1 : decide (p < 0) = false := decide_eq_false c1
  have p1 : 0 ≤ p := by omega
  clear c1
  by_cases c1 : 4 < p
  · have t2 : decide (4 < p) = true := decide_eq_true c1
    have R := Lib.hid (show r = noS 2 by rw [VV.out, if_pos (.inr c1)])
    clear c1 VV hb
    go_enter Try.func67, Try.ntmps67
    go_wp2_with (first
      | (refine wpList_store_all rfl 24 (.tmp 4) (.tmp 13) rfl w1.heap.size #[.int .i64 0, .int .i64 0, .int .i64 0] rfl rfl _ _ BR.out rfl (by kernel_rfl) (by simp [Value.oneCell']) ?_; intro w7 BR7 g7))
    refine ret_cell_tmp rfl BR7 rfl Try.underlying24 (by kernel_rfl) rfl ⟨by rw [R.out]; rfl, (FR.out.away g7 (by omega)).out⟩
  have t2 : decide (4 < p) = false := decide_eq_false c1
  have p2 : p ≤ 4 := by omega
  clear c1
  have R1 := Lib.hid (fun w => shapeRight_any (h + 2 * p) c (v + 2 * p) w (by rw [inK_i64]; omega) (by rw [inK_i64]; omega) (by rw [inK_i64]; omega))
  have e1 : IntKind.i64.wrap (2 * p) = 2 * p := IntWalk.i64_in _ (by omega)
  have e2 : IntKind.i64.wrap (h + 2 * p) = h + 2 * p := IntWalk.i64_in _ (by omega)
  have e3 : IntKind.i64.wrap (v + 2 * p) = v + 2 * p := IntWalk.i64_in _ (by omega)
  have m0 := (elems_range (h + 2 * p) (v + 2 * p) c).1
  have V2 := Lib.hid (show r = (if elems (h + 2 * p) (v + 2 * p) c = 0 then noS 5 else ((h + 2 * p, v + 2 * p, c), 0)) by rw [VV.out, if_neg (by omega)])
  obtain ⟨m, hm⟩ : ∃ m, elems (h + 2 * p) (v + 2 * p) c = m := ⟨_, rfl⟩
  rw [hm] at V2 R1 m0
  clear VV hm hb p1 p2
  have a0 := BA.out.cell 0
  have a1 := BA.out.cell 1
  have a2 := BA.out.cell 2
  obtain ⟨w3, hw_w3⟩ : ∃ nw_, w2.alloc (.cells #[.int .i64 0, .int .i64 0, .int .i64 0] 24) = nw_ := ⟨_, rfl⟩
  have k_w3 : Below w2.heap.size w2 w3 := by rw [← hw_w3]; exact (Below.refl _ _).alloc (Nat.le_refl _) _
  replace FR := Lib.hid (FR.out.fut k_w3)
  replace BA := Lib.hid (BA.out.fut k_w3)
  replace BR := Lib.hid (BR.out.fut k_w3)
  have BT := Lib.hid (show Blk w3 w2.heap.size 24 #[.int .i64 0, .int .i64 0, .int .i64 0] by rw [← hw_w3]; exact Blk.now _ _ _ _ rfl)
  clear k_w3
  by_cases c3 : m = 0
  · have t3 : decide (0 < m) = false := by simp; omega
    have R := Lib.hid (show r = noS 5 by rw [V2.out, if_pos c3])
    clear V2 c3 m0
    go_enter Try.func67, Try.ntmps67
    go_wp2_with (first
      | (refine wpList_store_all rfl 24 (.tmp 6) (.tmp 26) rfl w2.heap.size #[.int .i64 (h + 2 * p), .int .i64 (v + 2 * p), .int .i64 c] rfl rfl _ _ BT.out rfl (by kernel_rfl) (by simp [Value.oneCell']) ?_; intro w6 BT6 g6; have BR6 := Lib.hid (BR.out.away g6 (by omega)); have FR6 := Lib.hid (FR.out.away g6 (by omega)))
      | (refine wpList_load_row rfl 24 (.tmp 6) rfl w2.heap.size rfl _ _ (0, 0) _ BT6.heap Try.underlying24 rfl (by kernel_rfl) ?_))
    clear hw_w1 hw_w2 hw_w3 a0 a1 a2
    refine (R1.out _).mono ?_
    rintro e w5 ⟨rfl, hb⟩
    have BT5 := Lib.hid (BT6.fut hb)
    replace BR6 := Lib.hid (BR6.out.fut hb)
    replace FR6 := Lib.hid (FR6.out.fut hb)
    clear hb
    go_wp2_with (first
      | (refine wpList_store_all rfl 24 (.tmp 4) (.tmp 30) rfl w1.heap.size #[.int .i64 0, .int .i64 0, .int .i64 0] rfl rfl _ _ BR6.out rfl (by kernel_rfl) (by simp [Value.oneCell']) ?_; intro w7 BR7 g7))
    refine ret_cell_tmp rfl BR7 rfl Try.underlying24 (by kernel_rfl) rfl ⟨by rw [R.out]; rfl, (FR6.out.away g7 (by omega)).out⟩
  have t3 : decide (0 < m) = true := by simp; omega
  have R := Lib.hid (show r = ((h + 2 * p, v + 2 * p, c), 0) by rw [V2.out, if_neg c3])
  clear V2 c3 m0
  go_enter Try.func67, Try.ntmps67
  go_wp2_with (first
    | (refine wpList_store_all rfl 24 (.tmp 6) (.tmp 26) rfl w2.heap.size #[.int .i64 (h + 2 * p), .int .i64 (v + 2 * p), .int .i64 c] rfl rfl _ _ BT.out rfl (by kernel_rfl) (by simp [Value.oneCell']) ?_; intro w6 BT6 g6; have BR6 := Lib.hid (BR.out.away g6 (by omega)); have FR6 := Lib.hid (FR.out.away g6 (by omega)))
    | (refine wpList_load_row rfl 24 (.tmp 6) rfl w2.heap.size rfl _ _ (0, 0) _ BT6.heap Try.underlying24 rfl (by kernel_rfl) ?_))
  clear hw_w1 hw_w2 hw_w3 a0 a1 a2
  refine (R1.out _).mono ?_
  rintro e w5 ⟨rfl, hb⟩
  have BT5 := Lib.hid (BT6.fut hb)
  replace BR6 := Lib.hid (BR6.out.fut hb)
  replace FR6 := Lib.hid (FR6.out.fut hb)
  clear hb
  go_wp2_with (first
    | (refine wpList_load_row rfl 24 (.tmp 6) rfl w2.heap.size rfl _ _ (0, 0) _ BT5.out.heap Try.underlying24 rfl (by kernel_rfl) ?_)
    | (refine wpList_store_all rfl 24 (.tmp 4) (.tmp 31) rfl w1.heap.size #[.int .i64 (h + 2 * p), .int .i64 (v + 2 * p), .int .i64 c] rfl rfl _ _ BR6.out rfl (by kernel_rfl) (by simp [Value.oneCell']) ?_; intro w7 BR7 g7))
  refine ret_cell_tmp rfl BR7 rfl Try.underlying24 (by kernel_rfl) rfl ⟨by rw [R.out]; rfl, (FR6.out.away g7 (by omega)).out⟩
end Go.Proofs.Ytlpejbopdmledaa
