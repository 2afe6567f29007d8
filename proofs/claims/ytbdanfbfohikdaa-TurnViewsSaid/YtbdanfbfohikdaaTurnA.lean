/-
  Places about the middle as complex numbers (layer 23): middle, place, a quarter, turned over.
  Conditions: at most 16 rows and columns.
-/
import Derived.Test.YtbdanfbfohikdaaChecked
import Derived.Test.YtbdanfbfohikdaaFlt
import Derived.Test.YtbdanfbfohikdaaTurnP
import Derived.Test.YtbdanfbfohikdaaNode
import Derived.Test.YtbdanfbfohikdaaFut
import Derived.Test.YtbdanfbfohikdaaExt
namespace Go.Proofs.Ytbdanfbfohikdaa
set_option linter.unusedVariables false
set_option linter.unusedSimpArgs false
open Go.RowKit Go.ChangeShapes Go.WideShapes
set_option maxRecDepth 100000
set_option maxHeartbeats 2000000

theorem wpQuiet_conv {P : Program} {ops : Array Oper} {C : World → Prop} {Q : Act → Prop} {a : Act} {o : Oper} {rest : List Oper} (hw : Region.wanted o (yielded ops a.tmps) = true) (src dst : TypeId) (x : Operand) (ho : o.op = .convert src dst x)
    (v u : Value) (hx : a.eval x = v) (hrun : ∀ w, (convert src dst v).run P w = .ok u w) (h : wpQuiet P ops C Q rest (a.put o.dst u)) : wpQuiet P ops C Q (o :: rest) a :=
  BigFrame.wpQuiet_want hw fun K hK => ⟨u, fun w hw' => by
    unfold Oper.quietAt execOp
    simp only [ho, hx, hrun, Sem.run_bind, Sem.run_pure, Result.andThen_ok]
    exact ⟨rfl, rfl⟩, hK _ h⟩

theorem fl_m1 : fl (-1) = 13830554455654793216 := by kernel_rfl
theorem fl_eq (n : Int) : floatOfInt .f64 n = fl n := rfl

/-- One quarter to the right, on the bits. -/
def rightV (x : Nat × Nat) : Nat × Nat := (cMulBits x.1 x.2 0 (fl (-1))).getD (0, 0)
def rightN (x : Nat × Nat) : Nat → Nat × Nat
  | 0 => x
  | k + 1 => rightV (rightN x k)
/-- The same on whole numbers. -/
def turnN (x : Int × Int) : Nat → Int × Int
  | 0 => x
  | k + 1 => ((turnN x k).2, -(turnN x k).1)
theorem rightN_fl {a b : Nat} {m n : Int} (ha : Fl a m) (hb : Fl b n) (k : Nat) : Fl (rightN (a, b) k).1 (turnN (m, n) k).1 ∧ Fl (rightN (a, b) k).2 (turnN (m, n) k).2 := by
  induction k with
  | zero => exact ⟨ha, hb⟩
  | succ k ih =>
    obtain ⟨re, im, h, h1, h2⟩ := Fl.quarter ih.1 ih.2
    have : rightN (a, b) (k + 1) = (re, im) := by
      show rightV (rightN (a, b) k) = _
      unfold rightV
      rw [h]; rfl
    rw [this]
    exact ⟨h1, h2⟩
theorem rightN_mul {a b : Nat} {m n : Int} (ha : Fl a m) (hb : Fl b n) (k : Nat) : cMulBits (rightN (a, b) k).1 (rightN (a, b) k).2 0 (fl (-1)) = some ((rightN (a, b) (k + 1)).1, (rightN (a, b) (k + 1)).2) := by
  have ih := rightN_fl ha hb k
  obtain ⟨re, im, h, h1, h2⟩ := Fl.quarter ih.1 ih.2
  rw [h]
  show _ = some ((rightV (rightN (a, b) k)).1, (rightV (rightN (a, b) k)).2)
  unfold rightV
  rw [h]; rfl

theorem middle_any (H W C i j : Int) (w : World) (h1 : 1 ≤ H ∧ H ≤ 16) (h2 : 1 ≤ W ∧ W ≤ 16) (hi : 0 ≤ i ∧ i ≤ 16) (hj : 0 ≤ j ∧ j ≤ 16) :
    Calls Try.prog 25 #[.agg #[.int .i64 H, .int .i64 W, .int .i64 C], .int .i64 i, .int .i64 j] w fun e w' => e = .returned (.complex .f64 (fl (2 * j - (W - 1))) (fl (H - 1 - 2 * i))) ∧ Below w.heap.size w w' := by
  have FR := Lib.hid (Far.refl w)
  obtain ⟨w1, hw_w1⟩ : ∃ nw_, w.alloc (.cells #[.int .i64 H, .int .i64 W, .int .i64 C] 23) = nw_ := ⟨_, rfl⟩
  have k_w1 : Below w.heap.size w w1 := by rw [← hw_w1]; exact (Below.refl _ _).alloc (Nat.le_refl _) _
  replace FR := Lib.hid (FR.out.fut k_w1)
  have BA := Lib.hid (show Blk w1 w.heap.size 23 #[.int .i64 H, .int .i64 W, .int .i64 C] by rw [← hw_w1]; exact Blk.now _ _ _ _ rfl)
  clear k_w1
  have c0 := BA.out.cell 0
  have c1 := BA.out.cell 1
  obtain ⟨a1, a2⟩ := h1
  obtain ⟨a3, a4⟩ := h2
  obtain ⟨a5, a6⟩ := hi
  obtain ⟨a7, a8⟩ := hj
  go_enter Try.func25, Try.ntmps25
  go_wp2_with fail
  go_ret
  exact ⟨rfl, FR.out.out⟩

theorem by1_any (a b n : Nat) (m q : Int) (p : Addr) (w : World) (ha : Fl a m) (hb : Fl b q) (hc : w.cell? p = some (.int .i64 n)) (hn : n ≤ 3) :
    Calls Try.prog 18 #[.complex .f64 a b, .pointer (some p)] w fun e w' => e = .returned (.complex .f64 (rightN (a, b) n).1 (rightN (a, b) n).2) ∧ w' = w := by
  have MU := Lib.hid (fun k t w => run_complex_mul (P := Try.prog) w t _ _ _ _ _ _ (rightN_mul ha hb k))
  rw [fl_m1] at MU
  go_enter Try.func18, Try.ntmps18
  go_wp2_with fail
  go_loopw [0, 5] (fun x i wr => ∃ k : Nat, k ≤ n ∧ i = .int .i64 k ∧ x = .complex .f64 (rightN (a, b) k).1 (rightN (a, b) k).2 ∧ wr = w) (fun _ i _ => n - (intOf i).toNat)
  case atStart => exact ⟨0, Nat.zero_le _, rfl, rfl, rfl⟩
  case round =>
    obtain ⟨k, hk, rfl, rfl, rfl⟩ := hrel
    by_cases hlt : k < n
    · have p1 : (k : Int) < (n : Int) := by omega
      have hop := MU.out k
      go_wp2_with (simp only [hop])
      exact ⟨⟨k + 1, by omega, by go_num, rfl, by trivial⟩, by simp [intOf]; omega⟩
    · obtain rfl : k = n := by omega
      go_wp2_with fail
      go_ret
      exact ⟨rfl, by trivial⟩

theorem over1_any (a b : Nat) (w : World) : Calls Try.prog 19 #[.complex .f64 a b] w fun e w' => e = .returned (.complex .f64 (Op.negFloat .f64 a) b) ∧ w' = w := by
  have hn : ∀ w, (Op.unary .neg (.float .f64 a)).run Try.prog w = .ok (.float .f64 (Op.negFloat .f64 a)) w := fun w => rfl
  go_enter Try.func19, Try.ntmps19
  go_wp2_with (simp only [hn])
  go_ret
  exact ⟨rfl, rfl⟩

theorem place_any (H W C : Int) (r c a b : Nat) (w : World) (h1 : 1 ≤ H ∧ H ≤ 16) (h2 : 1 ≤ W ∧ W ≤ 16) (hr : r ≤ 16) (hc : c ≤ 16) (ha : Fl a (2 * c - (W - 1))) (hb : Fl b (H - 1 - 2 * r)) :
    Calls Try.prog 24 #[.agg #[.int .i64 H, .int .i64 W, .int .i64 C], .complex .f64 a b] w fun e w' => e = .returned (.tuple #[.int .i64 r, .int .i64 c]) ∧ Below w.heap.size w w' := by
  have FR := Lib.hid (Far.refl w)
  obtain ⟨w1, hw_w1⟩ : ∃ nw_, w.alloc (.cells #[.int .i64 H, .int .i64 W, .int .i64 C] 23) = nw_ := ⟨_, rfl⟩
  have k_w1 : Below w.heap.size w w1 := by rw [← hw_w1]; exact (Below.refl _ _).alloc (Nat.le_refl _) _
  replace FR := Lib.hid (FR.out.fut k_w1)
  have BA := Lib.hid (show Blk w1 w.heap.size 23 #[.int .i64 H, .int .i64 W, .int .i64 C] by rw [← hw_w1]; exact Blk.now _ _ _ _ rfl)
  clear k_w1
  have CX := Lib.hid (fun w => run_convert_float_int (P := Try.prog) w 46 3 .f64 .i64 a _ (by rw [Try.underlying46]; rfl) Try.underlying3 ha.ok.int)
  have CY := Lib.hid (fun w => run_convert_float_int (P := Try.prog) w 46 3 .f64 .i64 b _ (by rw [Try.underlying46]; rfl) Try.underlying3 hb.ok.int)
  have c0 : ∀ x : Ext w1, x.1.cell? ⟨w.heap.size, 0, none⟩ = some (.int .i64 H) := fun x => (BA.out.ext x).cell 0
  have c1 : ∀ x : Ext w1, x.1.cell? ⟨w.heap.size, 1, none⟩ = some (.int .i64 W) := fun x => (BA.out.ext x).cell 1
  obtain ⟨a1, a2⟩ := h1
  obtain ⟨a3, a4⟩ := h2
  go_enter Try.func24, Try.ntmps24
  go_wp2_with fail
  refine wp_region_ext w1 (by kernel_rfl) (by kernel_rfl) (Below.refl _ _) ?_
  repeat (go_big_quiet_step (fail))
  refine wpQuiet_conv (by kernel_rfl) 46 3 (.tmp 10) rfl _ _ rfl CY.out ?_
  simp only [Act.put, List.getElem_toArray, List.getElem_cons_succ, List.getElem_cons_zero, List.setIfInBounds_toArray, List.set_cons_zero, List.set_cons_succ]
  repeat (go_big_quiet_step (fail))
  refine wpQuiet_conv (by kernel_rfl) 46 3 (.tmp 15) rfl _ _ rfl CX.out ?_
  simp only [Act.put, List.getElem_toArray, List.getElem_cons_succ, List.getElem_cons_zero, List.setIfInBounds_toArray, List.set_cons_zero, List.set_cons_succ]
  repeat (go_big_quiet_step (fail))
  refine wpQuiet_nil ?_
  rintro _ ⟨⟨w9, hb9⟩, rfl⟩
  have G9 := Lib.hid (FR.out.fut hb9)
  go_wp2_with fail
  go_ret2
  refine ⟨?_, G9.out.out⟩
  show Ending.returned (.tuple #[.int .i64 ((H - 1 - (H - 1 - 2 * (r : Int))) / 2), .int .i64 ((2 * (c : Int) - (W - 1) + W - 1) / 2)]) = _
  rw [show (H - 1 - (H - 1 - 2 * (r : Int))) / 2 = (r : Int) by omega, show (2 * (c : Int) - (W - 1) + W - 1) / 2 = (c : Int) by omega]
end Go.Proofs.Ytbdanfbfohikdaa
