/-
  slices.Grow of the nil slice: a row of the call's own, with room.
  Conditions: at most 2^40 numbers.
-/
import Derived.Test.YtcppkpcbfadapaaGreatChecked
import Derived.Test.YtcppkpcbfadapaaGreatEiInt
import Derived.Lib.AppendZeros
namespace Go.Proofs.YtcppkpcbfadapaaGreat
set_option linter.unusedVariables false
set_option linter.unusedSimpArgs false
open Go.RowKit Go.ChangeShapes Go.WideShapes
set_option maxRecDepth 100000


theorem grow_any (n : Nat) (w : World) (hn : n ≤ 1099511627776) :
    Calls Tryz.prog 139 #[.slice none 0 0, .int .i64 n] w fun e w' => ∃ v, e = .returned v ∧ Own (tInt .i64) w' (fun _ => False) w.heap.size 3 v 0 [] ∧ Below w.heap.size w w' := by
  by_cases h0 : n = 0
  · subst h0
    go_enter Tryz.func139, Tryz.ntmps139
    go_wp2_with fail
    go_ret
    exact ⟨_, rfl, Own.nil _ _ _ _ _, Below.refl _ _⟩
  obtain ⟨i, hi, hz0, hz1, hz2⟩ := info_parts ei_int.hi
  have happ := Lib.run_append_nil_zeros (P := Tryz.prog) w 45 3 45 3 i (.int .i64 0) .i64 .i64 Tryz.underlying45 Tryz.underlying3 hi hz0 n (by omega) (by omega) (by omega) (by rw [hz2]; omega)
  have hcapge : n ≤ grownCap w n 0 3 := grownCap_ge w _ 0 _
  have hcaple : grownCap w n 0 3 ≤ maxLen := grownCap_le_maxLen w _ 0 _ (by unfold maxLen; omega)
  generalize grownCap w n 0 3 = cap2 at *
  have hZs : (Builtin.zeroCells (Value.int .i64 0).cells n ++ Builtin.zeroCells (Value.int .i64 0).cells (cap2 - n)).size = cap2 := by simp [size_zeroCells, Value.cells]; omega
  generalize (Builtin.zeroCells (Value.int .i64 0).cells n ++ Builtin.zeroCells (Value.int .i64 0).cells (cap2 - n)) = Z at *
  have HC := Lib.hid hcaple
  have hm2 : cap2 ≤ 9223372036854775807 := by unfold maxLen at hcaple; omega
  have HAPP := Lib.hid happ
  clear happ hcaple
  go_enter Tryz.func139, Tryz.ntmps139
  go_wp2_with (at_builtin; refine Lib.wpList_append_run _ rfl _ _ _ _ rfl _ _ rfl rfl _ _ HAPP.out ?_)
  go_ret
  refine ⟨_, rfl, ⟨[], ⟨rfl, .inr ⟨w.heap.size, cap2, Z, rfl, Nat.le_refl _, heap_alloc_new _ _, Nat.zero_le _, HC.out, by rw [hZs]; exact (Nat.mul_one _).symm, by simp⟩⟩, rfl⟩, (Below.refl _ _).drew.alloc (Nat.le_refl _) _⟩
end Go.Proofs.YtcppkpcbfadapaaGreat
