/-
  A new ring (layer 41).
  Conditions: its room is from 1 to 16.
-/
import Derived.Test.YtcppkpcbfadapaaGreatChecked
import Derived.Test.YtcppkpcbfadapaaGreatRingG
namespace Go.Proofs.YtcppkpcbfadapaaGreat
set_option linter.unusedVariables false
set_option linter.unusedSimpArgs false
open Go.RowKit Go.ChangeShapes Go.WideShapes
set_option maxRecDepth 100000

theorem ringNew_any (m : Int) (w : World) (h1 : 1 ≤ m) (h2 : m ≤ 16) :
    Calls Tryz.prog 44 #[.int .i64 m] w fun e w' => e = .returned (.tuple #[.pointer (some ⟨w.heap.size, 0, none⟩), .int .i64 0]) ∧ RingAt w' w.heap.size [] [] m ∧ Below w.heap.size w w' := by
  have t1 : decide (m < 1) = false := by simp; omega
  have t2 : decide (16 < m) = false := by simp; omega
  go_enter Tryz.func44, Tryz.ntmps44
  go_wp2_with fail
  go_ret2
  exact ⟨rfl, ⟨none, 0, 0, none, 0, 0, Blk.now _ _ _ _ rfl, Sl.nil _ _ _, Sl.nil _ _ _⟩, (Below.refl _ _).alloc (Nat.le_refl _) _⟩
end Go.Proofs.YtcppkpcbfadapaaGreat
