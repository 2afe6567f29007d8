/-
  An engine that is none (layer 43): each call tells so.
  Conditions: none.
-/
import Derived.Test.YtcppkpcbfadapaaGreatChecked
import Derived.Test.YtcppkpcbfadapaaGreatOwn
import Derived.Test.YtcppkpcbfadapaaGreatRows2
namespace Go.Proofs.YtcppkpcbfadapaaGreat
set_option linter.unusedVariables false
set_option linter.unusedSimpArgs false
open Go.RowKit Go.ChangeShapes Go.WideShapes
set_option maxRecDepth 100000
set_option maxHeartbeats 1600000

theorem mayNil_any (A : Option Addr) (n c : Nat) (d : Int) (w : World) :
    Calls Tryz.prog 16 #[.pointer none, .slice A n c, .int .i64 d] w fun e w' => e = .returned (.int .i64 1) ∧ Below w.heap.size w w' := by
  go_enter Tryz.func16, Tryz.ntmps16
  go_wp2_with fail
  go_ret
  exact ⟨rfl, by go_grown⟩

theorem submitNil_any (A : Option Addr) (n c : Nat) (d : Int) (w : World) :
    Calls Tryz.prog 5 #[.pointer none, .slice A n c, .int .i64 d] w fun e w' => e = .returned (.tuple #[.int .i64 0, .int .i64 1]) ∧ Below w.heap.size w w' := by
  go_enter Tryz.func5, Tryz.ntmps5
  go_wp2_with fail
  refine (mayNil_any _ _ _ _ _).mono ?_
  rintro e w1 ⟨rfl, h1⟩
  go_wp2_with fail
  go_ret2
  exact ⟨rfl, h1⟩

theorem tickNil_any (d : Int) (w : World) :
    Calls Tryz.prog 7 #[.pointer none, .int .i64 d] w fun e w' => e = .returned (.tuple #[.int .i64 0, .int .i64 1]) ∧ Below w.heap.size w w' := by
  go_enter Tryz.func7, Tryz.ntmps7
  go_wp2_with fail
  go_ret2
  exact ⟨rfl, by go_grown⟩

theorem pollNil_any (d : Int) (w : World) :
    Calls Tryz.prog 8 #[.pointer none, .int .i64 d] w fun e w' => e = .returned (.tuple #[.agg #[.int .i64 0, .int .i64 0, .int .i64 0, .int .i64 0, .int .i64 0, .int .i64 0, .slice none 0 0, .int .i64 0, .int .i64 0, .int .i64 0], .int .i64 1]) ∧ Below w.heap.size w w' := by
  go_enter Tryz.func8, Tryz.ntmps8
  go_wp2_with (refine wpList_store_all rfl 35 (.tmp 4) (.tmp 10) rfl w.heap.size #[.int .i64 0, .int .i64 0, .int .i64 0, .int .i64 0, .int .i64 0, .int .i64 0, .slice none 0 0, .int .i64 0, .int .i64 0, .int .i64 0] rfl rfl _ _ (Blk.now _ _ _ _ (by simp)) rfl (by kernel_rfl) (by kernel_rfl) ?_; intro w1 B1 g1)
  refine ret_cell_tmp rfl B1 rfl Tryz.underlying35 (by kernel_rfl) rfl ?_
  exact ⟨rfl, ((Below.refl _ _).alloc (Nat.le_refl _) _).grown g1 (by simp) (fun k h => by cases h; exact Nat.le_refl _)⟩

theorem loadNil_any (A : Option Addr) (n c : Nat) (w : World) :
    Calls Tryz.prog 9 #[.pointer none, .slice A n c] w fun e w' => e = .returned (.int .i64 1) ∧ Below w.heap.size w w' := by
  go_enter Tryz.func9, Tryz.ntmps9
  go_wp2_with fail
  go_ret
  exact ⟨rfl, by go_grown⟩

theorem cancelNil_any (d : Int) (w : World) :
    Calls Tryz.prog 10 #[.pointer none, .int .i64 d] w fun e w' => e = .returned (.int .i64 1) ∧ Below w.heap.size w w' := by
  go_enter Tryz.func10, Tryz.ntmps10
  go_wp2_with fail
  go_ret
  exact ⟨rfl, by go_grown⟩

theorem statsNil_any (w : World) :
    Calls Tryz.prog 11 #[.pointer none] w fun e w' => e = .returned (.agg #[.int .i64 0, .int .i64 0, .int .i64 0, .int .i64 0, .int .i64 0, .int .i64 0, .int .i64 0, .int .i64 0, .int .i64 0, .int .i64 0, .int .i64 0, .int .i64 0, .int .i64 0]) ∧ Below w.heap.size w w' := by
  go_enter Tryz.func11, Tryz.ntmps11
  go_wp2_with (refine wpList_store_all rfl 41 (.tmp 2) (.tmp 6) rfl w.heap.size #[.int .i64 0, .int .i64 0, .int .i64 0, .int .i64 0, .int .i64 0, .int .i64 0, .int .i64 0, .int .i64 0, .int .i64 0, .int .i64 0, .int .i64 0, .int .i64 0, .int .i64 0] rfl rfl _ _ (Blk.now _ _ _ _ (by simp)) rfl (by kernel_rfl) (by kernel_rfl) ?_; intro w1 B1 g1)
  refine ret_cell rfl B1 rfl Tryz.underlying41 (by kernel_rfl) rfl ?_
  exact ⟨rfl, ((Below.refl _ _).alloc (Nat.le_refl _) _).grown g1 (by simp) (fun k h => by cases h; exact Nat.le_refl _)⟩

theorem netNil_any (w : World) :
    Calls Tryz.prog 12 #[.pointer none] w fun e w' => e = .returned (.pointer none) ∧ Below w.heap.size w w' := by
  go_enter Tryz.func12, Tryz.ntmps12
  go_wp2_with fail
  go_ret
  exact ⟨rfl, by go_grown⟩

theorem waitingNil_any (w : World) :
    Calls Tryz.prog 13 #[.pointer none] w fun e w' => e = .returned (.slice none 0 0) ∧ Below w.heap.size w w' := by
  go_enter Tryz.func13, Tryz.ntmps13
  go_wp2_with fail
  go_ret
  exact ⟨rfl, by go_grown⟩

theorem runningNil_any (w : World) :
    Calls Tryz.prog 14 #[.pointer none] w fun e w' => e = .returned (.slice none 0 0) ∧ Below w.heap.size w w' := by
  go_enter Tryz.func14, Tryz.ntmps14
  go_wp2_with fail
  go_ret
  exact ⟨rfl, by go_grown⟩
end Go.Proofs.YtcppkpcbfadapaaGreat
