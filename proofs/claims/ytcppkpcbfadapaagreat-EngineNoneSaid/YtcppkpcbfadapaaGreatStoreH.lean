/-
  A store that is none is asked to run, move, answer or cancel; known (layer 42).
  Conditions: none.
-/
import Derived.Test.YtcppkpcbfadapaaGreatChecked
import Derived.Test.YtcppkpcbfadapaaGreatStoreG
namespace Go.Proofs.YtcppkpcbfadapaaGreat
set_option linter.unusedVariables false
set_option linter.unusedSimpArgs false
open Go.RowKit Go.ChangeShapes Go.WideShapes
set_option maxRecDepth 100000

def ansCells (a : Ans) (L : Option Addr) (nl cl : Nat) : Array Value :=
  #[.int .i64 a.id, .int .i64 a.model, .int .i64 a.block, .int .i64 a.cls, .int .i64 a.margin, .slice L nl cl, .int .i64 a.spent, .int .i64 a.why, .int .i64 a.tick]

theorem storeRun_nil (x : Int) (w : World) : Calls Tryz.prog 56 #[.pointer none, .int .i64 x] w fun e w' => e = .returned (.int .i64 1) ∧ Below w.heap.size w w' := by
  go_enter Tryz.func56, Tryz.ntmps56
  go_wp2_with fail
  have k0 : Below w.heap.size w w := Below.refl _ _
  refine (storeOpen_nil x _).mono ?_
  rintro e w1 ⟨rfl, b1⟩
  have c1 := below_call k0 b1 k0.size
  clear k0 b1
  go_wp2_with (refine wpList_store_all rfl 75 (.tmp 5) (.tmp 11) rfl (w1.heap.size) noCells rfl rfl _ _ (Blk.now _ _ _ _ (by simp)) rfl (by kernel_rfl) (by kernel_rfl) ?_; intro w2 B2 g2)
  go_ret
  exact ⟨rfl, (c1.alloc c1.size _).grown g2 (by have := c1.size; simp; omega) (fun k h => by have := Option.some.inj h; have := c1.size; omega)⟩

theorem storeCancel_nil (x : Int) (w : World) : Calls Tryz.prog 32 #[.pointer none, .int .i64 x] w fun e w' => e = .returned (.int .i64 1) ∧ Below w.heap.size w w' := by
  go_enter Tryz.func32, Tryz.ntmps32
  go_wp2_with fail
  have k0 : Below w.heap.size w w := Below.refl _ _
  refine (storeOpen_nil x _).mono ?_
  rintro e w1 ⟨rfl, b1⟩
  have c1 := below_call k0 b1 k0.size
  clear k0 b1
  go_wp2_with (refine wpList_store_all rfl 75 (.tmp 5) (.tmp 11) rfl (w1.heap.size) noCells rfl rfl _ _ (Blk.now _ _ _ _ (by simp)) rfl (by kernel_rfl) (by kernel_rfl) ?_; intro w2 B2 g2)
  go_ret
  exact ⟨rfl, (c1.alloc c1.size _).grown g2 (by have := c1.size; simp; omega) (fun k h => by have := Option.some.inj h; have := c1.size; omega)⟩

theorem storeMove_nil (x : Int) (p : Pt) (A B : Option Addr) (n c k d : Nat) (w : World) : Calls Tryz.prog 68 #[.pointer none, .int .i64 x, .agg (ptCells p A n c B k d)] w fun e w' => e = .returned (.int .i64 1) ∧ Below w.heap.size w w' := by
  unfold ptCells
  go_enter Tryz.func68, Tryz.ntmps68
  go_wp2_with fail
  have k0 : Below w.heap.size w (w.alloc (.cells (ptCells p A n c B k d) 67)) := (Below.refl _ _).alloc (Nat.le_refl _) _
  refine (storeRunning_nil x _).mono ?_
  rintro e w1 ⟨rfl, b1⟩
  have c1 := below_call k0 b1 k0.size
  clear k0 b1
  go_wp2_with (refine wpList_store_all rfl 75 (.tmp 7) (.tmp 13) rfl (w1.heap.size) noCells rfl rfl _ _ (Blk.now _ _ _ _ (by simp)) rfl (by kernel_rfl) (by kernel_rfl) ?_; intro w2 B2 g2)
  go_ret
  exact ⟨rfl, (c1.alloc c1.size _).grown g2 (by have := c1.size; simp; omega) (fun k h => by have := Option.some.inj h; have := c1.size; omega)⟩

theorem storeAnswer_nil (x : Int) (a : Ans) (L : Option Addr) (nl cl : Nat) (w : World) : Calls Tryz.prog 66 #[.pointer none, .int .i64 x, .agg (ansCells a L nl cl)] w fun e w' => e = .returned (.int .i64 1) ∧ Below w.heap.size w w' := by
  unfold ansCells
  go_enter Tryz.func66, Tryz.ntmps66
  go_wp2_with fail
  have k0 : Below w.heap.size w (w.alloc (.cells (ansCells a L nl cl) 33)) := (Below.refl _ _).alloc (Nat.le_refl _) _
  refine (storeRunning_nil x _).mono ?_
  rintro e w1 ⟨rfl, b1⟩
  have c1 := below_call k0 b1 k0.size
  clear k0 b1
  go_wp2_with (refine wpList_store_all rfl 75 (.tmp 7) (.tmp 13) rfl (w1.heap.size) noCells rfl rfl _ _ (Blk.now _ _ _ _ (by simp)) rfl (by kernel_rfl) (by kernel_rfl) ?_; intro w2 B2 g2)
  go_ret
  exact ⟨rfl, (c1.alloc c1.size _).grown g2 (by have := c1.size; simp; omega) (fun k h => by have := Option.some.inj h; have := c1.size; omega)⟩


theorem inPt_no : PtIn noPoint := by constructor <;> first | (rw [inK_i64]; decide) | (constructor <;> (rw [inK_i64]; decide))

end Go.Proofs.YtcppkpcbfadapaaGreat
