/-
  A store that is none (layer 42).
  Conditions: none.
-/
import Derived.Test.YtcppkpcbfadapaaGreatChecked
import Derived.Test.YtcppkpcbfadapaaGreatStoreF
namespace Go.Proofs.YtcppkpcbfadapaaGreat
set_option linter.unusedVariables false
set_option linter.unusedSimpArgs false
open Go.RowKit Go.ChangeShapes Go.WideShapes
set_option maxRecDepth 100000

def noCells : Array Value := #[.int .i64 0, .int .i64 0, .int .i64 0, .int .i64 0, .int .i64 0, .int .i64 0, .int .i64 0, .int .i64 0, .int .i64 0, .slice none 0 0, .int .i64 0, .int .i64 0, .int .i64 0, .slice none 0 0, .int .i64 0, .int .i64 0, .int .i64 0, .int .i64 0, .int .i64 0, .slice none 0 0, .int .i64 0, .int .i64 0, .int .i64 0]
theorem noCells_eq : reqCells noReq none 0 0 none 0 0 none 0 0 = noCells := rfl

theorem storeOpen_nil (x : Int) (w : World) : Calls Tryz.prog 79 #[.pointer none, .int .i64 x] w fun e w' => e = .returned (.tuple #[.agg noCells, .int .i64 1]) ∧ Below w.heap.size w w' := by
  go_enter Tryz.func79, Tryz.ntmps79
  go_wp2_with (refine wpList_store_all rfl 75 (.tmp 4) (.tmp 10) rfl (w.heap.size) noCells rfl rfl _ _ (Blk.now _ _ _ _ (by simp)) rfl (by kernel_rfl) (by kernel_rfl) ?_; intro w1 B1 g1)
  refine ret_cell_tmp rfl B1 rfl Tryz.underlying75 (by kernel_rfl) rfl ?_
  exact ⟨rfl, ((Below.refl _ _).alloc (Nat.le_refl _) _).grown g1 (by simp) (fun k h => by cases h; exact Nat.le_refl _)⟩

theorem storeGet_nil (x : Int) (w : World) : Calls Tryz.prog 25 #[.pointer none, .int .i64 x] w fun e w' => e = .returned (.tuple #[.agg noCells, .bool false]) ∧ Below w.heap.size w w' := by
  go_enter Tryz.func25, Tryz.ntmps25
  go_wp2_with (refine wpList_store_all rfl 75 (.tmp 4) (.tmp 10) rfl (w.heap.size) noCells rfl rfl _ _ (Blk.now _ _ _ _ (by simp)) rfl (by kernel_rfl) (by kernel_rfl) ?_; intro w1 B1 g1)
  refine ret_cell_tmp rfl B1 rfl Tryz.underlying75 (by kernel_rfl) rfl ?_
  exact ⟨rfl, ((Below.refl _ _).alloc (Nat.le_refl _) _).grown g1 (by simp) (fun k h => by cases h; exact Nat.le_refl _)⟩


theorem storeRunning_nil (x : Int) (w : World) : Calls Tryz.prog 96 #[.pointer none, .int .i64 x] w fun e w' => e = .returned (.tuple #[.agg noCells, .int .i64 1]) ∧ Below w.heap.size w w' := by
  go_enter Tryz.func96, Tryz.ntmps96
  go_wp2_with fail
  have k0 : Below w.heap.size w (w.alloc (.cells noCells 75)) := (Below.refl _ _).alloc (Nat.le_refl _) _
  have B0 := Blk.now w w.heap.size 75 noCells rfl
  refine (storeOpen_nil x _).mono ?_
  rintro e w1 ⟨rfl, b1⟩
  have c1 := below_call k0 b1 k0.size
  have B1 := B0.later b1
  clear k0 b1 B0
  go_wp2_with (first
    | (refine wpList_store_all rfl 75 (.tmp 6) (.tmp 12) rfl (w1.heap.size) noCells rfl rfl _ _ (Blk.now _ _ _ _ (by simp)) rfl (by kernel_rfl) (by kernel_rfl) ?_; intro w2 B2 g2)
    | (refine wpList_load_row rfl 75 (.tmp 6) rfl w1.heap.size rfl _ _ (0, 0) _ B2.heap Tryz.underlying75 rfl (by kernel_rfl) ?_)
    | (refine wpList_store_all rfl 75 (.tmp 4) (.tmp 22) rfl w.heap.size noCells rfl rfl _ _ (show Blk w2 w.heap.size _ _ from ⟨(g2.block _ (by have := B1.lt; simp; omega) (by have := B1.lt; intro e; have := Option.some.inj e; omega)).trans (B1.past _).heap⟩) rfl (by kernel_rfl) (by kernel_rfl) ?_; intro w3 B3 g3))
  refine ret_cell_tmp rfl B3 rfl Tryz.underlying75 (by kernel_rfl) rfl ?_
  refine ⟨rfl, ?_⟩
  have h1 := B1.lt
  have z2 := g2.size
  simp at z2
  exact ((c1.alloc c1.size _).grown g2 (by simp; omega) (fun k h => by have := Option.some.inj h; omega)).grown g3 (by omega) (fun k h => by have := Option.some.inj h; omega)
end Go.Proofs.YtcppkpcbfadapaaGreat
