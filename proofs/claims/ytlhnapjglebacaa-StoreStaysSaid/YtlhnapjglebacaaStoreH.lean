/-
  A store that is none is asked to run, move, answer or cancel; known (layer 42).
  Conditions: none.
-/
import Derived.Test.YtlhnapjglebacaaChecked
import Derived.Test.YtlhnapjglebacaaStoreG
namespace Go.Proofs.Ytlhnapjglebacaa
set_option linter.unusedVariables false
set_option linter.unusedSimpArgs false
open Go.RowKit Go.ChangeShapes Go.WideShapes
set_option maxRecDepth 100000

def ansCells (a : Ans) (L : Option Addr) (nl cl : Nat) : Array Value :=
  #[.int .i64 a.id, .int .i64 a.model, .int .i64 a.block, .int .i64 a.cls, .int .i64 a.margin, .slice L nl cl, .int .i64 a.spent, .int .i64 a.why, .int .i64 a.tick]

theorem storeRun_nil (x : Int) (w : World) : Calls Try.prog 60 #[.pointer none, .int .i64 x] w fun e w' => e = .returned (.int .i64 1) ∧ Below w.heap.size w w' := by
  go_enter Try.func60, Try.ntmps60
  go_wp2_with fail
  have k0 : Below w.heap.size w w := Below.refl _ _
  refine (storeOpen_nil x _).mono ?_
  rintro e w1 ⟨rfl, b1⟩
  have c1 := below_call k0 b1 k0.size
  clear k0 b1
  go_wp2_with (refine wpList_store_all rfl 107 (.tmp 5) (.tmp 11) rfl (w1.heap.size) noCells rfl rfl _ _ (Blk.now _ _ _ _ (by simp)) rfl (by kernel_rfl) (by kernel_rfl) ?_; intro w2 B2 g2)
  go_ret
  exact ⟨rfl, (c1.alloc c1.size _).grown g2 (by have := c1.size; simp; omega) (fun k h => by have := Option.some.inj h; have := c1.size; omega)⟩

theorem storeCancel_nil (x : Int) (w : World) : Calls Try.prog 63 #[.pointer none, .int .i64 x] w fun e w' => e = .returned (.int .i64 1) ∧ Below w.heap.size w w' := by
  go_enter Try.func63, Try.ntmps63
  go_wp2_with fail
  have k0 : Below w.heap.size w w := Below.refl _ _
  refine (storeOpen_nil x _).mono ?_
  rintro e w1 ⟨rfl, b1⟩
  have c1 := below_call k0 b1 k0.size
  clear k0 b1
  go_wp2_with (refine wpList_store_all rfl 107 (.tmp 5) (.tmp 11) rfl (w1.heap.size) noCells rfl rfl _ _ (Blk.now _ _ _ _ (by simp)) rfl (by kernel_rfl) (by kernel_rfl) ?_; intro w2 B2 g2)
  go_ret
  exact ⟨rfl, (c1.alloc c1.size _).grown g2 (by have := c1.size; simp; omega) (fun k h => by have := Option.some.inj h; have := c1.size; omega)⟩

theorem storeMove_nil (x : Int) (p : Pt) (A B : Option Addr) (n c k d : Nat) (w : World) : Calls Try.prog 61 #[.pointer none, .int .i64 x, .agg (ptCells p A n c B k d)] w fun e w' => e = .returned (.int .i64 1) ∧ Below w.heap.size w w' := by
  unfold ptCells
  go_enter Try.func61, Try.ntmps61
  go_wp2_with fail
  have k0 : Below w.heap.size w (w.alloc (.cells (ptCells p A n c B k d) 101)) := (Below.refl _ _).alloc (Nat.le_refl _) _
  refine (storeRunning_nil x _).mono ?_
  rintro e w1 ⟨rfl, b1⟩
  have c1 := below_call k0 b1 k0.size
  clear k0 b1
  go_wp2_with (refine wpList_store_all rfl 107 (.tmp 7) (.tmp 13) rfl (w1.heap.size) noCells rfl rfl _ _ (Blk.now _ _ _ _ (by simp)) rfl (by kernel_rfl) (by kernel_rfl) ?_; intro w2 B2 g2)
  go_ret
  exact ⟨rfl, (c1.alloc c1.size _).grown g2 (by have := c1.size; simp; omega) (fun k h => by have := Option.some.inj h; have := c1.size; omega)⟩

theorem storeAnswer_nil (x : Int) (a : Ans) (L : Option Addr) (nl cl : Nat) (w : World) : Calls Try.prog 62 #[.pointer none, .int .i64 x, .agg (ansCells a L nl cl)] w fun e w' => e = .returned (.int .i64 1) ∧ Below w.heap.size w w' := by
  unfold ansCells
  go_enter Try.func62, Try.ntmps62
  go_wp2_with fail
  have k0 : Below w.heap.size w (w.alloc (.cells (ansCells a L nl cl) 38)) := (Below.refl _ _).alloc (Nat.le_refl _) _
  refine (storeRunning_nil x _).mono ?_
  rintro e w1 ⟨rfl, b1⟩
  have c1 := below_call k0 b1 k0.size
  clear k0 b1
  go_wp2_with (refine wpList_store_all rfl 107 (.tmp 7) (.tmp 13) rfl (w1.heap.size) noCells rfl rfl _ _ (Blk.now _ _ _ _ (by simp)) rfl (by kernel_rfl) (by kernel_rfl) ?_; intro w2 B2 g2)
  go_ret
  exact ⟨rfl, (c1.alloc c1.size _).grown g2 (by have := c1.size; simp; omega) (fun k h => by have := Option.some.inj h; have := c1.size; omega)⟩


theorem inPt_no : PtIn noPoint := by constructor <;> first | (rw [inK_i64]; decide) | (constructor <;> (rw [inK_i64]; decide))

theorem known42_any (w : World) : Calls Try.prog 50 #[] w fun e w' => e = .returned (.bool true) ∧ Below w.heap.size w w' := by
  go_enter Try.func50, Try.ntmps50
  go_wp2_with fail
  refine (storeNew_good 1 w (by decide) (by decide)).mono ?_
  rintro e w1 ⟨rfl, r1, b1⟩
  have R1 := Lib.hid r1
  clear r1
  go_wp2_with fail
  refine (storeAdd_room (w.heap.size + 1) w.heap.size 1 [] noPoint none none 0 0 0 0 3 w1 R1.out (by decide) (by decide) (by rw [inK_i64]; decide) inPt_no (by rw [inK_i64]; decide) (Sl.nil _ _ _) (Sl.nil _ _ _) (by decide) (by decide)).mono ?_
  rintro e w2 ⟨rfl, r2, g2⟩
  have b2 : Below w.heap.size w w2 := b1.grown g2 b1.size (fun k h => by cases h; exact Nat.le_refl _)
  have R2 := Lib.hid r2
  clear r2 g2 b1 R1
  go_wp2_with fail
  refine (storeAdd_full (w.heap.size + 1) w.heap.size 1 _ noPoint none none 0 0 0 0 3 w2 R2.out (by decide)).mono ?_
  rintro e w3 ⟨rfl, b3⟩
  have c3 := below_call b2 b3 b2.size
  have R3 := Lib.hid (R2.out.later b3)
  clear b3 b2 R2
  go_wp2_with fail
  refine (storeCount_any (w.heap.size + 1) w.heap.size 1 _ 1 w3 R3.out (by decide)).mono ?_
  rintro e w4 ⟨rfl, b4⟩
  have c4 := below_call c3 b4 c3.size
  clear b4 c3
  go_wp2_with fail
  go_ret
  exact ⟨rfl, c4⟩
end Go.Proofs.Ytlhnapjglebacaa
