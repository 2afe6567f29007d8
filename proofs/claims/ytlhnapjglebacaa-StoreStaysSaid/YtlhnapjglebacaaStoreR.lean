/-
  The document's comparisons at equal points and answers; a point as the document's (layers 36, 42).
  Conditions: none.
-/
import Derived.Test.YtlhnapjglebacaaChecked
import Derived.Test.YtlhnapjglebacaaStoreQ
namespace Go.Proofs.Ytlhnapjglebacaa
set_option linter.unusedVariables false
set_option linter.unusedSimpArgs false
open Go.RowKit Go.ChangeShapes Go.WideShapes
set_option maxRecDepth 100000
set_option maxHeartbeats 2000000

theorem same36_eq (p : Pt) (A B A' B' : Option Addr) (n c m d n' c' m' d' : Nat) (w : World) (h1 : Sl (tInt .i8) w (blo w.heap.size) A n c p.input.data) (h2 : Sl (tInt .i8) w (blo w.heap.size) B m d p.value.data)
    (h3 : Sl (tInt .i8) w (blo w.heap.size) A' n' c' p.input.data) (h4 : Sl (tInt .i8) w (blo w.heap.size) B' m' d' p.value.data) :
    Calls Try.prog 54 #[.agg (ptCells p A n c B m d), .agg (ptCells p A' n' c' B' m' d')] w fun e w' => e = .returned (.bool true) ∧ Below w.heap.size w w' := by
  have H1 := Lib.hid h1
  have H2 := Lib.hid h2
  have H3 := Lib.hid h3
  have H4 := Lib.hid h4
  clear h1 h2 h3 h4
  obtain ⟨W2, hW2⟩ : ∃ W2, (w.alloc (.cells (ptCells p A n c B m d) 110)).alloc (.cells (ptCells p A' n' c' B' m' d') 110) = W2 := ⟨_, rfl⟩
  have G2 := Lib.hid (show Below w.heap.size w W2 by rw [← hW2]; exact ((Below.refl _ _).alloc (Nat.le_refl _) _).alloc (by simp) _)
  have BA := Lib.hid (show Blk W2 w.heap.size 110 (ptCells p A n c B m d) by rw [← hW2]; exact (Blk.now _ _ _ _ rfl).past _)
  have BB := Lib.hid (show Blk W2 (w.heap.size + 1) 110 (ptCells p A' n' c' B' m' d') by rw [← hW2]; exact Blk.now _ _ _ _ (by simp))
  unfold ptCells at *
  have HW := Lib.hid hW2
  clear hW2
  go_enter Try.func54, Try.ntmps54
  go_wp2_with fail
  rw [HW.out]
  clear HW
  refine (same05_eq p.input A A' n c n' c' W2 (H1.out.later G2.out (Nat.le_refl _)) (H3.out.later G2.out (Nat.le_refl _))).mono ?_
  rintro e w3 ⟨rfl, b3⟩
  have G3 := Lib.hid (below_call G2.out b3 G2.out.size)
  have bA := BA.out.later b3
  have bB := BB.out.later b3
  have cA := fun i => bA.cell i
  have cB := fun i => bB.cell i
  clear bA bB b3
  go_wp2_with fail
  refine (same05_eq p.value B B' m d m' d' w3 (H2.out.later G3.out (Nat.le_refl _)) (H4.out.later G3.out (Nat.le_refl _))).mono ?_
  rintro e w4 ⟨rfl, b4⟩
  have g4 := below_call G3.out b4 G3.out.size
  clear cA cB b4
  go_wp2_with fail
  go_ret
  exact ⟨rfl, g4⟩

theorem sameAnswer_eq (a : Ans) (L L' : Option Addr) (n c n' c' : Nat) (w : World) (h1 : Sl (tInt .i32) w (blo w.heap.size) L n c a.logits) (h2 : Sl (tInt .i32) w (blo w.heap.size) L' n' c' a.logits) :
    Calls Try.prog 56 #[.agg (ansCells a L n c), .agg (ansCells a L' n' c')] w fun e w' => e = .returned (.bool true) ∧ Below w.heap.size w w' := by
  have H1 := Lib.hid h1
  have H2 := Lib.hid h2
  clear h1 h2
  unfold ansCells at *
  go_enter Try.func56, Try.ntmps56
  go_wp2_with fail
  have k2 : Below w.heap.size w ((w.alloc (.cells (ansCells a L n c) 38)).alloc (.cells (ansCells a L' n' c') 38)) := ((Below.refl _ _).alloc (Nat.le_refl _) _).alloc (by simp) _
  refine (same32_all L L' n c n' c' a.logits a.logits _ (H1.out.later k2 (Nat.le_refl _)) (H2.out.later k2 (Nat.le_refl _))).mono ?_
  rintro e w4 ⟨he, b4⟩
  rw [decide_eq_true (rfl : a.logits = a.logits)] at he
  subst he
  have g4 := below_call k2 b4 k2.size
  clear k2 b4
  go_wp2_with fail
  go_ret
  exact ⟨rfl, g4⟩

theorem ofPoint_any (p : Pt) (A B : Option Addr) (n c m d : Nat) (w : World) :
    Calls Try.prog 55 #[.agg (ptCells p A n c B m d)] w fun e w' => e = .returned (.agg (ptCells p A n c B m d)) ∧ Below w.heap.size w w' := by
  unfold ptCells
  go_enter Try.func55, Try.ntmps55
  go_wp2_with (refine wpList_store_all rfl 110 (.tmp 2) (.tmp 13) rfl (w.heap.size + 1) (ptCells p A n c B m d) rfl rfl _ _ (Blk.now _ _ _ _ (by simp)) rfl (by kernel_rfl) (by simp [Value.oneCell', ptCells]) ?_; intro w3 B3 g3)
  refine ret_cell rfl B3 rfl Try.underlying110 (by kernel_rfl) rfl ?_
  exact ⟨rfl, (((Below.refl _ _).alloc (Nat.le_refl _) _).alloc (by simp) _).grown g3 (by simp; omega) (fun k h => by have := Option.some.inj h; omega)⟩
end Go.Proofs.Ytlhnapjglebacaa
