/-
  The program's comparison of equal points (layer 36).
  Conditions: none.
-/
import Derived.Test.YtanglfmolnfjeaaChecked
import Derived.Test.YtanglfmolnfjeaaJ25
import Derived.Test.YtanglfmolnfjeaaJ24
namespace Go.Proofs.Ytanglfmolnfjeaa
set_option linter.unusedVariables false
set_option linter.unusedSimpArgs false
open Go.RowKit Go.ChangeShapes Go.WideShapes
set_option maxRecDepth 100000
set_option maxHeartbeats 2000000

theorem likeT_self (t : Tensor) : likeT t t = true := by unfold likeT; simp
theorem tensorSame_eq (t : Tensor) (A B : Option Addr) (n c m d : Nat) (w : World) (h : Sl (tInt .i8) w (blo w.heap.size) A n c t.data) (h' : Sl (tInt .i8) w (blo w.heap.size) B m d t.data) :
    Calls Try.prog 19 #[.agg #[.int .i64 t.h, .int .i64 t.v, .int .i64 t.c, .slice A n c], .agg #[.int .i64 t.h, .int .i64 t.v, .int .i64 t.c, .slice B m d]] w fun e w' => e = .returned (.bool true) ∧ Below w.heap.size w w' := by
  have := tensorSame_any t t A B n c m d w h h'
  rw [likeT_self] at this
  exact this

theorem sameWalk_eq (p : Pt) (A B A' B' : Option Addr) (n c m d n' c' m' d' : Nat) (w : World) (h1 : Sl (tInt .i8) w (blo w.heap.size) A n c p.input.data) (h2 : Sl (tInt .i8) w (blo w.heap.size) B m d p.value.data)
    (h3 : Sl (tInt .i8) w (blo w.heap.size) A' n' c' p.input.data) (h4 : Sl (tInt .i8) w (blo w.heap.size) B' m' d' p.value.data) :
    Calls Try.prog 14 #[.agg (ptCells p A n c B m d), .agg (ptCells p A' n' c' B' m' d')] w fun e w' => e = .returned (.bool true) ∧ Below w.heap.size w w' := by
  have H1 := Lib.hid h1
  have H2 := Lib.hid h2
  have H3 := Lib.hid h3
  have H4 := Lib.hid h4
  clear h1 h2 h3 h4
  obtain ⟨W2, hW2⟩ : ∃ W2, (w.alloc (.cells (ptCells p A n c B m d) 28)).alloc (.cells (ptCells p A' n' c' B' m' d') 28) = W2 := ⟨_, rfl⟩
  have G2 := Lib.hid (show Below w.heap.size w W2 by rw [← hW2]; exact ((Below.refl _ _).alloc (Nat.le_refl _) _).alloc (by simp) _)
  have BA := Lib.hid (show Blk W2 w.heap.size 28 (ptCells p A n c B m d) by rw [← hW2]; exact (Blk.now _ _ _ _ rfl).past _)
  have BB := Lib.hid (show Blk W2 (w.heap.size + 1) 28 (ptCells p A' n' c' B' m' d') by rw [← hW2]; exact Blk.now _ _ _ _ (by simp))
  unfold ptCells at *
  have HW := Lib.hid hW2
  clear hW2
  go_enter Try.func14, Try.ntmps14
  go_wp2_with fail
  rw [HW.out]
  clear HW
  refine (tensorSame_eq p.input A A' n c n' c' W2 (H1.out.later G2.out (Nat.le_refl _)) (H3.out.later G2.out (Nat.le_refl _))).mono ?_
  rintro e w3 ⟨rfl, b3⟩
  have G3 := Lib.hid (below_call G2.out b3 G2.out.size)
  have bA := BA.out.later b3
  have bB := BB.out.later b3
  have cA := fun i => bA.cell i
  have cB := fun i => bB.cell i
  clear bA bB b3
  go_wp2_with fail
  refine (tensorSame_eq p.value B B' m d m' d' w3 (H2.out.later G3.out (Nat.le_refl _)) (H4.out.later G3.out (Nat.le_refl _))).mono ?_
  rintro e w4 ⟨rfl, b4⟩
  have g4 := below_call G3.out b4 G3.out.size
  clear cA cB b4
  go_wp2_with fail
  go_ret
  exact ⟨rfl, g4⟩

end Go.Proofs.Ytanglfmolnfjeaa
