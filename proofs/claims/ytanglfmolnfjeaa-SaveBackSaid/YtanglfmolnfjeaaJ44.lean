/-
  The document's comparison of equal tensors (layer 5).
  Conditions: none.
  The document's comparison of equal points (layer 36).
  Conditions: none.
-/
import Derived.Test.YtanglfmolnfjeaaChecked
import Derived.Test.YtanglfmolnfjeaaJ12
import Derived.Test.YtanglfmolnfjeaaJ25
namespace Go.Proofs.Ytanglfmolnfjeaa
set_option linter.unusedVariables false
set_option linter.unusedSimpArgs false
open Go.RowKit Go.ChangeShapes Go.WideShapes
set_option maxRecDepth 100000
set_option maxHeartbeats 1000000

theorem same05_eq (t : Tensor) (A B : Option Addr) (n c m d : Nat) (w : World) (h : Sl (tInt .i8) w (blo w.heap.size) A n c t.data) (h' : Sl (tInt .i8) w (blo w.heap.size) B m d t.data) :
    Calls Try.prog 25 #[.agg #[.int .i64 t.h, .int .i64 t.v, .int .i64 t.c, .slice A n c], .agg #[.int .i64 t.h, .int .i64 t.v, .int .i64 t.c, .slice B m d]] w fun e w' => e = .returned (.bool true) ∧ Below w.heap.size w w' := by
  have hm : n ≤ 9223372036854775807 := Nat.le_trans h.cap_le h.max_le
  have hnm : m = n := h'.n_eq.symm.trans h.n_eq
  subst hnm
  have H := Lib.hid h
  have H' := Lib.hid h'
  clear h h'
  obtain ⟨W2, hW2⟩ : ∃ W2, (w.alloc (.cells #[.int .i64 t.h, .int .i64 t.v, .int .i64 t.c, .slice A m c] 26)).alloc (.cells #[.int .i64 t.h, .int .i64 t.v, .int .i64 t.c, .slice B m d] 26) = W2 := ⟨_, rfl⟩
  have g2 : Below w.heap.size w W2 := by rw [← hW2]; exact ((Below.refl _ _).alloc (Nat.le_refl _) _).alloc (by simp) _
  have BA := Lib.hid (show Blk W2 w.heap.size 26 #[.int .i64 t.h, .int .i64 t.v, .int .i64 t.c, .slice A m c] by rw [← hW2]; exact (Blk.now _ _ _ _ rfl).past _)
  have BB := Lib.hid (show Blk W2 (w.heap.size + 1) 26 #[.int .i64 t.h, .int .i64 t.v, .int .i64 t.c, .slice B m d] by rw [← hW2]; exact Blk.now _ _ _ _ (by simp))
  have HW := Lib.hid hW2
  clear hW2
  go_enter Try.func25, Try.ntmps25
  go_wp2_with fail
  rw [HW.out]
  clear HW
  have G2 := Lib.hid g2
  clear g2
  go_loopw [5] (fun i wr => ∃ k : Nat, k ≤ m ∧ i = .int .i64 k ∧ Below W2.heap.size W2 wr) (fun i _ => m - (intOf i).toNat)
  case atStart => exact ⟨0, Nat.zero_le _, rfl, Below.refl _ _⟩
  case round =>
    obtain ⟨k, hk, rfl, hb⟩ := hrel
    have HB := Lib.hid hb
    have bA := BA.out.later hb
    have bB := BB.out.later hb
    have a3 : wr.cell? ⟨w.heap.size, 3, none⟩ = some (.slice A m c) := bA.cell 3
    have b3 : wr.cell? ⟨w.heap.size + 1, 3, none⟩ = some (.slice B m d) := bB.cell 3
    have g3 := below_call G2.out hb G2.out.size
    have G3 := Lib.hid g3
    by_cases hlt : k < m
    · have t1 : decide ((k : Int) < (m : Int)) = true := by simp; omega
      obtain ⟨b1, o1, rfl, _, _, c1, _⟩ := (H.out.later g3 (Nat.le_refl _)).int_at k hlt
      obtain ⟨b2, o2, rfl, _, _, c2, _⟩ := (H'.out.later g3 (Nat.le_refl _)).int_at k hlt
      generalize t.data.getD k 0 = y at *
      have ty : (y != y) = false := by simp
      have p0 : (0 : Int) ≤ (k : Int) := by omega
      have p1 : (k : Int) < (m : Int) := by omega
      clear hb bA bB g3 hlt
      go_wp2_with fail
      go_quiet (fail)
      have hq : Below W2.heap.size W2 (wr.drewN nq) := below_drewN HB.out nq
      generalize wr.drewN nq = wq at *
      go_wp2_with fail
      exact ⟨⟨k + 1, by omega, by go_num, hq⟩, by simp [intOf]; omega⟩
    · obtain rfl : k = m := by omega
      have t1 : decide ((k : Int) < (k : Int)) = false := by simp
      clear hb bA bB g3 hlt
      go_wp2_with fail
      go_ret
      exact ⟨rfl, G3.out⟩
end Go.Proofs.Ytanglfmolnfjeaa
namespace Go.Proofs.Ytanglfmolnfjeaa
set_option linter.unusedVariables false
set_option linter.unusedSimpArgs false
open Go.RowKit Go.ChangeShapes Go.WideShapes
set_option maxRecDepth 100000
set_option maxHeartbeats 2000000

theorem same36_eq (p : Pt) (A B A' B' : Option Addr) (n c m d n' c' m' d' : Nat) (w : World) (h1 : Sl (tInt .i8) w (blo w.heap.size) A n c p.input.data) (h2 : Sl (tInt .i8) w (blo w.heap.size) B m d p.value.data)
    (h3 : Sl (tInt .i8) w (blo w.heap.size) A' n' c' p.input.data) (h4 : Sl (tInt .i8) w (blo w.heap.size) B' m' d' p.value.data) :
    Calls Try.prog 13 #[.agg (ptCells p A n c B m d), .agg (ptCells p A' n' c' B' m' d')] w fun e w' => e = .returned (.bool true) ∧ Below w.heap.size w w' := by
  have H1 := Lib.hid h1
  have H2 := Lib.hid h2
  have H3 := Lib.hid h3
  have H4 := Lib.hid h4
  clear h1 h2 h3 h4
  obtain ⟨W2, hW2⟩ : ∃ W2, (w.alloc (.cells (ptCells p A n c B m d) 36)).alloc (.cells (ptCells p A' n' c' B' m' d') 36) = W2 := ⟨_, rfl⟩
  have G2 := Lib.hid (show Below w.heap.size w W2 by rw [← hW2]; exact ((Below.refl _ _).alloc (Nat.le_refl _) _).alloc (by simp) _)
  have BA := Lib.hid (show Blk W2 w.heap.size 36 (ptCells p A n c B m d) by rw [← hW2]; exact (Blk.now _ _ _ _ rfl).past _)
  have BB := Lib.hid (show Blk W2 (w.heap.size + 1) 36 (ptCells p A' n' c' B' m' d') by rw [← hW2]; exact Blk.now _ _ _ _ (by simp))
  unfold ptCells at *
  have HW := Lib.hid hW2
  clear hW2
  go_enter Try.func13, Try.ntmps13
  go_wp2_with fail
  rw [HW.out]
  clear HW
  refine (same05_eq p.input A A' n c n' c' W2 (H1.out.later G2.out (Nat.le_refl _)) (H3.out.later G2.out (Nat.le_refl _))).mono ?_
  rintro e w3 ⟨rfl, b3⟩
  have G3 := Lib.hid (below_call G2.out b3 G2.out.size)
  have bA := BA.out.later b3
  have bB := BB.out.later b3
  have cA := fun i => bA.cell i
  have cB := fun i => bB.cell i
  clear bA bB b3
  go_wp2_with fail
  refine (same05_eq p.value B B' m d m' d' w3 (H2.out.later G3.out (Nat.le_refl _)) (H4.out.later G3.out (Nat.le_refl _))).mono ?_
  rintro e w4 ⟨rfl, b4⟩
  have g4 := below_call G3.out b4 G3.out.size
  clear cA cB b4
  go_wp2_with fail
  go_ret
  exact ⟨rfl, g4⟩

end Go.Proofs.Ytanglfmolnfjeaa
