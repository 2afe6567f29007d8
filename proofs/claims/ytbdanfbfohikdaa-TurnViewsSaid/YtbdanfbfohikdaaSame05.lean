/-
  The document's comparison of equal tensors (layer 5).
  Conditions: none.
-/
import Derived.Test.YtbdanfbfohikdaaChecked
import Derived.Test.YtbdanfbfohikdaaNode
namespace Go.Proofs.Ytbdanfbfohikdaa
set_option linter.unusedVariables false
set_option linter.unusedSimpArgs false
open Go.RowKit Go.ChangeShapes Go.WideShapes
set_option maxRecDepth 100000
set_option maxHeartbeats 1000000

theorem same05_eq (t : Tensor) (A B : Option Addr) (n c m d : Nat) (w : World) (h : Sl (tInt .i8) w (blo w.heap.size) A n c t.data) (h' : Sl (tInt .i8) w (blo w.heap.size) B m d t.data) :
    Calls Try.prog 10 #[.agg #[.int .i64 t.h, .int .i64 t.v, .int .i64 t.c, .slice A n c], .agg #[.int .i64 t.h, .int .i64 t.v, .int .i64 t.c, .slice B m d]] w fun e w' => e = .returned (.bool true) ∧ Below w.heap.size w w' := by
  have hm : n ≤ 9223372036854775807 := Nat.le_trans h.cap_le h.max_le
  have hnm : m = n := h'.n_eq.symm.trans h.n_eq
  subst hnm
  have H := Lib.hid h
  have H' := Lib.hid h'
  clear h h'
  obtain ⟨W2, hW2⟩ : ∃ W2, (w.alloc (.cells #[.int .i64 t.h, .int .i64 t.v, .int .i64 t.c, .slice A m c] 26)).alloc (.cells #[.int .i64 t.h, .int .i64 t.v, .int .i64 t.c, .slice B m d] 26) = W2 := ⟨_, rfl⟩
  have g2 : Below w.heap.size w W2 := by rw [← hW2]; exact ((Below.refl _ _).alloc (Nat.le_refl _) _).alloc (by simp) _
  have BA := Lib.hid (show Blk W2 w.heap.size 26 #[.int .i64 t.h, .int .i64 t.v, .int .i64 t.c, .slice A m c] by rw [← hW2]; exact (Blk.now _ _ _ _ rfl).past _)
  have BB := Lib.hid (show Blk W2 (w.heap.size + 1) 26 #[.int .i64 t.h, .int .i64 t.v, .int .i64 t.c, .slice B m d] by rw [← hW2]; exact Blk.now _ _ _ _ (by simp))
  have HW := Lib.hid hW2
  clear hW2
  go_enter Try.func10, Try.ntmps10
  go_wp2_with fail
  rw [HW.out]
  clear HW
  have G2 := Lib.hid g2
  clear g2
  go_loopw [5] (fun i wr => ∃ k : Nat, k ≤ m ∧ i = .int .i64 k ∧ Below W2.heap.size W2 wr) (fun i _ => m - (intOf i).toNat)
  case atStart => exact ⟨0, Nat.zero_le _, rfl, Below.refl _ _⟩
  case round =>
    obtain ⟨k, hk, rfl, hb⟩ := hrel
    have HB := Lib.hid hb
    have bA := BA.out.later hb
    have bB := BB.out.later hb
    have a3 : wr.cell? ⟨w.heap.size, 3, none⟩ = some (.slice A m c) := bA.cell 3
    have b3 : wr.cell? ⟨w.heap.size + 1, 3, none⟩ = some (.slice B m d) := bB.cell 3
    have g3 := below_call G2.out hb G2.out.size
    have G3 := Lib.hid g3
    by_cases hlt : k < m
    · have t1 : decide ((k : Int) < (m : Int)) = true := by simp; omega
      obtain ⟨b1, o1, rfl, _, _, c1, _⟩ := (H.out.later g3 (Nat.le_refl _)).int_at k hlt
      obtain ⟨b2, o2, rfl, _, _, c2, _⟩ := (H'.out.later g3 (Nat.le_refl _)).int_at k hlt
      generalize t.data.getD k 0 = y at *
      have ty : (y != y) = false := by simp
      have p0 : (0 : Int) ≤ (k : Int) := by omega
      have p1 : (k : Int) < (m : Int) := by omega
      clear hb bA bB g3 hlt
      go_wp2_with fail
      go_quiet (fail)
      have hq : Below W2.heap.size W2 (wr.drewN nq) := below_drewN HB.out nq
      generalize wr.drewN nq = wq at *
      go_wp2_with fail
      exact ⟨⟨k + 1, by omega, by go_num, hq⟩, by simp [intOf]; omega⟩
    · obtain rfl : k = m := by omega
      have t1 : decide ((k : Int) < (k : Int)) = false := by simp
      clear hb bA bB g3 hlt
      go_wp2_with fail
      go_ret
      exact ⟨rfl, G3.out⟩
end Go.Proofs.Ytbdanfbfohikdaa
