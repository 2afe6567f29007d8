/-
  The document's ring that changes: take, Leave, Begin (layer 41).
  Conditions: at most 2^39 numbers in all.
-/
import Derived.Test.YtlbijkafcododaaChecked
import Derived.Test.YtlbijkafcododaaRingR
namespace Go.Proofs.Ytlbijkafcododaa
set_option linter.unusedVariables false
set_option linter.unusedSimpArgs false
open Go.RowKit Go.ChangeShapes Go.WideShapes
set_option maxRecDepth 100000

theorem refTake_x (X : Nat → Prop) (g : Nat) (a b : List Int) (m : Int) (w : World) (h : RefX X w g a b m) :
    Calls Try.prog 81 #[.pointer (some ⟨g, 0, none⟩)] w fun e w' => e = .returned (.int .i64 (b.getD 0 0)) ∧ RefX X w' g a (b.drop 1) m ∧ w.grownBy w' (some g) := by
  have H := Lib.hid h
  obtain ⟨A, n, c, A', n', c', hB, hs, hs'⟩ := h.out
  have hl := hs'.n_eq
  have hm : c' ≤ 9223372036854775807 := hs'.max_le
  have hc := hs'.cap_le
  have c1 : w.cell? ⟨g, 1, none⟩ = some (.slice A' n' c') := hB.cell 1
  have f1 := hB.frozen 1
  have BB := Lib.hid hB
  have HS := Lib.hid hs
  by_cases h0 : n' = 0
  · subst h0
    obtain rfl : b = [] := List.length_eq_zero_iff.1 hl
    clear h hB hs hs' hl
    go_enter Try.func81, Try.ntmps81
    go_wp2_with fail
    go_ret
    exact ⟨rfl, H.out, ⟨rfl, rfl, rfl, Nat.le_refl _, fun _ _ _ => rfl⟩⟩
  · have t1 : ((n' : Int) == 0) = false := by simp [h0]
    obtain ⟨bb, off, rfl, hbb, _, cc, _⟩ := hs'.int_at 0 (by omega)
    rw [Nat.add_zero] at cc
    have S1 := Lib.hid (hs'.sub 1 (n' - 1) 1 (c' - 1) rfl (by omega) (by omega) (by omega))
    have HL := Lib.hid hl
    obtain ⟨y, hy⟩ : ∃ y, b.getD 0 0 = y := ⟨_, rfl⟩
    rw [hy] at cc ⊢
    have hn1 : 1 ≤ n' := by omega
    have hpos : (0 : Int) < (n' : Int) := by omega
    clear h hB hs hs' hl h0 hy H
    by_cases hc1 : c' = 1
    · subst hc1
      obtain rfl : n' = 1 := by omega
      go_enter Try.func81, Try.ntmps81
      go_wp2_with fail
      go_ret
      refine ⟨rfl, ⟨A, n, c, _, _, _, BB.out.set_ 1 _, ?_, ?_⟩, grown_set _ _ _ _⟩
      · exact (HS.out.keep (w' := w.setCell ⟨g, 1, none⟩ _) (fun k hk => Below.heap_setCell _ _ _ _ hk.2)).more (fun k hk => ⟨by simpa using hk.1, hk.2⟩)
      · have e : b.drop 1 = [] := List.drop_eq_nil_of_le (by rw [HL.out]; exact Nat.le_refl _)
        rw [e]
        exact ⟨rfl, Nat.le_refl _, Nat.zero_le _, fun _ => rfl, by simp⟩
    · go_enter Try.func81, Try.ntmps81
      go_wp2_with fail
      go_ret
      refine ⟨rfl, ⟨A, n, c, _, _, _, BB.out.set_ 1 _, ?_, ?_⟩, grown_set _ _ _ _⟩
      · exact (HS.out.keep (w' := w.setCell ⟨g, 1, none⟩ _) (fun k hk => Below.heap_setCell _ _ _ _ hk.2)).more (fun k hk => ⟨by simpa using hk.1, hk.2⟩)
      · have e : (b.drop 1).take (n' - 1) = b.drop 1 := List.take_of_length_le (by rw [List.length_drop, HL.out]; exact Nat.le_refl _)
        have s := S1.out
        rw [e] at s
        exact (s.keep (w' := w.setCell ⟨g, 1, none⟩ _) (fun k hk => Below.heap_setCell _ _ _ _ hk.2)).more (fun k hk => ⟨by simpa using hk.1, hk.2⟩)

theorem refLeave_x (X : Nat → Prop) (g : Nat) (a b : List Int) (m : Int) (w : World) (h : RefX X w g a b m) (hp : ∀ x ∈ b, x ≠ 0) :
    Calls Try.prog 28 #[.pointer (some ⟨g, 0, none⟩)] w fun e w' => e = .returned (.bool (decide (0 < b.length))) ∧ RefX X w' g a (b.drop 1) m ∧ w.grownBy w' (some g) := by
  have hb : (b.getD 0 0 != 0) = decide (0 < b.length) := by
    cases b with
    | nil => rfl
    | cons x l => have := hp x (by simp); simp [this]
  have H := Lib.hid h
  rw [← hb]
  obtain ⟨y, hy⟩ : ∃ y, b.getD 0 0 = y := ⟨_, rfl⟩
  have N := Lib.hid (refTake_x X g a b m w H.out)
  rw [hy] at N ⊢
  clear h hb hy
  go_enter Try.func28, Try.ntmps28
  go_wp2_with fail
  refine N.out.mono ?_
  rintro e w1 ⟨rfl, hr, hg⟩
  have HR := Lib.hid hr
  have HG := Lib.hid hg
  clear hr hg N H
  go_wp2_with fail
  go_ret
  exact ⟨rfl, HR.out, HG.out⟩
end Go.Proofs.Ytlbijkafcododaa
