/-
  A ring that changes (layer 41).
  Conditions: at most 2^40 numbers in all.
-/
import Derived.Test.YtcppkpcbfadapaaGreatChecked
import Derived.Test.YtcppkpcbfadapaaGreatRingD
namespace Go.Proofs.YtcppkpcbfadapaaGreat
set_option linter.unusedVariables false
set_option linter.unusedSimpArgs false
open Go.RowKit Go.ChangeShapes Go.WideShapes
set_option maxRecDepth 100000

theorem grown_set (w : World) (g i : Nat) (u : Value) : w.grownBy (w.setCell ⟨g, i, none⟩ u) (some g) :=
  have b0 : Below 0 w (w.setCell ⟨g, i, none⟩ u) := (Below.refl 0 w).setCell (Nat.zero_le _) u
  ⟨b0.os, b0.tape, b0.output, b0.size, fun k hk hne => Below.heap_setCell w ⟨g, i, none⟩ u k (fun e => hne (by rw [e]))⟩

theorem grown_trans {w w1 w2 : World} {g : Nat} (h : Below w.heap.size w w1) (h2 : w1.grownBy w2 (some g)) : w.grownBy w2 (some g) :=
  ⟨h2.os.trans h.os, h2.tape.trans h.tape, h2.output.trans h.output, Nat.le_trans h.size h2.size, fun k hk hne => (h2.block k (Nat.lt_of_lt_of_le hk h.size) hne).trans (h.block k hk)⟩

theorem ringTurn_x (X : Nat → Prop) (g : Nat) (a b : List Int) (m : Int) (w : World) (h : RingX X w g a b m) :
    Calls Tryz.prog 89 #[.pointer (some ⟨g, 0, none⟩)] w fun e w' => e = .returned (.tuple #[.int .i64 (b.getD 0 0), .bool (decide (0 < b.length))]) ∧ RingX X w' g a (b.drop 1) m ∧ w.grownBy w' (some g) := by
  have H := Lib.hid h
  clear h
  obtain ⟨y, hy⟩ : ∃ y, b.getD 0 0 = y := ⟨_, rfl⟩
  obtain ⟨t, ht⟩ : ∃ t, decide (0 < b.length) = t := ⟨_, rfl⟩
  have N := Lib.hid (fun w (H : RingX X w g a b m) => ringNext_any g a b m w H.at_)
  rw [hy, ht] at N ⊢
  have HT := Lib.hid ht
  clear ht hy
  go_enter Tryz.func89, Tryz.ntmps89
  go_wp2_with fail
  refine (N.out w H.out).mono ?_
  rintro e w1 ⟨rfl, _, hb⟩
  have H1 := Lib.hid (H.out.later hb)
  have HB := Lib.hid hb
  clear hb N
  by_cases h0 : b.length = 0
  · obtain rfl : b = [] := List.length_eq_zero_iff.1 h0
    obtain rfl : false = t := HT.out
    go_wp2_with fail
    go_ret2
    exact ⟨rfl, H1.out, ⟨HB.out.os, HB.out.tape, HB.out.output, HB.out.size, fun k hk _ => HB.out.block k hk⟩⟩
  · obtain rfl : true = t := by rw [← HT.out]; simp; omega
    obtain ⟨A, n, c, A', n', c', hB, hs, hs'⟩ := H1.out.out
    have hl := hs'.n_eq
    obtain ⟨bb, off, rfl, hbb, _, _, _⟩ := hs'.int_at 0 (by omega)
    have c1 : w1.cell? ⟨g, 1, none⟩ = some (.slice (some ⟨bb, off, none⟩) n' c') := hB.cell 1
    have f1 := hB.frozen 1
    have hc := hs'.cap_le
    have hm : c' ≤ 9223372036854775807 := hs'.max_le
    have hn1 : 1 ≤ n' := by omega
    have S1 := Lib.hid (hs'.sub 1 (n' - 1) 1 (c' - 1) rfl (by omega) (by omega) (by omega))
    have HS := Lib.hid hs
    have BB := Lib.hid hB
    have HL := Lib.hid hl
    clear hB hs hs' hl h0
    by_cases hc1 : c' = 1
    · subst hc1
      obtain rfl : n' = 1 := by omega
      go_wp2_with fail
      go_ret2
      refine ⟨rfl, ⟨A, n, c, _, _, _, BB.out.set_ 1 _, ?_, ?_⟩, grown_trans HB.out (grown_set _ _ _ _)⟩
      · exact (HS.out.keep (w' := w1.setCell ⟨g, 1, none⟩ _) (fun k hk => Below.heap_setCell _ _ _ _ hk.2)).more (fun k hk => ⟨by simpa using hk.1, hk.2⟩)
      · have e : b.drop 1 = [] := List.drop_eq_nil_of_le (by rw [HL.out]; exact Nat.le_refl _)
        rw [e]
        exact ⟨rfl, Nat.le_refl _, Nat.zero_le _, fun _ => rfl, by simp⟩
    · go_wp2_with fail
      go_ret2
      refine ⟨rfl, ⟨A, n, c, _, _, _, BB.out.set_ 1 _, ?_, ?_⟩, grown_trans HB.out (grown_set _ _ _ _)⟩
      · exact (HS.out.keep (w' := w1.setCell ⟨g, 1, none⟩ _) (fun k hk => Below.heap_setCell _ _ _ _ hk.2)).more (fun k hk => ⟨by simpa using hk.1, hk.2⟩)
      · have e : (b.drop 1).take (n' - 1) = b.drop 1 := List.take_of_length_le (by rw [List.length_drop, HL.out]; exact Nat.le_refl _)
        have s := S1.out
        rw [e] at s
        exact (s.keep (w' := w1.setCell ⟨g, 1, none⟩ _) (fun k hk => Below.heap_setCell _ _ _ _ hk.2)).more (fun k hk => ⟨by simpa using hk.1, hk.2⟩)

theorem ringTurn_any (g : Nat) (a b : List Int) (m : Int) (w : World) (h : RingAt w g a b m) :
    Calls Tryz.prog 89 #[.pointer (some ⟨g, 0, none⟩)] w fun e w' => e = .returned (.tuple #[.int .i64 (b.getD 0 0), .bool (decide (0 < b.length))]) ∧ RingAt w' g a (b.drop 1) m ∧ w.grownBy w' (some g) :=
  (ringTurn_x (fun _ => False) g a b m w (h.x fun _ _ => id)).mono fun e w' h => ⟨h.1, h.2.1.at_, h.2.2⟩
end Go.Proofs.YtcppkpcbfadapaaGreat
