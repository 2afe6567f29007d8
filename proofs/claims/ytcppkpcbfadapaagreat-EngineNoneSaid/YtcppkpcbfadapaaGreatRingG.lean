/-
  Whose turn it is goes behind all, or aside (ring, layer 41).
  Conditions: at most 2^39 numbers.
-/
import Derived.Test.YtcppkpcbfadapaaGreatChecked
import Derived.Test.YtcppkpcbfadapaaGreatRingF
namespace Go.Proofs.YtcppkpcbfadapaaGreat
set_option linter.unusedVariables false
set_option linter.unusedSimpArgs false
open Go.RowKit Go.ChangeShapes Go.WideShapes
set_option maxRecDepth 100000

def aside (a b : List Int) : List Int := if b.length = 0 then a else a ++ [b.getD 0 0]

theorem ringDefer_x (X : Nat → Prop) (g : Nat) (a b : List Int) (m : Int) (w : World) (hX : ∀ x, X x → x < w.heap.size) (h : RingX X w g a b m) (hn : a.length ≤ 549755813888) :
    Calls Tryz.prog 62 #[.pointer (some ⟨g, 0, none⟩)] w fun e w' => e = .returned (.bool (decide (0 < b.length))) ∧ RingX X w' g (aside a b) (b.drop 1) m ∧ w.grownBy w' (some g) := by
  have H := Lib.hid h
  have hy1 := h.at_.inAll 0
  clear h
  obtain ⟨y, hy⟩ : ∃ y, b.getD 0 0 = y := ⟨_, rfl⟩
  obtain ⟨t, ht⟩ : ∃ t, decide (0 < b.length) = t := ⟨_, rfl⟩
  have N := Lib.hid (fun w (H : RingX X w g a b m) => ringTurn_x X g a b m w H)
  rw [hy] at N hy1
  rw [ht] at N ⊢
  have HT := Lib.hid ht
  have HY := Lib.hid hy
  have HI := Lib.hid hy1
  clear ht hy hy1
  go_enter Tryz.func62, Tryz.ntmps62
  go_wp2_with fail
  refine (N.out w H.out).mono ?_
  rintro e w1 ⟨rfl, hr, hg⟩
  have HR := Lib.hid hr
  have HG := Lib.hid hg
  clear hr hg N
  by_cases h0 : b.length = 0
  · obtain rfl : b = [] := List.length_eq_zero_iff.1 h0
    obtain rfl : false = t := HT.out
    go_wp2_with fail
    go_ret
    exact ⟨rfl, HR.out, HG.out⟩
  · obtain rfl : true = t := by rw [← HT.out]; simp; omega
    have ET := Lib.hid (show aside a b = a ++ [y] by unfold aside; rw [if_neg h0, HY.out])
    obtain ⟨A, n, c, A', n', c', hB, hs, hs'⟩ := HR.out.out
    have hl := hs.n_eq
    have c1 : w1.cell? ⟨g, 0, none⟩ = some (.slice A n c) := hB.cell 0
    have hlt := hB.lt
    have hq : n + 1 ≤ 1099511627776 := by omega
    have BB := Lib.hid hB
    have HS := Lib.hid hs
    have HS' := Lib.hid hs'
    clear hB hs hs' hl h0
    go_wp2_with fail
    have k1 : Below w1.heap.size w1 ((w1.alloc (.cells #[.int .i64 y] 3)).alloc (.cells #[.slice A n c, .slice (some ⟨w1.heap.size, 0, none⟩) 1 1] 45)) := ((Below.refl _ _).alloc (Nat.le_refl _) _).alloc (by simp) _
    have bR := Blk.now (w1.alloc (.cells #[.int .i64 y] 3)) (w1.heap.size + 1) 45 #[.slice A n c, .slice (some ⟨w1.heap.size, 0, none⟩) 1 1] (by simp)
    refine (joined_any A (some ⟨w1.heap.size, 0, none⟩) n c 1 1 (w1.heap.size + 1) a [y] _ ((HS.out.more (S' := blo w1.heap.size) (fun _ h => h.1.1)).later k1 (Nat.le_refl _))
      (Sl.lit [y] (heap_past (heap_now _ _ _ rfl) _) rfl (by simpa using HI.out) (by simp [blo]; omega) rfl rfl (by simp [maxLen])) (bR.cell 0) (bR.cell 1) hq).mono ?_
    rintro e w3 ⟨B, q, r, rfl, s3, hb⟩
    have K3 := Lib.hid (below_call k1 hb k1.size)
    have BB := Lib.hid (BB.out.later K3.out)
    have z3 : w1.heap.size < w3.heap.size := Nat.lt_of_lt_of_le (by simp; omega) hb.size
    have f1 := BB.out.frozen 0
    have c1 := BB.out.cell 0
    have lt3 := BB.out.lt
    have S3 := Lib.hid (s3.more (S' := fun x => (x < w3.heap.size ∧ ¬ X x) ∧ x ≠ g) (fun x hx => ⟨⟨hx.2, fun e => by have := hx.1; have := hX x e; have := HG.out.size; simp at *; omega⟩, fun e => by have := hx.1; simp at this; omega⟩))
    have HS' := Lib.hid ((HS'.out.below K3.out (fun _ h => h.1.1)).more (S' := fun x => (x < w3.heap.size ∧ ¬ X x) ∧ x ≠ g) (fun x hx => ⟨⟨Nat.lt_trans hx.1.1 z3, hx.1.2⟩, hx.2⟩))
    clear k1 bR hb s3 HS
    go_wp2_with fail
    go_ret
    refine ⟨rfl, ⟨_, _, _, A', n', c', BB.out.set_ 0 _, ?_, ?_⟩, grown_grown (grown_below HG.out K3.out) (grown_set _ _ _ _)⟩
    · rw [ET.out]
      exact (S3.out.keep (w' := w3.setCell ⟨g, 0, none⟩ _) (fun k hk => Below.heap_setCell _ _ _ _ hk.2)).more (fun k hk => ⟨by simpa using hk.1, hk.2⟩)
    · exact (HS'.out.keep (w' := w3.setCell ⟨g, 0, none⟩ _) (fun k hk => Below.heap_setCell _ _ _ _ hk.2)).more (fun k hk => ⟨by simpa using hk.1, hk.2⟩)


theorem ringDefer_any (g : Nat) (a b : List Int) (m : Int) (w : World) (h : RingAt w g a b m) (hn : a.length ≤ 549755813888) :
    Calls Tryz.prog 62 #[.pointer (some ⟨g, 0, none⟩)] w fun e w' => e = .returned (.bool (decide (0 < b.length))) ∧ RingAt w' g (aside a b) (b.drop 1) m ∧ w.grownBy w' (some g) :=
  (ringDefer_x (fun _ => False) g a b m w (fun _ h => h.elim) (h.x fun _ _ => id) hn).mono fun e w' h => ⟨h.1, h.2.1.at_, h.2.2⟩
end Go.Proofs.YtcppkpcbfadapaaGreat
