/-
  The document's ring that changes: Served, Defer, Begin (layer 41).
  Conditions: at most 2^39 numbers in all; no number is 0.
-/
import Derived.Test.YtlbijkafcododaaChecked
import Derived.Test.YtlbijkafcododaaRingS
namespace Go.Proofs.Ytlbijkafcododaa
set_option linter.unusedVariables false
set_option linter.unusedSimpArgs false
open Go.RowKit Go.ChangeShapes Go.WideShapes
set_option maxRecDepth 100000

theorem refServed_x (X : Nat → Prop) (g : Nat) (a b : List Int) (m : Int) (w : World) (hX : ∀ x, X x → x < w.heap.size) (h : RefX X w g a b m) (hp : ∀ x ∈ b, x ≠ 0) (hi : ∀ i, InK .i64 (b.getD i 0)) (hn : a.length + b.length ≤ 549755813888) :
    Calls Try.prog 24 #[.pointer (some ⟨g, 0, none⟩)] w fun e w' => e = .returned (.bool (decide (0 < b.length))) ∧ RefX X w' g a (turned b) m ∧ w.grownBy w' (some g) := by
  have H := Lib.hid h
  have hy1 := hi 0
  clear h
  obtain ⟨y, hy⟩ : ∃ y, b.getD 0 0 = y := ⟨_, rfl⟩
  obtain ⟨t, ht⟩ : ∃ t, decide (0 < b.length) = t := ⟨_, rfl⟩
  have N := Lib.hid (refTake_x X g a b m w H.out)
  rw [hy] at N hy1
  rw [ht]
  have HT := Lib.hid ht
  have HY := Lib.hid hy
  have HI := Lib.hid hy1
  have HP := Lib.hid hp
  clear ht hy hy1 hp hi
  go_enter Try.func24, Try.ntmps24
  go_wp2_with fail
  refine N.out.mono ?_
  rintro e w1 ⟨rfl, hr, hg⟩
  have HR := Lib.hid hr
  have HG := Lib.hid hg
  clear hr hg N
  by_cases h0 : b.length = 0
  · obtain rfl : b = [] := List.length_eq_zero_iff.1 h0
    obtain rfl : false = t := HT.out
    obtain rfl : (0 : Int) = y := HY.out
    go_wp2_with fail
    go_ret
    exact ⟨rfl, HR.out, HG.out⟩
  · obtain rfl : true = t := by rw [← HT.out]; simp; omega
    have hy0 : y ≠ 0 := by
      rw [← HY.out]
      refine HP.out _ ?_
      rw [List.getD_eq_getElem?_getD, List.getElem?_eq_getElem (by omega)]
      exact List.getElem_mem _
    have t1 : (y == 0) = false := by simp [hy0]
    have ET := Lib.hid (show turned b = b.drop 1 ++ [y] by unfold turned; rw [if_neg h0, HY.out])
    obtain ⟨A, n, c, A', n', c', hB, hs, hs'⟩ := HR.out.out
    have hl := hs.n_eq
    have hl' := hs'.n_eq
    rw [List.length_drop] at hl'
    have c1 : w1.cell? ⟨g, 1, none⟩ = some (.slice A' n' c') := hB.cell 1
    have hlt := hB.lt
    have hq : n' ≤ 549755813888 := by omega
    have BB := Lib.hid hB
    have HS := Lib.hid hs
    have HS' := Lib.hid hs'
    clear hB hs hs' hl hl' h0 hy0
    go_wp2_with fail
    refine (with_any A' n' c' (b.drop 1) y w1 (HS'.out.more (fun _ h => h.1.1)) HI.out hq).mono ?_
    rintro e w3 ⟨B, q, r, rfl, s3, hb⟩
    have K3 := Lib.hid hb
    have BB := Lib.hid (BB.out.later hb)
    have z3 := hb.size
    have f1 := BB.out.frozen 1
    have c1 := BB.out.cell 1
    have lt3 := BB.out.lt
    have S3 := Lib.hid (s3.more (S' := fun x => (x < w3.heap.size ∧ ¬ X x) ∧ x ≠ g) (fun x hx => ⟨⟨hx.2, fun e => by have := hx.1; have := hX x e; have := HG.out.size; omega⟩, fun e => by have := hx.1; omega⟩))
    have HS := Lib.hid ((HS.out.below hb (fun _ h => h.1.1)).more (S' := fun x => (x < w3.heap.size ∧ ¬ X x) ∧ x ≠ g) (fun x hx => ⟨⟨Nat.lt_of_lt_of_le hx.1.1 z3, hx.1.2⟩, hx.2⟩))
    clear hb s3 HS'
    go_wp2_with fail
    go_ret
    refine ⟨rfl, ⟨A, n, c, _, _, _, BB.out.set_ 1 _, ?_, ?_⟩, grown_grown (grown_below HG.out K3.out) (grown_set _ _ _ _)⟩
    · exact (HS.out.keep (w' := w3.setCell ⟨g, 1, none⟩ _) (fun k hk => Below.heap_setCell _ _ _ _ hk.2)).more (fun k hk => ⟨by simpa using hk.1, hk.2⟩)
    · rw [ET.out]
      exact (S3.out.keep (w' := w3.setCell ⟨g, 1, none⟩ _) (fun k hk => Below.heap_setCell _ _ _ _ hk.2)).more (fun k hk => ⟨by simpa using hk.1, hk.2⟩)

theorem refDefer_x (X : Nat → Prop) (g : Nat) (a b : List Int) (m : Int) (w : World) (hX : ∀ x, X x → x < w.heap.size) (h : RefX X w g a b m) (hp : ∀ x ∈ b, x ≠ 0) (hi : ∀ i, InK .i64 (b.getD i 0)) (hn : a.length + b.length ≤ 549755813888) :
    Calls Try.prog 26 #[.pointer (some ⟨g, 0, none⟩)] w fun e w' => e = .returned (.bool (decide (0 < b.length))) ∧ RefX X w' g (aside a b) (b.drop 1) m ∧ w.grownBy w' (some g) := by
  have H := Lib.hid h
  have hy1 := hi 0
  clear h
  obtain ⟨y, hy⟩ : ∃ y, b.getD 0 0 = y := ⟨_, rfl⟩
  obtain ⟨t, ht⟩ : ∃ t, decide (0 < b.length) = t := ⟨_, rfl⟩
  have N := Lib.hid (refTake_x X g a b m w H.out)
  rw [hy] at N hy1
  rw [ht]
  have HT := Lib.hid ht
  have HY := Lib.hid hy
  have HI := Lib.hid hy1
  have HP := Lib.hid hp
  clear ht hy hy1 hp hi
  go_enter Try.func26, Try.ntmps26
  go_wp2_with fail
  refine N.out.mono ?_
  rintro e w1 ⟨rfl, hr, hg⟩
  have HR := Lib.hid hr
  have HG := Lib.hid hg
  clear hr hg N
  by_cases h0 : b.length = 0
  · obtain rfl : b = [] := List.length_eq_zero_iff.1 h0
    obtain rfl : false = t := HT.out
    obtain rfl : (0 : Int) = y := HY.out
    go_wp2_with fail
    go_ret
    exact ⟨rfl, HR.out, HG.out⟩
  · obtain rfl : true = t := by rw [← HT.out]; simp; omega
    have hy0 : y ≠ 0 := by
      rw [← HY.out]
      refine HP.out _ ?_
      rw [List.getD_eq_getElem?_getD, List.getElem?_eq_getElem (by omega)]
      exact List.getElem_mem _
    have t1 : (y == 0) = false := by simp [hy0]
    have ET := Lib.hid (show aside a b = a ++ [y] by unfold aside; rw [if_neg h0, HY.out])
    obtain ⟨A, n, c, A', n', c', hB, hs, hs'⟩ := HR.out.out
    have hl := hs.n_eq
    have hl' := hs'.n_eq
    rw [List.length_drop] at hl'
    have c1 : w1.cell? ⟨g, 0, none⟩ = some (.slice A n c) := hB.cell 0
    have hlt := hB.lt
    have hq : n ≤ 549755813888 := by omega
    have BB := Lib.hid hB
    have HS := Lib.hid hs
    have HS' := Lib.hid hs'
    clear hB hs hs' hl hl' h0 hy0
    go_wp2_with fail
    refine (with_any A n c (a) y w1 (HS.out.more (fun _ h => h.1.1)) HI.out hq).mono ?_
    rintro e w3 ⟨B, q, r, rfl, s3, hb⟩
    have K3 := Lib.hid hb
    have BB := Lib.hid (BB.out.later hb)
    have z3 := hb.size
    have f1 := BB.out.frozen 0
    have c1 := BB.out.cell 0
    have lt3 := BB.out.lt
    have S3 := Lib.hid (s3.more (S' := fun x => (x < w3.heap.size ∧ ¬ X x) ∧ x ≠ g) (fun x hx => ⟨⟨hx.2, fun e => by have := hx.1; have := hX x e; have := HG.out.size; omega⟩, fun e => by have := hx.1; omega⟩))
    have HS' := Lib.hid ((HS'.out.below hb (fun _ h => h.1.1)).more (S' := fun x => (x < w3.heap.size ∧ ¬ X x) ∧ x ≠ g) (fun x hx => ⟨⟨Nat.lt_of_lt_of_le hx.1.1 z3, hx.1.2⟩, hx.2⟩))
    clear hb s3 HS
    go_wp2_with fail
    go_ret
    refine ⟨rfl, ⟨_, _, _, A', n', c', BB.out.set_ 0 _, ?_, ?_⟩, grown_grown (grown_below HG.out K3.out) (grown_set _ _ _ _)⟩
    · rw [ET.out]
      exact (S3.out.keep (w' := w3.setCell ⟨g, 0, none⟩ _) (fun k hk => Below.heap_setCell _ _ _ _ hk.2)).more (fun k hk => ⟨by simpa using hk.1, hk.2⟩)
    · exact (HS'.out.keep (w' := w3.setCell ⟨g, 0, none⟩ _) (fun k hk => Below.heap_setCell _ _ _ _ hk.2)).more (fun k hk => ⟨by simpa using hk.1, hk.2⟩)

theorem refBegin_x (X : Nat → Prop) (g : Nat) (a b : List Int) (m : Int) (w : World) (hX : ∀ x, X x → x < w.heap.size) (h : RefX X w g a b m) (hn : a.length + b.length ≤ 549755813888) :
    Calls Try.prog 22 #[.pointer (some ⟨g, 0, none⟩)] w fun e w' => e = .returned (.tuple #[]) ∧ RefX X w' g [] (a ++ b) m ∧ w.grownBy w' (some g) := by
  have H := Lib.hid h
  clear h
  go_enter Try.func22, Try.ntmps22
  go_wp2_with fail
  refine (refAll_any X g a b m w H.out hn).mono ?_
  rintro e w1 ⟨B, q, r, rfl, hs, hb⟩
  obtain ⟨A, n, c, A', n', c', hB, _, _⟩ := (H.out.later hb).out
  have hlt := hB.lt
  have BB := Lib.hid hB
  have K1 := Lib.hid hb
  have c0 := hB.cell 0
  have c1 := hB.cell 1
  have f0 := hB.frozen 0
  have f1 := hB.frozen 1
  have lg : g < w.heap.size := by obtain ⟨_, _, _, _, _, _, h1, _⟩ := H.out.out; exact h1.lt
  have S1 := Lib.hid (hs.more (S' := fun x => (x < w1.heap.size ∧ ¬ X x) ∧ x ≠ g) (fun x hx => ⟨⟨hx.2, fun e => by have := hx.1; have := hX x e; omega⟩, fun e => by have := hx.1; omega⟩))
  clear hs hb hB
  go_wp2_with fail
  refine bodyPost_end (results_none rfl _ _ _) rfl ?_
  refine ⟨rfl, ⟨none, 0, 0, B, q, r, (BB.out.set_ 1 _).set_ 0 _, Sl.nil _ _ _, ?_⟩, grown_trans K1.out (grown_grown (grown_set _ _ _ _) (grown_set _ _ _ _))⟩
  refine (S1.out.keep (fun k hk => ?_)).more (fun k hk => ⟨by simpa using hk.1, hk.2⟩)
  rw [Below.heap_setCell _ _ _ _ hk.2, Below.heap_setCell _ _ _ _ hk.2]
end Go.Proofs.Ytlbijkafcododaa
