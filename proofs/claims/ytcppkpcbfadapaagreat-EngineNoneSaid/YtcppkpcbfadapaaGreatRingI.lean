/-
  All are in line (ring, layer 41).
  Conditions: at most 2^40 numbers.
-/
import Derived.Test.YtcppkpcbfadapaaGreatChecked
import Derived.Test.YtcppkpcbfadapaaGreatRingH
namespace Go.Proofs.YtcppkpcbfadapaaGreat
set_option linter.unusedVariables false
set_option linter.unusedSimpArgs false
open Go.RowKit Go.ChangeShapes Go.WideShapes
set_option maxRecDepth 100000

theorem ringBegin_any (g : Nat) (a b : List Int) (m : Int) (w : World) (h : RingAt w g a b m) (hn : a.length + b.length ≤ 1099511627776) :
    Calls Tryz.prog 22 #[.pointer (some ⟨g, 0, none⟩)] w fun e w' => e = .returned (.tuple #[]) ∧ RingAt w' g [] (a ++ b) m ∧ w.grownBy w' (some g) := by
  have H := Lib.hid h
  clear h
  go_enter Tryz.func22, Tryz.ntmps22
  go_wp2_with fail
  refine (ringList_any g a b m w H.out hn).mono ?_
  rintro e w1 ⟨B, q, r, rfl, hs, hb⟩
  obtain ⟨A, n, c, A', n', c', hB, _, _⟩ := H.out.out
  have hlt := hB.lt
  have BB := Lib.hid (hB.later hb)
  have S3 := Lib.hid (hs.more (S' := fun x => x < w1.heap.size ∧ x ≠ g) (fun x hx => ⟨hx.2, fun e => by have := hx.1; omega⟩))
  have HB := Lib.hid hb
  have f0 := BB.out.frozen 0
  have f1 := BB.out.frozen 1
  have c0 := BB.out.cell 0
  have c1 := BB.out.cell 1
  have lt1 := BB.out.lt
  clear hB hs hb
  go_wp2_with fail
  ((try simp only [Exit.inBlock, Exit.then]); refine bodyPost_end (results_none rfl _ _ _) rfl ?_)
  refine ⟨rfl, ⟨_, _, _, _, _, _, (BB.out.set_ 1 _).set_ 0 _, Sl.nil _ _ _, ?_⟩, grown_grown (grown_trans HB.out (grown_set _ _ _ _)) (grown_set _ _ _ _)⟩
  have s1 := (S3.out.keep (w' := w1.setCell ⟨g, 1, none⟩ (.slice B q r)) (fun k hk => Below.heap_setCell _ _ _ _ hk.2)).more (S' := fun x => x < (w1.setCell ⟨g, 1, none⟩ (.slice B q r)).heap.size ∧ x ≠ g) (fun k hk => ⟨by simpa using hk.1, hk.2⟩)
  exact (s1.keep (w' := (w1.setCell ⟨g, 1, none⟩ (.slice B q r)).setCell ⟨g, 0, none⟩ (.slice none 0 0)) (fun k hk => Below.heap_setCell _ _ _ _ hk.2)).more (fun k hk => ⟨by simpa using hk.1, hk.2⟩)
end Go.Proofs.YtcppkpcbfadapaaGreat
