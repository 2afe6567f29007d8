/-
  The document's ring: Remove; New refuses (layer 41).
  Conditions: at most 2^39 numbers in all.
-/
import Derived.Test.YtlbijkafcododaaChecked
import Derived.Test.YtlbijkafcododaaRingT
namespace Go.Proofs.Ytlbijkafcododaa
set_option linter.unusedVariables false
set_option linter.unusedSimpArgs false
open Go.RowKit Go.ChangeShapes Go.WideShapes
set_option maxRecDepth 100000

def without (l : List Int) (y : Int) : List Int := l.filter (fun x => x != y)

theorem refRemove_x (X : Nat → Prop) (g : Nat) (a b : List Int) (m y : Int) (w : World) (hX : ∀ x, X x → x < w.heap.size) (h : RefX X w g a b m) (hn : a.length + b.length ≤ 549755813888) :
    Calls Try.prog 30 #[.pointer (some ⟨g, 0, none⟩), .int .i64 y] w fun e w' => e = .returned (.bool ((a ++ b).contains y)) ∧
      (if (a ++ b).contains y then RefX X w' g (without a y) (without b y) m else RefX X w' g a b m) ∧ w.grownBy w' (some g) := by
  have H := Lib.hid h
  clear h
  obtain ⟨t, ht⟩ : ∃ t, (a ++ b).contains y = t := ⟨_, rfl⟩
  have N := Lib.hid (refHas_any X g a b m y w H.out hn)
  rw [ht] at N ⊢
  clear ht
  go_enter Try.func30, Try.ntmps30
  go_wp2_with fail
  refine N.out.mono ?_
  rintro e w1 ⟨rfl, b1⟩
  have H1 := Lib.hid (H.out.later b1)
  have K1 := Lib.hid b1
  clear N b1
  cases t
  · go_wp2_with fail
    go_ret
    exact ⟨rfl, H1.out, ⟨K1.out.os, K1.out.tape, K1.out.output, K1.out.size, fun k hk _ => K1.out.block k hk⟩⟩
  · obtain ⟨A, n, c, A', n', c', hB, hs, hs'⟩ := H1.out.out
    have hl := hs.n_eq
    have hl' := hs'.n_eq
    have hq : n ≤ 549755813888 := by omega
    have hq' : n' ≤ 549755813888 := by omega
    have c0 : w1.cell? ⟨g, 0, none⟩ = some (.slice A n c) := hB.cell 0
    have BB := Lib.hid hB
    have HS := Lib.hid hs
    have HS' := Lib.hid hs'
    have z1 := K1.out.size
    have lg : g < w.heap.size := by obtain ⟨_, _, _, _, _, _, h1, _⟩ := H.out.out; exact h1.lt
    clear hB hs hs' hl hl' H H1
    go_wp2_with fail
    refine (without_any A n c a y w1 (HS.out.more (fun _ h => h.1.1)) hq).mono ?_
    rintro e w3 ⟨B, q, r, rfl, s3, hb⟩
    have BB3 := BB.out.later hb
    have f3 := BB3.frozen 0
    have c3 := BB3.cell 0
    have z3 := hb.size
    have K3 := Lib.hid hb
    obtain ⟨w4, hw4⟩ : ∃ w4, w3.setCell ⟨g, 0, none⟩ (.slice B q r) = w4 := ⟨_, rfl⟩
    have BB4 := Lib.hid (show Blk w4 g 31 #[.slice B q r, .slice A' n' c', .int .i64 m] by rw [← hw4]; exact BB3.set_ 0 _)
    have g34 : w3.grownBy w4 (some g) := by rw [← hw4]; exact grown_set _ _ _ _
    have S4 := Lib.hid ((s3.keep (w' := w4) (fun b hb => g34.block b hb.2 (by have := hb.1; intro e; have := Option.some.inj e; omega))).more (S' := fun x => (x < w4.heap.size ∧ ¬ X x) ∧ x ≠ g) (fun x hx => ⟨⟨Nat.lt_of_lt_of_le hx.2 g34.size, fun e => by have := hx.1; have := hX x e; omega⟩, fun e => by have := hx.1; omega⟩))
    have HS4 := Lib.hid ((HS'.out.keep (w' := w4) (fun x hx => (g34.block x (Nat.lt_of_lt_of_le hx.1.1 z3) (by simpa using hx.2)).trans (hb.block x hx.1.1))).more (S' := fun x => (x < w4.heap.size ∧ ¬ X x) ∧ x ≠ g) (fun x hx => ⟨⟨Nat.lt_of_lt_of_le hx.1.1 (Nat.le_trans z3 g34.size), hx.1.2⟩, hx.2⟩))
    have G4 := Lib.hid (grown_trans K1.out (grown_trans K3.out g34))
    have c4 : w4.cell? ⟨g, 1, none⟩ = some (.slice A' n' c') := BB4.out.cell 1
    have z4 := G4.out.size
    have HW4 := Lib.hid hw4
    clear hw4 s3 hb BB3 g34 c4 c0
    have c4b : (w3.setCell ⟨g, 0, none⟩ (.slice B q r)).cell? ⟨g, 1, none⟩ = some (.slice A' n' c') := by rw [HW4.out]; exact BB4.out.cell 1
    go_wp2_with fail
    rw [HW4.out]
    refine (without_any A' n' c' b y w4 (HS4.out.more (fun _ h => h.1.1)) hq').mono ?_
    rintro e w5 ⟨B', q', r', rfl, s5, hb5⟩
    have BB5 := Lib.hid (BB4.out.later hb5)
    have f5 := BB5.out.frozen 1
    have c5 := BB5.out.cell 1
    have z5 := hb5.size
    have lg5 := BB5.out.lt
    have K5 := Lib.hid hb5
    have S5 := Lib.hid (s5.more (S' := fun x => (x < w5.heap.size ∧ ¬ X x) ∧ x ≠ g) (fun x hx => ⟨⟨hx.2, fun e => by have := hx.1; have := hX x e; omega⟩, fun e => by have := hx.1; omega⟩))
    have S4' := Lib.hid ((S4.out.below hb5 (fun _ h => h.1.1)).more (S' := fun x => (x < w5.heap.size ∧ ¬ X x) ∧ x ≠ g) (fun x hx => ⟨⟨Nat.lt_of_lt_of_le hx.1.1 z5, hx.1.2⟩, hx.2⟩))
    clear s5 hb5 c4b c3 f3
    go_wp2_with fail
    go_ret
    refine ⟨rfl, ?_, grown_grown (grown_below G4.out K5.out) (grown_set _ _ _ _)⟩
    refine ⟨_, _, _, _, _, _, BB5.out.set_ 1 _, ?_, ?_⟩
    · exact (S4'.out.keep (w' := w5.setCell ⟨g, 1, none⟩ _) (fun k hk => Below.heap_setCell _ _ _ _ hk.2)).more (fun k hk => ⟨by simpa using hk.1, hk.2⟩)
    · exact (S5.out.keep (w' := w5.setCell ⟨g, 1, none⟩ _) (fun k hk => Below.heap_setCell _ _ _ _ hk.2)).more (fun k hk => ⟨by simpa using hk.1, hk.2⟩)

theorem ringNew_bad (m : Int) (w : World) (h : m < 1 ∨ 16 < m) :
    Calls Try.prog 15 #[.int .i64 m] w fun e w' => e = .returned (.tuple #[.pointer none, .int .i64 2]) ∧ Below w.heap.size w w' := by
  by_cases h1 : m < 1
  · have t1 : decide (m < 1) = true := by simp; omega
    clear h h1
    go_enter Try.func15, Try.ntmps15
    go_wp2_with fail
    go_ret2
    exact ⟨rfl, Below.refl _ _⟩
  · have t1 : decide (m < 1) = false := by simp; omega
    have t2 : decide (16 < m) = true := by simp; omega
    clear h h1
    go_enter Try.func15, Try.ntmps15
    go_wp2_with fail
    go_ret2
    exact ⟨rfl, Below.refl _ _⟩
end Go.Proofs.Ytlbijkafcododaa
