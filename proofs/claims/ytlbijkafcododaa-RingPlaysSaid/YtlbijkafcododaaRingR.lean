/-
  The document's ring: All, Has, take (layer 41).
  Conditions: at most 2^39 numbers in all.
-/
import Derived.Test.YtlbijkafcododaaChecked
import Derived.Test.YtlbijkafcododaaRingQ
namespace Go.Proofs.Ytlbijkafcododaa
set_option linter.unusedVariables false
set_option linter.unusedSimpArgs false
open Go.RowKit Go.ChangeShapes Go.WideShapes
set_option maxRecDepth 100000

/-- A ring of the document's lies in block g; its rows lie in none of X's blocks. -/
structure RefX (X : Nat → Prop) (w : World) (g : Nat) (a b : List Int) (m : Int) : Prop where
  out : ∃ A n c A' n' c', Blk w g 31 #[.slice A n c, .slice A' n' c', .int .i64 m] ∧ Sl (tInt .i64) w (fun x => (x < w.heap.size ∧ ¬ X x) ∧ x ≠ g) A n c a ∧ Sl (tInt .i64) w (fun x => (x < w.heap.size ∧ ¬ X x) ∧ x ≠ g) A' n' c' b

theorem RefX.later {X : Nat → Prop} {w w' : World} {g : Nat} {a b : List Int} {m : Int} (h : RefX X w g a b m) (hb : Below w.heap.size w w') : RefX X w' g a b m := by
  obtain ⟨A, n, c, A', n', c', h1, h2, h3⟩ := h.out
  exact ⟨A, n, c, A', n', c', h1.later hb, (h2.below hb (fun _ h => h.1.1)).more (fun _ h => ⟨⟨Nat.lt_of_lt_of_le h.1.1 hb.size, h.1.2⟩, h.2⟩), (h3.below hb (fun _ h => h.1.1)).more (fun _ h => ⟨⟨Nat.lt_of_lt_of_le h.1.1 hb.size, h.1.2⟩, h.2⟩)⟩

theorem refAll_any (X : Nat → Prop) (g : Nat) (a b : List Int) (m : Int) (w : World) (h : RefX X w g a b m) (hn : a.length + b.length ≤ 549755813888) :
    Calls Try.prog 18 #[.pointer (some ⟨g, 0, none⟩)] w (RetSl (tInt .i64) w (a ++ b)) := by
  obtain ⟨A, n, c, A', n', c', hB, hs, hs'⟩ := h.out
  rw [hs.n_eq, hs'.n_eq] at hn
  have c0 : w.cell? ⟨g, 0, none⟩ = some (.slice A n c) := hB.cell 0
  have hlt := hB.lt
  have BB := Lib.hid hB
  have H := Lib.hid (hs.more (S' := blo w.heap.size) (fun _ h => h.1.1))
  have H' := Lib.hid (hs'.more (S' := blo w.heap.size) (fun _ h => h.1.1))
  clear h hB hs hs'
  go_enter Try.func18, Try.ntmps18
  have o0 := Own.fresh (k := .i64) (W := w) (E := 3) (base := w.heap.size) (Nat.le_refl _)
  have k0 : Below w.heap.size w (w.alloc (.cells #[] 3)) := (Below.refl _ _).alloc (Nat.le_refl _) _
  have s0 := H.out.later k0 (Nat.le_refl _)
  go_wp2_with (first
    | (at_builtin; refine wpList_extend rfl (.tmp 4) (.tmp 8) rfl ei_int rfl o0 rfl s0 (by unfold maxLen; omega) (by omega) k0.size ?_; intro v1 w1 o1 g1 a1; rw [Nat.zero_add, List.nil_append] at o1; have b1 := k0.grown g1 k0.size (fun k h => (o0.lt k h).1); have s1 := H'.out.later b1 (Nat.le_refl _); have c1 : w1.cell? ⟨g, 1, none⟩ = some (.slice A' n' c') := (BB.out.later b1).cell 1)
    | (at_builtin; refine wpList_extend rfl (.tmp 10) (.tmp 14) rfl ei_int rfl o1 rfl s1 (by unfold maxLen; omega) (by omega) b1.size ?_; intro v2 w2 o2 g2 a2))
  go_ret
  exact o2.ret (by decide) (b1.grown g2 b1.size (fun k h => (o1.lt k h).1)) (fun b h => h.elim)

theorem refHas_any (X : Nat → Prop) (g : Nat) (a b : List Int) (m y : Int) (w : World) (h : RefX X w g a b m) (hn : a.length + b.length ≤ 549755813888) :
    Calls Try.prog 17 #[.pointer (some ⟨g, 0, none⟩), .int .i64 y] w fun e w' => e = .returned (.bool ((a ++ b).contains y)) ∧ Below w.heap.size w w' := by
  have H := Lib.hid h
  clear h
  rw [← spot_contains]
  obtain ⟨sp, hsp⟩ : ∃ sp, spot (a ++ b) y = sp := ⟨_, rfl⟩
  have F := Lib.hid (fun A n c w h => find_any A n c (a ++ b) y w h)
  rw [hsp] at F ⊢
  clear hsp
  go_enter Try.func17, Try.ntmps17
  go_wp2_with fail
  refine (refAll_any X g a b m w H.out hn).mono ?_
  rintro e w1 ⟨B, q, r, rfl, hs, hb⟩
  have S1 := Lib.hid (hs.more bin_blo)
  have B1 := Lib.hid hb
  clear hs hb
  go_wp2_with fail
  refine (F.out B q r w1 S1.out).mono ?_
  rintro e w2 ⟨rfl, hb⟩
  have B2 := below_call B1.out hb B1.out.size
  clear hb F
  go_wp2_with fail
  go_ret
  exact ⟨rfl, B2⟩
end Go.Proofs.Ytlbijkafcododaa
