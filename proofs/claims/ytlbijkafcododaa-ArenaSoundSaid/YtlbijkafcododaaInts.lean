/-
  slices.Clone at []int; rows of numbers that are alike (layer 22's Same).
  Conditions: at most 2^40 numbers (Clone).
-/
import Derived.Test.YtlbijkafcododaaChecked
import Derived.Test.YtlbijkafcododaaRingB
import Derived.Test.YtlbijkafcododaaExtend
namespace Go.Proofs.Ytlbijkafcododaa
set_option linter.unusedVariables false
set_option linter.unusedSimpArgs false
open Go.RowKit Go.ChangeShapes Go.WideShapes
set_option maxRecDepth 100000

theorem Own.fresh0 {k : IntKind} {W : World} {E : TypeId} {base : Nat} (hb : base ≤ W.heap.size) : Own (tInt k) (W.alloc (.cells #[] E)) (fun _ => False) base E (.slice (some ⟨W.heap.size, 0, none⟩) 0 0) 0 [] :=
  ⟨[], ⟨rfl, .inr ⟨_, 0, #[], rfl, hb, heap_alloc_new _ _, Nat.le_refl _, by decide, rfl, rfl⟩⟩, rfl⟩

theorem clonei_any (A : Option Addr) (n c : Nat) (l : List Int) (w : World) (h : Sl (tInt .i64) w (blo w.heap.size) A n c l) (hn : n ≤ 1099511627776) :
    Calls Try.prog 87 #[.slice A n c] w fun e w' => ∃ v, e = .returned v ∧ Own (tInt .i64) w' (fun _ => False) w.heap.size 3 v n l ∧ Below w.heap.size w w' := by
  cases A with
  | none =>
    have hc := h.nil_ rfl
    have hm := h.cap_le
    obtain rfl : c = 0 := hc
    obtain rfl : n = 0 := by omega
    obtain rfl : l = [] := List.length_eq_zero_iff.1 h.n_eq
    clear h
    have q0 := fun w => Lib.run_eql_slice_nil (P := Try.prog) w 29 3 none 0 0 0 0 Try.underlying29
    simp only [Option.isNone_none] at q0
    go_enter Try.func87, Try.ntmps87
    go_wp2_with fail
    go_ret
    exact ⟨_, rfl, Own.nil _ _ _ _ _, Below.refl _ _⟩
  | some ad =>
    have H := Lib.hid h
    clear h
    have q0 := fun w => Lib.run_eql_slice_nil (P := Try.prog) w 29 3 (some ad) n c 0 0 Try.underlying29
    simp only [Option.isNone_some] at q0
    go_enter Try.func87, Try.ntmps87
    have o0 := Own.fresh0 (k := .i64) (W := w) (E := 3) (base := w.heap.size) (Nat.le_refl _)
    have k0 : Below w.heap.size w (w.alloc (.cells #[] 3)) := (Below.refl _ _).alloc (Nat.le_refl _) _
    have s0 := H.out.later k0 (Nat.le_refl _)
    go_wp2_with (at_builtin; refine wpList_extend rfl _ _ rfl ei_int rfl o0 rfl s0 (by unfold maxLen; omega) (by omega) k0.size ?_; intro v' w' o' g' a')
    go_ret
    rw [Nat.zero_add, List.nil_append] at o'
    exact ⟨_, rfl, o', k0.grown g' k0.size (fun k h => (o0.lt k h).1)⟩

theorem samei_eq (A A' : Option Addr) (n cap n' cap' : Nat) (l : List Int) (w : World) (h : Sl (tInt .i64) w (blo w.heap.size) A n cap l) (h' : Sl (tInt .i64) w (blo w.heap.size) A' n' cap' l) :
    Calls Try.prog 32 #[.slice A n cap, .slice A' n' cap'] w fun e w' => e = .returned (.bool true) ∧ Below w.heap.size w w' := by
  have hm : n ≤ 9223372036854775807 := Nat.le_trans h.cap_le h.max_le
  obtain rfl : n = n' := h.n_eq.symm.trans h'.n_eq
  have H := Lib.hid h
  have H' := Lib.hid h'
  clear h h'
  have d1 : ((n : Int) != (n : Int)) = false := by simp
  go_enter Try.func32, Try.ntmps32
  go_wp2_with fail
  go_loopw [5] (fun i wr => ∃ k : Nat, k ≤ n ∧ i = .int .i64 k ∧ wr.heap = w.heap ∧ Below w.heap.size w wr) (fun i _ => n - (intOf i).toNat)
  case atStart => exact ⟨0, Nat.zero_le _, rfl, rfl, Below.refl _ _⟩
  case round =>
    obtain ⟨k, hk, rfl, hh, hb⟩ := hrel
    by_cases hlt : k < n
    · obtain ⟨b, off, rfl, _, _, c0, i0⟩ := (H.out.below hb (fun _ h => h)).int_at k hlt
      obtain ⟨b', off', rfl, _, _, c1, i1⟩ := (H'.out.below hb (fun _ h => h)).int_at k hlt
      have HH := Lib.hid hh
      clear hh i0 i1
      generalize hx : l.getD k 0 = x at *
      have d3 : (x != x) = false := by simp
      clear hx
      go_wp2_with fail
      go_quiet (fail)
      go_wp2_with fail
      exact ⟨⟨k + 1, by omega, by go_num, HH.out, below_drewN hb _⟩, by simp [intOf]; omega⟩
    · obtain rfl : k = n := by omega
      go_wp2_with fail
      go_ret
      exact ⟨rfl, hb⟩
end Go.Proofs.Ytlbijkafcododaa
