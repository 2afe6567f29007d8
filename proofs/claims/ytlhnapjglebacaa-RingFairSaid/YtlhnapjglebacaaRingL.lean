/-
  The plain law of RingFair: between two Begins each number is served, or stands at a lower place.
  Conditions: none.
-/
import Derived.Test.YtlhnapjglebacaaRingA
namespace Go.Proofs.Ytlhnapjglebacaa
set_option linter.unusedVariables false
set_option linter.unusedSimpArgs false

theorem spot_le {l : List Int} {x : Int} {p : Nat} (h : l[p]? = some x) : 0 ≤ spot l x ∧ spot l x ≤ p := by
  unfold spot
  obtain ⟨hp, hx⟩ := List.getElem?_eq_some_iff.1 h
  cases hf : l.findIdx? (fun y => y == x) with
  | none =>
    rw [List.findIdx?_eq_none_iff] at hf
    have := hf x (List.mem_of_getElem? h)
    simp at this
  | some k =>
    rw [List.findIdx?_eq_some_iff_getElem] at hf
    obtain ⟨hk, _, hm⟩ := hf
    dsimp only
    refine ⟨by omega, ?_⟩
    rcases Nat.lt_or_ge p k with hlt | hge
    · have := hm p hlt
      simp [hx] at this
    · omega

structure Fair (was : List Int) (j : Nat) (out line served : List Int) : Prop where
  line_eq : line = was.drop (j + 1) ++ served
  cover : ∀ k, k ≤ j → ∀ x, was[k]? = some x → x ∈ served ∨ ∃ p, p + 1 ≤ k ∧ out[p]? = some x
  len : out.length ≤ j
  tot : out.length + served.length = j + 1

theorem Fair.head {was out line served : List Int} {j : Nat} (h : Fair was j out line served) (hj : j + 1 < was.length) : line.getD 0 0 = was.getD (j + 1) 0 ∧ 0 < line.length ∧ line.drop 1 = was.drop (j + 2) ++ served := by
  have e : was.drop (j + 1) = was[j + 1] :: was.drop (j + 2) := List.drop_eq_getElem_cons hj
  rw [h.line_eq, e, List.cons_append]
  refine ⟨?_, Nat.succ_pos _, rfl⟩
  rw [List.getD_cons_zero, List.getD_eq_getElem?_getD, List.getElem?_eq_getElem hj]
  rfl

theorem Fair.serve {was out line served : List Int} {j : Nat} (h : Fair was j out line served) (hj : j + 1 < was.length) :
    Fair was (j + 1) out (line.drop 1 ++ [line.getD 0 0]) (served ++ [line.getD 0 0]) := by
  obtain ⟨h1, h2, h3⟩ := h.head hj
  refine ⟨by rw [h3, List.append_assoc], fun k hk x hx => ?_, Nat.le_succ_of_le h.len, by have := h.tot; simp; omega⟩
  rcases Nat.lt_or_ge j k with hlt | hge
  · obtain rfl : k = j + 1 := by omega
    left
    rw [h1, List.getD_eq_getElem?_getD, hx]
    simp
  · rcases h.cover k hge x hx with hc | hc
    · exact .inl (by simp [hc])
    · exact .inr hc

theorem Fair.defer {was out line served : List Int} {j : Nat} (h : Fair was j out line served) (hj : j + 1 < was.length) :
    Fair was (j + 1) (out ++ [line.getD 0 0]) (line.drop 1) served := by
  obtain ⟨h1, h2, h3⟩ := h.head hj
  refine ⟨h3, fun k hk x hx => ?_, by have := h.len; simp; omega, by have := h.tot; simp; omega⟩
  rcases Nat.lt_or_ge j k with hlt | hge
  · obtain rfl : k = j + 1 := by omega
    right
    have := h.len
    refine ⟨out.length, by omega, ?_⟩
    rw [h1, List.getD_eq_getElem?_getD, hx]
    simp
  · rcases h.cover k hge x hx with hc | ⟨p, hp, hq⟩
    · exact .inl hc
    · refine .inr ⟨p, hp, ?_⟩
      rw [List.getElem?_append_left (List.getElem?_eq_some_iff.1 hq).1]
      exact hq

theorem Fair.start (was : List Int) (h : 0 < was.length) : Fair was 0 [] (was.drop 1 ++ [was.getD 0 0]) [was.getD 0 0] := by
  refine ⟨rfl, fun k hk x hx => ?_, Nat.le_refl _, rfl⟩
  obtain rfl : k = 0 := by omega
  left
  rw [List.getD_eq_getElem?_getD, hx]
  simp

/-- At the end of a round. -/
theorem Fair.done {was out line served : List Int} {j : Nat} (h : Fair was j out line served) (k : Nat) (hk : k < was.length) :
    0 ≤ spot served (was.getD k 0) ∨ (0 ≤ spot (out ++ line) (was.getD k 0) ∧ spot (out ++ line) (was.getD k 0) < k) := by
  have hx : was[k]? = some (was.getD k 0) := by rw [List.getD_eq_getElem?_getD, List.getElem?_eq_getElem hk]; rfl
  generalize was.getD k 0 = x at *
  rcases Nat.lt_or_ge j k with hlt | hge
  · right
    have hp : (out ++ line)[out.length + (k - (j + 1))]? = some x := by
      rw [List.getElem?_append_right (by omega), h.line_eq, List.getElem?_append_left (by simp; omega), List.getElem?_drop]
      rw [show j + 1 + (out.length + (k - (j + 1)) - out.length) = k by omega]
      exact hx
    have := spot_le hp
    have := h.len
    omega
  · rcases h.cover k hge x hx with hc | ⟨p, hp, hq⟩
    · left
      obtain ⟨q, hq, hq2⟩ := List.getElem_of_mem hc
      exact (spot_le (p := q) (by rw [List.getElem?_eq_getElem hq, hq2])).1
    · right
      have := spot_le (l := out ++ line) (x := x) (p := p) (by rw [List.getElem?_append_left (List.getElem?_eq_some_iff.1 hq).1]; exact hq)
      omega
end Go.Proofs.Ytlhnapjglebacaa
