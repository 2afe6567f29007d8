/-
  What is done to a store, seen from a request: one that has ended stays as it stands, the others only go on; the states together are all requests (layer 42; no program in sight).
  Conditions: none.
-/
import Derived.Test.YtlhnapjglebacaaStoreAC
namespace Go.Proofs.Ytlhnapjglebacaa
set_option linter.unusedVariables false
set_option linter.unusedSimpArgs false

def Ended (r : Req) : Prop := r.state = 3 ∨ r.state = 4
/-- How a request goes on. -/
structure GoesOn (r r' : Req) : Prop where
  ended : Ended r → r'.state = r.state ∧ r'.a = r.a
  on : r.state ≤ r'.state
theorem GoesOn.refl (r : Req) : GoesOn r r := ⟨fun _ => ⟨rfl, rfl⟩, Int.le_refl _⟩
theorem GoesOn.trans {r s t : Req} (h : GoesOn r s) (k : GoesOn s t) : GoesOn r t :=
  ⟨fun e => by have h1 := h.ended e; have h2 := k.ended (by unfold Ended at *; rw [h1.1]; exact e); exact ⟨h2.1.trans h1.1, h2.2.trans h1.2⟩, Int.le_trans h.on k.on⟩

structure After (rs rs' : List Req) : Prop where
  at_ : ∀ (i : Nat) (r : Req), rs[i]? = some r → ∃ r', rs'[i]? = some r' ∧ GoesOn r r'
theorem After.refl (rs : List Req) : After rs rs := ⟨fun i r h => ⟨r, h, .refl r⟩⟩
theorem After.trans {a b c : List Req} (h : After a b) (k : After b c) : After a c :=
  ⟨fun i r hr => let ⟨s, hs, h1⟩ := h.at_ i r hr; let ⟨t, ht, h2⟩ := k.at_ i s hs; ⟨t, ht, h1.trans h2⟩⟩
theorem After.push (rs : List Req) (r : Req) : After rs (rs ++ [r]) :=
  ⟨fun i x hx => ⟨x, by rw [List.getElem?_append_left (List.getElem?_eq_some_iff.1 hx).1]; exact hx, .refl x⟩⟩
theorem After.set {rs : List Req} {i : Nat} {r r' : Req} (hi : rs[i]? = some r) (h : GoesOn r r') : After rs (rs.set i r') := by
  refine ⟨fun j x hx => ?_⟩
  rw [List.getElem?_set]
  by_cases e : i = j
  · subst e
    have hl := (List.getElem?_eq_some_iff.1 hi).1
    rw [if_pos rfl, if_pos hl]
    rw [hi] at hx
    obtain rfl := Option.some.inj hx
    exact ⟨r', rfl, h⟩
  · rw [if_neg e]
    exact ⟨x, hx, .refl x⟩
theorem openZero_ {rs : List Req} {i : Nat} {r : Req} {id : Int} (h0 : openCode rs id = 0) (hid : id = (i : Int) + 1) (hi : rs[i]? = some r) : r.state = 1 ∨ r.state = 2 := by
  unfold openCode at h0
  rw [hid, reqOf_nth, hi] at h0
  replace h0 : (if r.state = 1 ∨ r.state = 2 then (0 : Int) else 33) = 0 := h0
  by_cases h : r.state = 1 ∨ r.state = 2
  · exact h
  · rw [if_neg h] at h0; cases h0
theorem runZero_ {rs : List Req} {i : Nat} {r : Req} {id : Int} (h0 : runCode rs id = 0) (hid : id = (i : Int) + 1) (hi : rs[i]? = some r) : r.state = 2 := by
  unfold runCode at h0
  rw [hid, reqOf_nth, hi] at h0
  replace h0 : (if r.state = 1 then (31 : Int) else if r.state = 2 then 0 else 33) = 0 := h0
  by_cases h1 : r.state = 1
  · rw [if_pos h1] at h0; cases h0
  · by_cases h2 : r.state = 2
    · exact h2
    · rw [if_neg h1, if_neg h2] at h0; cases h0

/-- All states are ones. -/
def Stated (rs : List Req) : Prop := ∀ (i : Nat) (r : Req), rs[i]? = some r → 1 ≤ r.state ∧ r.state ≤ 4
theorem Stated.nil : Stated [] := fun i r h => by simp at h
theorem Stated.push {rs : List Req} {r : Req} (h : Stated rs) (hr : 1 ≤ r.state ∧ r.state ≤ 4) : Stated (rs ++ [r]) := by
  intro i x hx
  rcases Nat.lt_or_ge i rs.length with hl | hl
  · rw [List.getElem?_append_left hl] at hx; exact h i x hx
  · have := (List.getElem?_eq_some_iff.1 hx).1
    simp at this
    obtain rfl : i = rs.length := by omega
    simp at hx
    rw [← hx]; exact hr
theorem Stated.set {rs : List Req} {r : Req} {j : Nat} (h : Stated rs) (hr : 1 ≤ r.state ∧ r.state ≤ 4) : Stated (rs.set j r) := by
  intro i x hx
  rw [List.getElem?_set] at hx
  by_cases e : j = i
  · subst e
    rw [if_pos rfl] at hx
    split at hx
    · rw [← Option.some.inj hx]; exact hr
    · cases hx
  · rw [if_neg e] at hx; exact h i x hx

theorem doOp_goes (rs : List Req) (m : Int) (o : Do) (hs : Stated rs) : After rs (doOp rs m o) ∧ Stated (doOp rs m o) ∧ ((rs.length : Int) ≤ m → ((doOp rs m o).length : Int) ≤ m) := by
  unfold doOp
  split
  · split
    · exact ⟨.refl _, hs, id⟩
    · rename_i hne
      exact ⟨.push _ _, hs.push ⟨(by decide : (1 : Int) ≤ 1), (by decide : (1 : Int) ≤ 4)⟩, fun h => by simp; omega⟩
  · split
    · by_cases h0 : openCode rs o.id = 0
      · obtain ⟨i, r, hid, hi, hri, hc | hc⟩ := run_good h0
        · rw [hc.2]; exact ⟨.refl _, hs, id⟩
        · rw [hc.2]
          exact ⟨.set hri ⟨fun e => by unfold Ended at e; omega, by show r.state ≤ 2; omega⟩, hs.set ⟨(by decide : (1 : Int) ≤ 2), (by decide : (2 : Int) ≤ 4)⟩, fun h => by simpa using h⟩
      · rw [run_bad h0]; exact ⟨.refl _, hs, id⟩
    · split
      · by_cases h0 : runCode rs o.id = 0
        · obtain ⟨i, r, hid, hi, hri, hc⟩ := move_good (p := o.p) h0
          have h2 := runZero_ h0 hid hri
          rw [hc]
          exact ⟨.set hri ⟨fun e => by unfold Ended at e; omega, Int.le_refl _⟩, hs.set (hs i r hri), fun h => by simpa using h⟩
        · rw [move_bad (p := o.p) h0]; exact ⟨.refl _, hs, id⟩
      · split
        · by_cases h0 : runCode rs o.id = 0
          · obtain ⟨i, r, hid, hi, hri, hc⟩ := answer_good (a := o.a) h0
            have h2 := runZero_ h0 hid hri
            rw [hc]
            exact ⟨.set hri ⟨fun e => by unfold Ended at e; omega, by show r.state ≤ 3; omega⟩, hs.set ⟨(by decide : (1 : Int) ≤ 3), (by decide : (3 : Int) ≤ 4)⟩, fun h => by simpa using h⟩
          · rw [answer_bad (a := o.a) h0]; exact ⟨.refl _, hs, id⟩
        · by_cases h0 : openCode rs o.id = 0
          · obtain ⟨i, r, hid, hi, hri, hc⟩ := cancel_good h0
            have h2 := openZero_ h0 hid hri
            rw [hc]
            exact ⟨.set hri ⟨fun e => by unfold Ended at e; omega, by show r.state ≤ 4; omega⟩, hs.set ⟨(by decide : (1 : Int) ≤ 4), (by decide : (4 : Int) ≤ 4)⟩, fun h => by simpa using h⟩
          · rw [cancel_bad h0]; exact ⟨.refl _, hs, id⟩

theorem many_cons (r : Req) (rs : List Req) (st : Int) : many (r :: rs) st = many rs st + (if r.state = st then 1 else 0) := by
  unfold many
  rw [List.countP_cons]
  by_cases h : r.state = st
  · rw [if_pos (by simpa using h), if_pos h]
  · rw [if_neg (by simpa using h), if_neg h]
theorem Stated.tail {r : Req} {rs : List Req} (h : Stated (r :: rs)) : Stated rs := fun i x hx => h (i + 1) x (by simpa using hx)
theorem many_sum {rs : List Req} (h : Stated rs) : many rs 1 + many rs 2 + many rs 3 + many rs 4 = rs.length := by
  induction rs with
  | nil => rfl
  | cons r rs ih =>
    have h1 := ih h.tail
    have h2 := h 0 r rfl
    simp only [many_cons, List.length_cons]
    have : r.state = 1 ∨ r.state = 2 ∨ r.state = 3 ∨ r.state = 4 := by omega
    rcases this with e | e | e | e <;> rw [e] <;> simp <;> omega
theorem many_le (rs : List Req) (st : Int) : many rs st ≤ rs.length := List.countP_le_length
end Go.Proofs.Ytlhnapjglebacaa
