/-
  Points as bytes (layer 37), in numbers: the program's and the document's reading come to the same.
  Conditions: none.
-/
import Derived.Test.YtanglfmolnfjeaaJ41
namespace Go.Proofs.Ytanglfmolnfjeaa
set_option linter.unusedVariables false
set_option linter.unusedSimpArgs false
set_option maxRecDepth 100000

/-- A reader's error is none, or one of three. -/
def okS (s : List Int × Int) : Prop := s.2 = 0 ∨ s.2 = 3 ∨ s.2 = 20 ∨ s.2 = 21
theorem nextV_ok {s : List Int × Int} (h : okS s) : okS (nextV s).2 := by
  unfold nextV
  split
  · split
    · exact .inl rfl
    · rename_i h1 h2
      have he : ∀ l : List Int, (lebGetV l).2.2 = 0 ∨ (lebGetV l).2.2 = 20 ∨ (lebGetV l).2.2 = 21 := fun l => by
        unfold lebGetV lebGet
        split
        · split
          · exact .inr (.inr rfl)
          · exact .inl rfl
        · split
          · exact .inr (.inr rfl)
          · exact .inr (.inl rfl)
      rcases he s.1 with e | e | e
      · exact absurd e h2
      · exact .inr (.inr (.inl e))
      · exact .inr (.inr (.inr e))
  · exact h
theorem fails_ok {s : List Int × Int} (h : okS s) (e : Int) (he : e = 3 ∨ e = 20) : okS (fails e s) := by
  unfold fails
  split
  · rcases he with rfl | rfl
    · exact .inr (.inl rfl)
    · exact .inr (.inr (.inl rfl))
  · exact h
theorem cntV_ok {s : List Int × Int} (h : okS s) (m : Nat) : okS (cntV m s).2 := by
  unfold cntV
  split
  · split
    · exact fails_ok (nextV_ok h) 3 (.inl rfl)
    · exact nextV_ok h
  · exact nextV_ok h
theorem smallV_ok {s : List Int × Int} (h : okS s) (n : Nat) : okS (smallV n s).2 := by
  unfold smallV
  split
  · split
    · exact fails_ok h 20 (.inr rfl)
    · exact .inl rfl
  · exact h
theorem note_end {s : List Int × Int} (h : okS s) : noteV 0 (endV s) = s.2 := by
  unfold noteV endV
  by_cases q : s.2 = 0
  · rw [if_pos q]
    by_cases q2 : 0 < s.1.length
    · rw [if_pos q2, if_neg (by simp), q]
    · rw [if_neg q2, if_pos (by simp), q]
  · have hne : s.2 ≠ 24 := by rcases h with h | h | h | h <;> omega
    rw [if_neg q, if_pos ⟨rfl, hne⟩]
theorem note_keep {tb e : Int} (h : tb ≠ 0) : noteV tb e = tb := by unfold noteV; rw [if_neg (fun c => h c.1)]
/-- A count that fails is none. -/
theorem cntV_bad {s : List Int × Int} {m : Nat} (h : (cntV m s).2.2 ≠ 0) : (cntV m s).1 = 0 := by
  unfold cntV at h ⊢
  split
  · rename_i h1
    rw [if_pos h1] at h
    split
    · rfl
    · rename_i h2
      rw [if_neg h2] at h
      exfalso
      apply h
      unfold nextV at h1 ⊢
      split
      · rename_i q
        rw [if_pos q] at h1
        split
        · rfl
        · rename_i q2
          rw [if_neg q2] at h1
          cases h1
      · rename_i q
        rw [if_neg q] at h1
        cases h1
  · rfl

/-- The program's tensor is the document's, or there is none for the same reason. -/
theorem taken_tensor {s : List Int × Int} (h : okS s) :
    ((takenV s).1.2 = 0 → tensorV s 0 = ((takenV s).1.1, (takenV s).2, 0)) ∧ ((takenV s).1.2 ≠ 0 → (tensorV s 0).2.2 = (takenV s).1.2) := by
  have k1 := cntV_ok h 16
  have k2 := cntV_ok k1 16
  have k3 := cntV_ok k2 1024
  have eb := elems_range ((cntV 16 s).1 : Int) ((cntV 16 (cntV 16 s).2).1 : Int) ((cntV 1024 (cntV 16 (cntV 16 s).2).2).1 : Int)
  unfold takenV tensorV
  simp only
  generalize cntV 1024 (cntV 16 (cntV 16 s).2).2 = c3 at *
  generalize cntV 16 (cntV 16 s).2 = c2 at *
  generalize cntV 16 s = c1 at *
  rw [note_end k3]
  by_cases q : c3.2.2 = 0
  · rw [if_pos q, q]
    by_cases q2 : elems (c1.1 : Int) (c2.1 : Int) (c3.1 : Int) = 0
    · rw [if_pos q2, if_neg (by omega)]
      exact ⟨fun e => absurd e (by show ¬ (5 : Int) = 0; decide), fun _ => rfl⟩
    · rw [if_neg q2, if_pos (by omega)]
      simp only
      rw [note_end (smallV_ok k3 _)]
      exact ⟨fun e => by rw [e], fun _ => rfl⟩
  · rw [if_neg q]
    refine ⟨fun e => absurd e q, fun _ => ?_⟩
    by_cases q2 : 0 < elems (c1.1 : Int) (c2.1 : Int) (c3.1 : Int)
    · rw [if_pos q2]; exact note_keep q
    · rw [if_neg q2]; exact note_keep q
theorem takenV_ok {s : List Int × Int} (h : okS s) : okS (takenV s).2 := by
  have k3 := cntV_ok (cntV_ok (cntV_ok h 16) 16) 1024
  unfold takenV
  simp only
  split
  · split
    · exact k3
    · exact smallV_ok k3 _
  · exact k3
theorem tensorV_keep (s : List Int × Int) {tb : Int} (h : tb ≠ 0) : (tensorV s tb).2.2 = tb := by
  unfold tensorV
  simp only
  rw [note_keep h]
  split
  · exact note_keep h
  · exact note_keep h
theorem pointV_keep {s : List Int × Int} {tb : Int} (h : noteV tb (endV (cntV 1099511627776 (cntV 6 (cntV 3 s).2).2).2) ≠ 0) : (pointV s tb).2.2 = noteV tb (endV (cntV 1099511627776 (cntV 6 (cntV 3 s).2).2).2) := by
  unfold pointV
  simp only
  generalize noteV tb (endV (cntV 1099511627776 (cntV 6 (cntV 3 s).2).2).2) = z at *
  have h1 := tensorV_keep (cntV 1099511627776 (cntV 6 (cntV 3 s).2).2).2 h
  split
  · rw [h1]; exact note_keep h
  · rw [h1]
    have h2 := tensorV_keep (cntV 1 (tensorV (cntV 1099511627776 (cntV 6 (cntV 3 s).2).2).2 z).2.1).2 h
    simp only [h2]
    split
    · exact note_keep h
    · rfl

theorem body_eq (b : List Int) :
    (if (pointV (b, 0) 0).2.2 = 0 then (if endV (pointV (b, 0) 0).2.1 = 0 then ((pointV (b, 0) 0).1, 0) else (noPoint, endV (pointV (b, 0) 0).2.1)) else (noPoint, (pointV (b, 0) 0).2.2)) = rbodyV b := by
  have k0 : okS (b, 0) := .inl rfl
  have k1 := cntV_ok k0 3
  have k2 := cntV_ok k1 6
  have k3 := cntV_ok k2 1099511627776
  have PK := @pointV_keep (b, 0) 0
  unfold rbodyV
  simp only
  by_cases q : (cntV 1099511627776 (cntV 6 (cntV 3 (b, 0)).2).2).2.2 = 0
  rotate_left
  · rw [if_neg q]
    rw [note_end k3] at PK
    rw [PK q, if_neg q]
  rw [if_pos q]
  clear PK
  unfold pointV
  simp only
  rw [note_end k3, q]
  generalize cntV 1099511627776 (cntV 6 (cntV 3 (b, 0)).2).2 = c3 at *
  generalize cntV 6 (cntV 3 (b, 0)).2 = c2 at *
  generalize cntV 3 (b, 0) = c1 at *
  obtain ⟨T0, T1⟩ := taken_tensor k3
  have kt := takenV_ok k3
  by_cases qe : (takenV c3.2).1.2 = 0
  rotate_left
  · rw [if_neg qe]
    have e := T1 qe
    by_cases h0 : (cntV 1 (tensorV c3.2 0).2.1).1 = 0
    · rw [if_pos h0]
      simp only
      rw [e, note_keep qe, if_neg qe]
    · rw [if_neg h0]
      simp only
      rw [e, tensorV_keep _ qe]
      by_cases hl : likeT (tensorV c3.2 0).1 (tensorV (cntV 1 (tensorV c3.2 0).2.1).2 (takenV c3.2).1.2).1 = true
      · rw [if_pos hl, note_keep qe, if_neg qe]
      · rw [if_neg hl, if_neg qe]
  rw [if_pos qe, T0 qe]
  simp only
  have kk := cntV_ok kt 1
  have kb := @cntV_bad (takenV c3.2).2 1
  have kl := cntV_le 1 (takenV c3.2).2
  generalize (takenV c3.2).2 = s4 at *
  generalize (takenV c3.2).1.1 = t1 at *
  generalize cntV 1 s4 = k at *
  by_cases qk : k.2.2 = 0
  rotate_left
  · rw [if_neg qk, if_pos (kb qk)]
    simp only
    rw [note_end kk, if_neg qk]
  rw [if_pos qk]
  by_cases q1 : k.1 = 1
  rotate_left
  · have q0 : k.1 = 0 := by omega
    rw [if_neg q1, if_pos q0]
    simp only
    rw [note_end kk, if_pos qk]
    rfl
  · have q0 : ¬ k.1 = 0 := by omega
    rw [if_pos q1, if_neg q0]
    obtain ⟨U0, U1⟩ := taken_tensor kk
    by_cases qu : (takenV k.2).1.2 = 0
    rotate_left
    · rw [if_neg qu, U1 qu]
      by_cases hl : likeT t1 (tensorV k.2 0).1 = true
      · rw [if_pos hl, note_keep qu, if_neg qu]
      · rw [if_neg hl, if_neg qu]
    · rw [if_pos qu, U0 qu]
      simp only
      cases hl : likeT t1 (takenV k.2).1.1 with
      | true => simp [noteV]
      | false => simp [rendV]

theorem getV_eq (l : List Int) : getV l = rgetV l := by
  unfold getV rgetV
  rw [body_eq]
end Go.Proofs.Ytanglfmolnfjeaa
