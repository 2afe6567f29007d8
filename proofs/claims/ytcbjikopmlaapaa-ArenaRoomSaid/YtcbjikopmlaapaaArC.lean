/-
  Room (layer 28): the plain law of the scan, of what is sound, of the peak; no program in sight.
  Conditions: none.
-/
import Derived.Test.YtcbjikopmlaapaaArA
namespace Go.Proofs.Ytcbjikopmlaapaa.Ar
set_option linter.unusedVariables false
set_option linter.unusedSimpArgs false

/-! ### the least free place, found in order -/
def scanTo (d : List (Int × Int)) (n : Int) : Nat → Int
  | 0 => 0
  | k + 1 => if scanTo d n k < (d.getD k (0, 0)).2 ∧ (d.getD k (0, 0)).1 < scanTo d n k + n then (d.getD k (0, 0)).2 else scanTo d n k

structure ScanOk (d : List (Int × Int)) (n : Int) (k : Nat) : Prop where
  nn : 0 ≤ scanTo d n k
  ok : ∀ j, j < k → (d.getD j (0, 0)).2 ≤ scanTo d n k ∨ scanTo d n k + n ≤ (d.getD j (0, 0)).1
  least : ∀ p, 0 ≤ p → p < scanTo d n k → ∃ j, j < k ∧ p < (d.getD j (0, 0)).2 ∧ (d.getD j (0, 0)).1 < p + n
  from_ : scanTo d n k = 0 ∨ ∃ j, j < k ∧ scanTo d n k = (d.getD j (0, 0)).2

theorem scan_ok {d : List (Int × Int)} {n : Int} (hs : ∀ i j, i < j → j < d.length → (d.getD i (0, 0)).1 ≤ (d.getD j (0, 0)).1) (k : Nat) (hk : k ≤ d.length) : ScanOk d n k := by
  induction k with
  | zero => exact ⟨Int.le_refl _, fun j hj => by omega, fun p h1 h2 => by have : scanTo d n 0 = 0 := rfl; omega, .inl rfl⟩
  | succ k ih =>
    obtain ⟨h1, h2, h3, h4⟩ := ih (by omega)
    have e : scanTo d n (k + 1) = if scanTo d n k < (d.getD k (0, 0)).2 ∧ (d.getD k (0, 0)).1 < scanTo d n k + n then (d.getD k (0, 0)).2 else scanTo d n k := rfl
    have hs' : ∀ j, j < k → (d.getD j (0, 0)).1 ≤ (d.getD k (0, 0)).1 := fun j hj => hs j k hj (by omega)
    obtain ⟨⟨f, t⟩, hx⟩ : ∃ z, d.getD k (0, 0) = z := ⟨_, rfl⟩
    rw [hx] at e
    simp only at e hs'
    generalize scanTo d n k = a at *
    by_cases c : a < t ∧ f < a + n
    · rw [if_pos c] at e
      refine ⟨by omega, fun j hj => ?_, fun p p1 p2 => ?_, .inr ⟨k, by omega, by rw [hx, e]⟩⟩
      · rw [e]
        by_cases ej : j = k
        · rw [ej, hx]; left; exact Int.le_refl _
        · rcases h2 j (by omega) with h | h
          · left; omega
          · have := hs' j (by omega); rw [hx] at this; simp only at this; omega
      · rw [e] at p2
        by_cases pa : p < a
        · obtain ⟨j, q1, q2⟩ := h3 p p1 pa
          exact ⟨j, by omega, q2⟩
        · exact ⟨k, by omega, by rw [hx]; simp only; omega⟩
    · rw [if_neg c] at e
      refine ⟨by rw [e]; exact h1, fun j hj => ?_, fun p p1 p2 => ?_, ?_⟩
      · rw [e]
        by_cases ej : j = k
        · rw [ej, hx]; simp only; omega
        · exact h2 j (by omega)
      · rw [e] at p2
        obtain ⟨j, q1, q2⟩ := h3 p p1 p2
        exact ⟨j, by omega, q2⟩
      · rw [e]
        rcases h4 with h4 | ⟨j, q1, q2⟩
        · exact .inl h4
        · exact .inr ⟨j, by omega, q2⟩

theorem scan_least {l d : List (Int × Int)} {n : Int} (hp : d.Perm l) (hs : ∀ i j, i < j → j < d.length → (d.getD i (0, 0)).1 ≤ (d.getD j (0, 0)).1) : LeastFree l n (scanTo d n d.length) := by
  obtain ⟨h1, h2, h3, h4⟩ := scan_ok (n := n) hs d.length (Nat.le_refl _)
  have hm : ∀ j, j < d.length → d.getD j (0, 0) ∈ l := fun j hj => by
    rw [List.getD_eq_getElem?_getD, List.getElem?_eq_getElem hj]
    exact hp.mem_iff.1 (List.getElem_mem _)
  have hm2 : ∀ x ∈ l, ∃ j, j < d.length ∧ d.getD j (0, 0) = x := fun x hx => by
    obtain ⟨j, hj, e⟩ := List.getElem_of_mem (hp.mem_iff.2 hx)
    exact ⟨j, hj, by rw [List.getD_eq_getElem?_getD, List.getElem?_eq_getElem hj]; exact e⟩
  refine ⟨h1, fun x hx => ?_, fun p p1 p2 hf => ?_, ?_⟩
  · obtain ⟨j, hj, rfl⟩ := hm2 x hx
    exact h2 j hj
  · obtain ⟨j, hj, q1, q2⟩ := h3 p p1 p2
    have := hf _ (hm j hj)
    omega
  · rcases h4 with h4 | ⟨j, hj, e⟩
    · exact .inl h4
    · exact .inr ⟨_, hm j hj, e⟩

/-! ### what is sound -/
def pairOk (sz un at_ : List Int) (k i : Nat) : Prop := at_.getD k 0 + sz.getD k 0 ≤ at_.getD i 0 ∨ at_.getD i 0 + sz.getD i 0 ≤ at_.getD k 0 ∨ sz.getD i 0 = 0 ∨ sz.getD k 0 = 0 ∨ togI (un.getD k 0) k i = false
instance (sz un at_ : List Int) (k i : Nat) : Decidable (pairOk sz un at_ k i) := inferInstanceAs (Decidable (_ ∨ _ ∨ _ ∨ _ ∨ _))
def rowOkTo (sz un at_ : List Int) (i k : Nat) : Prop := 0 ≤ at_.getD i 0 ∧ at_.getD i 0 ≤ 1099511627776 ∧ ∀ j, j < k → pairOk sz un at_ j i
instance (sz un at_ : List Int) (i k : Nat) : Decidable (rowOkTo sz un at_ i k) := inferInstanceAs (Decidable (_ ∧ _ ∧ _))
def rowsOk (sz un at_ : List Int) (n : Nat) : Prop := ∀ i, i < n → rowOkTo sz un at_ i i
instance (sz un at_ : List Int) (n : Nat) : Decidable (rowsOk sz un at_ n) := inferInstanceAs (Decidable (∀ i, i < n → _))
def soundOk (sz un at_ : List Int) : Prop := mayOk sz un ∧ at_.length = sz.length ∧ rowsOk sz un at_ at_.length
instance (sz un at_ : List Int) : Decidable (soundOk sz un at_) := inferInstanceAs (Decidable (_ ∧ _ ∧ _))

theorem meet_pair {sz un at_ : List Int} {i k : Nat} (h1 : k < i) (h2 : i < sz.length) (hs : ∀ j, j < sz.length → 0 ≤ sz.getD j 0) : meet sz un i (at_.getD i 0) k (at_.getD k 0) = false ↔ pairOk sz un at_ k i := by
  unfold meet pairOk
  rw [meetTo_tog h1 h2]
  have a1 := hs i h2
  have a2 := hs k (by omega)
  cases togI (un.getD k 0) k i with
  | false => simp
  | true =>
    rw [Bool.and_true, decide_eq_false_iff_not]
    unfold over
    simp only [Bool.true_eq_false, or_false]
    omega

/-! ### the peak -/
def liveTo (sz un : List Int) (i : Nat) : Nat → Int
  | 0 => sz.getD i 0
  | k + 1 => if togI (un.getD k 0) k i = true then liveTo sz un i k + sz.getD k 0 else liveTo sz un i k
def peakTo (sz un : List Int) : Nat → Int
  | 0 => 0
  | i + 1 => max (peakTo sz un i) (liveTo sz un i i)
def stepTo (sz un : List Int) (s : Nat) : Nat → Int
  | 0 => 0
  | i + 1 => if there un i s = true then stepTo sz un s i + sz.getD i 0 else stepTo sz un s i

theorem step_live (sz un : List Int) (s n : Nat) (h : s < n) : stepTo sz un s n = liveTo sz un s s := by
  have h1 : ∀ k, k ≤ s → stepTo sz un s k + sz.getD s 0 = liveTo sz un s k := by
    intro k
    induction k with
    | zero => intro _; simp [stepTo, liveTo]
    | succ k ih =>
      intro hk
      have ih := ih (by omega)
      have e : there un k s = togI (un.getD k 0) k s := by
        rw [Bool.eq_iff_iff, there_iff]
        simp only [togI, decide_eq_true_eq]
        omega
      unfold stepTo liveTo
      rw [e]
      split <;> omega
  have h2 : ∀ k, s < k → stepTo sz un s k = liveTo sz un s s := by
    intro k
    induction k with
    | zero => intro h; omega
    | succ k ih =>
      intro hk
      unfold stepTo
      by_cases e : k = s
      · subst e
        rw [if_pos (by rw [there_iff]; exact .inl rfl)]
        exact h1 k (Nat.le_refl _)
      · rw [if_neg (by rw [there_iff]; omega)]
        exact ih (by omega)
  exact h2 n h

theorem live_bd {sz un : List Int} {n : Nat} (h : ∀ i, i < n → 0 ≤ sz.getD i 0 ∧ sz.getD i 0 ≤ 1048576) (i k : Nat) (hi : i < n) (hk : k ≤ n) : 0 ≤ liveTo sz un i k ∧ liveTo sz un i k ≤ 1048576 * ((k : Int) + 1) := by
  induction k with
  | zero => have := h i hi; show 0 ≤ sz.getD i 0 ∧ sz.getD i 0 ≤ 1048576 * (((0 : Nat) : Int) + 1); omega
  | succ k ih =>
    have := ih (by omega)
    have := h k (by omega)
    unfold liveTo
    split <;> omega
theorem step_bd {sz un : List Int} {n : Nat} (h : ∀ i, i < n → 0 ≤ sz.getD i 0 ∧ sz.getD i 0 ≤ 1048576) (s k : Nat) (hk : k ≤ n) : 0 ≤ stepTo sz un s k ∧ stepTo sz un s k ≤ 1048576 * (k : Int) := by
  induction k with
  | zero => simp [stepTo]
  | succ k ih =>
    have := ih (by omega)
    have := h k (by omega)
    unfold stepTo
    split <;> omega
theorem peak_bd {sz un : List Int} {n : Nat} (h : ∀ i, i < n → 0 ≤ sz.getD i 0 ∧ sz.getD i 0 ≤ 1048576) (k : Nat) (hk : k ≤ n) : 0 ≤ peakTo sz un k ∧ peakTo sz un k ≤ 1048576 * ((n : Int) + 1) := by
  induction k with
  | zero => simp [peakTo]; omega
  | succ k ih =>
    have := ih (by omega)
    have := live_bd h k k (by omega) (by omega) (un := un)
    unfold peakTo
    omega

/-! ### the places' own bounds -/
structure Good (sz un : List Int) (i : Nat) (at_ : List Int) : Prop where
  len : at_.length = i
  bd : ∀ k, k < i → 0 ≤ at_.getD k 0 ∧ at_.getD k 0 + sz.getD k 0 ≤ sumTo sz (k + 1)
theorem Good.nil (sz un : List Int) : Good sz un 0 [] := ⟨rfl, fun k hk => by omega⟩
theorem Good.push {sz un at_ : List Int} {i n : Nat} {r : Int} (h : Good sz un i at_) (hi : i < n) (hs : ∀ j, j < n → 0 ≤ sz.getD j 0 ∧ sz.getD j 0 ≤ 1048576) (h0 : 0 ≤ r) (hc : cand sz at_ i r) : Good sz un (i + 1) (at_ ++ [r]) := by
  refine ⟨by rw [List.length_append, h.len]; rfl, fun k hk => ?_⟩
  rw [getD_append, h.len]
  by_cases e : k < i
  · rw [if_pos e]; exact h.bd k e
  · rw [if_neg e, if_pos (by omega)]
    obtain rfl : k = i := by omega
    refine ⟨h0, ?_⟩
    show r + sz.getD k 0 ≤ sumTo sz k + sz.getD k 0
    have hb := sumTo_bd hs k (by omega)
    rcases hc with rfl | ⟨j, hj, rfl⟩
    · omega
    · have b1 := (h.bd j hj).2
      have b2 := sumTo_mono hs (j := j + 1) (k := k) (by omega) (by omega)
      omega
theorem Good.small {sz un at_ : List Int} {i n : Nat} (h : Good sz un i at_) (hi : i ≤ n) (hn : n ≤ 1024) (hs : ∀ j, j < n → 0 ≤ sz.getD j 0 ∧ sz.getD j 0 ≤ 1048576) (k : Nat) (hk : k < i) : 0 ≤ at_.getD k 0 ∧ at_.getD k 0 + sz.getD k 0 ≤ 1073741824 := by
  have h1 := h.bd k hk
  have h2 := sumTo_bd hs (k + 1) (by omega)
  omega
end Go.Proofs.Ytcbjikopmlaapaa.Ar
