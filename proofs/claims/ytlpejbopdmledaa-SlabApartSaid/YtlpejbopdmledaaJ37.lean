/-
  Room for values that are there for a time (layer 28): the plain law; no program in sight.
  Conditions: none.
-/
namespace Go.Proofs.Ytlpejbopdmledaa.Ar
set_option linter.unusedVariables false
set_option linter.unusedSimpArgs false

def mayOk (sz un : List Int) : Prop := sz.length = un.length ∧ sz.length ≤ 1024 ∧ ∀ i, i < sz.length → 0 ≤ sz.getD i 0 ∧ sz.getD i 0 ≤ 1048576
instance (sz un : List Int) : Decidable (mayOk sz un) := inferInstanceAs (Decidable (_ ∧ _ ∧ _))

def togI (u : Int) (k i : Nat) : Bool := decide ((i : Int) ≤ max u (k : Int))
def there (un : List Int) (i s : Nat) : Bool := s == i || (decide (i < s) && decide ((s : Int) ≤ un.getD i 0))

/-- Two intervals have something in common. -/
def over (a n b m : Int) : Prop := n ≠ 0 ∧ m ≠ 0 ∧ b < a + n ∧ a < b + m
instance (a n b m : Int) : Decidable (over a n b m) := inferInstanceAs (Decidable (_ ∧ _ ∧ _ ∧ _))

def meetTo (un : List Int) (i k : Nat) : Nat → Bool
  | 0 => false
  | s + 1 => meetTo un i k s || (there un i s && there un k s)

theorem meetTo_iff (un : List Int) (i k n : Nat) : meetTo un i k n = true ↔ ∃ s, s < n ∧ there un i s = true ∧ there un k s = true := by
  induction n with
  | zero => simp [meetTo]
  | succ n ih =>
    rw [meetTo, Bool.or_eq_true, ih, Bool.and_eq_true]
    constructor
    · rintro (⟨s, h1, h2⟩ | h)
      · exact ⟨s, by omega, h2⟩
      · exact ⟨n, by omega, h⟩
    · rintro ⟨s, h1, h2⟩
      by_cases e : s = n
      · right; rw [← e]; exact h2
      · left; exact ⟨s, by omega, h2⟩

theorem there_iff {un : List Int} {i s : Nat} : there un i s = true ↔ s = i ∨ (i < s ∧ (s : Int) ≤ un.getD i 0) := by simp [there]

theorem meetTo_tog {un : List Int} {i k n : Nat} (h1 : k < i) (h2 : i < n) : meetTo un i k n = togI (un.getD k 0) k i := by
  rw [Bool.eq_iff_iff, meetTo_iff]
  simp only [there_iff, togI, decide_eq_true_eq]
  constructor
  · rintro ⟨s, h3, h4, h5⟩
    omega
  · intro h
    exact ⟨i, h2, .inl rfl, .inr ⟨h1, by omega⟩⟩

def meet (sz un : List Int) (i : Nat) (p : Int) (k : Nat) (q : Int) : Bool := decide (over p (sz.getD i 0) q (sz.getD k 0)) && meetTo un i k sz.length

/-- No value ahead meets i at p. -/
def fitsTo (sz un at_ : List Int) (i : Nat) (p : Int) (k : Nat) : Prop := ∀ j, j < k → meet sz un i p j (at_.getD j 0) = false
instance (sz un at_ : List Int) (i : Nat) (p : Int) (k : Nat) : Decidable (fitsTo sz un at_ i p k) := inferInstanceAs (Decidable (∀ j, j < k → _))
def fits (sz un at_ : List Int) (i : Nat) (p : Int) : Bool := decide (fitsTo sz un at_ i p i)

def bestTo (sz un at_ : List Int) (i : Nat) : Nat → Int
  | 0 => if fits sz un at_ i 0 = true then 0 else -1
  | k + 1 => if (bestTo sz un at_ i k < 0 ∨ at_.getD k 0 + sz.getD k 0 < bestTo sz un at_ i k) ∧ fits sz un at_ i (at_.getD k 0 + sz.getD k 0) = true then at_.getD k 0 + sz.getD k 0 else bestTo sz un at_ i k
def best (sz un at_ : List Int) (i : Nat) : Int := bestTo sz un at_ i i

/-- A place is offered: none, or where another one ends. -/
def cand (sz at_ : List Int) (k : Nat) (c : Int) : Prop := c = 0 ∨ ∃ j, j < k ∧ c = at_.getD j 0 + sz.getD j 0

theorem bestTo_spec (sz un at_ : List Int) (i k : Nat) (h0 : ∀ j, j < k → 0 ≤ at_.getD j 0 + sz.getD j 0) :
    (bestTo sz un at_ i k = -1 ∧ ∀ c, cand sz at_ k c → fits sz un at_ i c = false) ∨
      (0 ≤ bestTo sz un at_ i k ∧ fits sz un at_ i (bestTo sz un at_ i k) = true ∧ cand sz at_ k (bestTo sz un at_ i k) ∧ ∀ c, cand sz at_ k c → fits sz un at_ i c = true → bestTo sz un at_ i k ≤ c) := by
  induction k with
  | zero =>
    unfold bestTo
    by_cases h : fits sz un at_ i 0 = true
    · rw [if_pos h]
      refine .inr ⟨Int.le_refl _, h, .inl rfl, fun c hc _ => ?_⟩
      rcases hc with rfl | ⟨j, hj, _⟩
      · exact Int.le_refl _
      · omega
    · rw [if_neg h]
      refine .inl ⟨rfl, fun c hc => ?_⟩
      rcases hc with rfl | ⟨j, hj, _⟩
      · simpa using h
      · omega
  | succ k ih =>
    have hk := h0 k (by omega)
    have ih := ih (fun j hj => h0 j (by omega))
    have cs : ∀ c, cand sz at_ (k + 1) c → cand sz at_ k c ∨ c = at_.getD k 0 + sz.getD k 0 := by
      rintro c (rfl | ⟨j, hj, rfl⟩)
      · exact .inl (.inl rfl)
      · by_cases e : j = k
        · rw [e]; exact .inr rfl
        · exact .inl (.inr ⟨j, by omega, rfl⟩)
    have cm : ∀ c, cand sz at_ k c → cand sz at_ (k + 1) c := by
      rintro c (rfl | ⟨j, hj, rfl⟩)
      · exact .inl rfl
      · exact .inr ⟨j, by omega, rfl⟩
    unfold bestTo
    generalize bestTo sz un at_ i k = b at *
    by_cases h : (b < 0 ∨ at_.getD k 0 + sz.getD k 0 < b) ∧ fits sz un at_ i (at_.getD k 0 + sz.getD k 0) = true
    · rw [if_pos h]
      refine .inr ⟨hk, h.2, .inr ⟨k, by omega, rfl⟩, fun c hc hf => ?_⟩
      rcases cs c hc with hc | rfl
      · rcases ih with ⟨_, ih⟩ | ⟨i1, i2, i3, i4⟩
        · rw [ih c hc] at hf; cases hf
        · have := i4 c hc hf
          omega
      · exact Int.le_refl _
    · rw [if_neg h]
      rcases ih with ⟨i1, ih⟩ | ⟨i1, i2, i3, i4⟩
      · refine .inl ⟨i1, fun c hc => ?_⟩
        rcases cs c hc with hc | rfl
        · exact ih c hc
        · rw [Bool.eq_false_iff]; intro hf
          exact h ⟨.inl (by omega), hf⟩
      · refine .inr ⟨i1, i2, cm _ i3, fun c hc hf => ?_⟩
        rcases cs c hc with hc | rfl
        · exact i4 c hc hf
        · have : ¬ (at_.getD k 0 + sz.getD k 0 < b) := fun hlt => h ⟨.inr hlt, hf⟩
          omega

/-! ### the program's row of taken places -/
def takenTo (sz un at_ : List Int) (i : Nat) : Nat → List (Int × Int)
  | 0 => []
  | k + 1 => takenTo sz un at_ i k ++ if togI (un.getD k 0) k i = true ∧ 0 < sz.getD k 0 then [(at_.getD k 0, at_.getD k 0 + sz.getD k 0)] else []

theorem takenTo_len (sz un at_ : List Int) (i k : Nat) : (takenTo sz un at_ i k).length ≤ k := by
  induction k with
  | zero => exact Nat.le_refl _
  | succ k ih => rw [takenTo, List.length_append]; split <;> simp <;> omega

theorem takenTo_mem {sz un at_ : List Int} {i k : Nat} {x : Int × Int} : x ∈ takenTo sz un at_ i k ↔ ∃ j, j < k ∧ togI (un.getD j 0) j i = true ∧ 0 < sz.getD j 0 ∧ x = (at_.getD j 0, at_.getD j 0 + sz.getD j 0) := by
  induction k with
  | zero => simp [takenTo]
  | succ k ih =>
    rw [takenTo, List.mem_append, ih]
    constructor
    · rintro (⟨j, h1, h2⟩ | h)
      · exact ⟨j, by omega, h2⟩
      · split at h
        · rename_i hc
          simp only [List.mem_singleton] at h
          exact ⟨k, by omega, hc.1, hc.2, h⟩
        · cases h
    · rintro ⟨j, h1, h2, h3, h4⟩
      by_cases e : j = k
      · right
        subst e
        rw [if_pos ⟨h2, h3⟩, h4]; simp
      · left; exact ⟨j, by omega, h2, h3, h4⟩

/-- Free of all of a row. -/
def freeAt (l : List (Int × Int)) (n p : Int) : Prop := ∀ x ∈ l, x.2 ≤ p ∨ p + n ≤ x.1
/-- The least one. -/
structure LeastFree (l : List (Int × Int)) (n r : Int) : Prop where
  nn : 0 ≤ r
  ok : freeAt l n r
  least : ∀ p, 0 ≤ p → p < r → ¬ freeAt l n p
  from_ : r = 0 ∨ ∃ x ∈ l, r = x.2

theorem fits_free {sz un at_ : List Int} {i : Nat} {p : Int} (hi : i < sz.length) (hn : 0 < sz.getD i 0) (hs : ∀ j, j < i → 0 ≤ sz.getD j 0) : fits sz un at_ i p = true ↔ freeAt (takenTo sz un at_ i i) (sz.getD i 0) p := by
  unfold fits freeAt
  rw [decide_eq_true_eq]
  unfold fitsTo
  constructor
  · intro h x hx
    obtain ⟨j, h1, h2, h3, rfl⟩ := takenTo_mem.1 hx
    have := h j h1
    unfold meet at this
    rw [meetTo_tog h1 hi, h2, Bool.and_true, decide_eq_false_iff_not] at this
    unfold over at this
    simp only
    omega
  · intro h j hj
    unfold meet
    rw [meetTo_tog hj hi]
    cases ht : togI (un.getD j 0) j i with
    | false => simp
    | true =>
      rw [Bool.and_true, decide_eq_false_iff_not]
      rintro ⟨o1, o2, o3, o4⟩
      have := h _ (takenTo_mem.2 ⟨j, hj, ht, by have := hs j hj; omega, rfl⟩)
      simp only at this
      omega

theorem least_best {sz un at_ : List Int} {i : Nat} {r : Int} (hi : i < sz.length) (hn : 0 < sz.getD i 0) (hs : ∀ j, j < i → 0 ≤ sz.getD j 0) (ha : ∀ j, j < i → 0 ≤ at_.getD j 0) (h : LeastFree (takenTo sz un at_ i i) (sz.getD i 0) r) : best sz un at_ i = r := by
  have hc : cand sz at_ i r := by
    rcases h.from_ with h | ⟨x, hx, h⟩
    · exact .inl h
    · obtain ⟨j, h1, h2, h3, rfl⟩ := takenTo_mem.1 hx
      exact .inr ⟨j, h1, h⟩
  have hf : fits sz un at_ i r = true := (fits_free hi hn hs).2 h.ok
  rcases bestTo_spec sz un at_ i i (fun j hj => by have := hs j hj; have := ha j hj; omega) with ⟨_, h1⟩ | ⟨h1, h2, h3, h4⟩
  · rw [h1 r hc] at hf; cases hf
  · have b1 := h4 r hc hf
    unfold best
    rcases Int.lt_or_eq_of_le b1 with hlt | heq
    · exact absurd ((fits_free hi hn hs).1 h2) (h.least _ h1 hlt)
    · exact heq

theorem best_zero {sz un at_ : List Int} {i : Nat} (hn : sz.getD i 0 = 0) (hs : ∀ j, j < i → 0 ≤ sz.getD j 0) (ha : ∀ j, j < i → 0 ≤ at_.getD j 0) : best sz un at_ i = 0 := by
  have hf : ∀ p, fits sz un at_ i p = true := by
    intro p
    unfold fits
    rw [decide_eq_true_eq]
    intro j hj
    unfold meet over
    rw [hn]; simp
  rcases bestTo_spec sz un at_ i i (fun j hj => by have := hs j hj; have := ha j hj; omega) with ⟨_, h1⟩ | ⟨h1, h2, h3, h4⟩
  · have := h1 0 (.inl rfl)
    rw [hf] at this; cases this
  · have := h4 0 (.inl rfl) (hf 0)
    unfold best; omega

/-! ### all places -/
def atTo (sz un : List Int) : Nat → List Int
  | 0 => []
  | i + 1 => atTo sz un i ++ [best sz un (atTo sz un i) i]
def roomTo (sz un : List Int) : Nat → Int
  | 0 => 0
  | i + 1 => max (roomTo sz un i) (best sz un (atTo sz un i) i + sz.getD i 0)
theorem atTo_len (sz un : List Int) (i : Nat) : (atTo sz un i).length = i := by
  induction i with
  | zero => rfl
  | succ i ih => rw [atTo, List.length_append, ih]; rfl

theorem getD_append (l : List Int) (x : Int) (k : Nat) : (l ++ [x]).getD k 0 = if k < l.length then l.getD k 0 else if k = l.length then x else 0 := by
  simp only [List.getD_eq_getElem?_getD]
  by_cases h : k < l.length
  · rw [if_pos h, List.getElem?_append_left h]
  · rw [if_neg h]
    by_cases e : k = l.length
    · rw [if_pos e, e]; simp
    · rw [if_neg e, List.getElem?_eq_none (by simp; omega)]; rfl

/-- How much there is ahead of a number, in all. -/
def sumTo (sz : List Int) : Nat → Int
  | 0 => 0
  | i + 1 => sumTo sz i + sz.getD i 0

theorem sumTo_bd {sz : List Int} {n : Nat} (h : ∀ i, i < n → 0 ≤ sz.getD i 0 ∧ sz.getD i 0 ≤ 1048576) (k : Nat) (hk : k ≤ n) : 0 ≤ sumTo sz k ∧ sumTo sz k ≤ 1048576 * (k : Int) := by
  induction k with
  | zero => exact ⟨Int.le_refl _, by simp [sumTo]⟩
  | succ k ih =>
    have := ih (by omega)
    have := h k (by omega)
    unfold sumTo
    omega
theorem sumTo_mono {sz : List Int} {n : Nat} (h : ∀ i, i < n → 0 ≤ sz.getD i 0 ∧ sz.getD i 0 ≤ 1048576) {j k : Nat} (hjk : j ≤ k) (hk : k ≤ n) : sumTo sz j ≤ sumTo sz k := by
  induction k with
  | zero => obtain rfl : j = 0 := by omega
            exact Int.le_refl _
  | succ k ih =>
    by_cases e : j = k + 1
    · rw [e]; exact Int.le_refl _
    · have := ih (by omega) (by omega)
      have := h k (by omega)
      show sumTo sz j ≤ sumTo sz k + sz.getD k 0
      omega

theorem best_from {sz un at_ : List Int} {i : Nat} (h0 : ∀ j, j < i → 0 ≤ at_.getD j 0 + sz.getD j 0) (hne : best sz un at_ i ≠ -1) : 0 ≤ best sz un at_ i ∧ cand sz at_ i (best sz un at_ i) ∧ fits sz un at_ i (best sz un at_ i) = true := by
  rcases bestTo_spec sz un at_ i i h0 with ⟨h, _⟩ | ⟨h1, h2, h3, h4⟩
  · exact absurd h hne
  · exact ⟨h1, h3, h2⟩
end Go.Proofs.Ytlpejbopdmledaa.Ar
