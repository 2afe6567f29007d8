/-
  Room (layer 28): the plain law of the scan, of what is sound, of the peak; no program in sight.
  Conditions: none.
  Room (layer 28): there is a place that fits, and the best one is such a place.
  Conditions: none.
  Room (layer 28): the plain law of ArenaRoom: what is placed is sound, needs no less than the peak, no more than all sizes together.
  Conditions: none.
-/
import Derived.Test.YtlpejbopdmledaaJ37
namespace Go.Proofs.Ytlpejbopdmledaa.Ar
set_option linter.unusedVariables false
set_option linter.unusedSimpArgs false

/-! ### the least free place, found in order -/
def scanTo (d : List (Int × Int)) (n : Int) : Nat → Int
  | 0 => 0
  | k + 1 => if scanTo d n k < (d.getD k (0, 0)).2 ∧ (d.getD k (0, 0)).1 < scanTo d n k + n then (d.getD k (0, 0)).2 else scanTo d n k

structure ScanOk (d : List (Int × Int)) (n : Int) (k : Nat) : Prop where
  nn : 0 ≤ scanTo d n k
  ok : ∀ j, j < k → (d.getD j (0, 0)).2 ≤ scanTo d n k ∨ scanTo d n k + n ≤ (d.getD j (0, 0)).1
  least : ∀ p, 0 ≤ p → p < scanTo d n k → ∃ j, j < k ∧ p < (d.getD j (0, 0)).2 ∧ (d.getD j (0, 0)).1 < p + n
  from_ : scanTo d n k = 0 ∨ ∃ j, j < k ∧ scanTo d n k = (d.getD j (0, 0)).2

theorem scan_ok {d : List (Int × Int)} {n : Int} (hs : ∀ i j, i < j → j < d.length → (d.getD i (0, 0)).1 ≤ (d.getD j (0, 0)).1) (k : Nat) (hk : k ≤ d.length) : ScanOk d n k := by
  induction k with
  | zero => exact ⟨Int.le_refl _, fun j hj => by omega, fun p h1 h2 => by have : scanTo d n 0 = 0 := rfl; omega, .inl rfl⟩
  | succ k ih =>
    obtain ⟨h1, h2, h3, h4⟩ := ih (by omega)
    have e : scanTo d n (k + 1) = if scanTo d n k < (d.getD k (0, 0)).2 ∧ (d.getD k (0, 0)).1 < scanTo d n k + n then (d.getD k (0, 0)).2 else scanTo d n k := rfl
    have hs' : ∀ j, j < k → (d.getD j (0, 0)).1 ≤ (d.getD k (0, 0)).1 := fun j hj => hs j k hj (by omega)
    obtain ⟨⟨f, t⟩, hx⟩ : ∃ z, d.getD k (0, 0) = z := ⟨_, rfl⟩
    rw [hx] at e
    simp only at e hs'
    generalize scanTo d n k = a at *
    by_cases c : a < t ∧ f < a + n
    · rw [if_pos c] at e
      refine ⟨by omega, fun j hj => ?_, fun p p1 p2 => ?_, .inr ⟨k, by omega, by rw [hx, e]⟩⟩
      · rw [e]
        by_cases ej : j = k
        · rw [ej, hx]; left; exact Int.le_refl _
        · rcases h2 j (by omega) with h | h
          · left; omega
          · have := hs' j (by omega); rw [hx] at this; simp only at this; omega
      · rw [e] at p2
        by_cases pa : p < a
        · obtain ⟨j, q1, q2⟩ := h3 p p1 pa
          exact ⟨j, by omega, q2⟩
        · exact ⟨k, by omega, by rw [hx]; simp only; omega⟩
    · rw [if_neg c] at e
      refine ⟨by rw [e]; exact h1, fun j hj => ?_, fun p p1 p2 => ?_, ?_⟩
      · rw [e]
        by_cases ej : j = k
        · rw [ej, hx]; simp only; omega
        · exact h2 j (by omega)
      · rw [e] at p2
        obtain ⟨j, q1, q2⟩ := h3 p p1 p2
        exact ⟨j, by omega, q2⟩
      · rw [e]
        rcases h4 with h4 | ⟨j, q1, q2⟩
        · exact .inl h4
        · exact .inr ⟨j, by omega, q2⟩

theorem scan_least {l d : List (Int × Int)} {n : Int} (hp : d.Perm l) (hs : ∀ i j, i < j → j < d.length → (d.getD i (0, 0)).1 ≤ (d.getD j (0, 0)).1) : LeastFree l n (scanTo d n d.length) := by
  obtain ⟨h1, h2, h3, h4⟩ := scan_ok (n := n) hs d.length (Nat.le_refl _)
  have hm : ∀ j, j < d.length → d.getD j (0, 0) ∈ l := fun j hj => by
    rw [List.getD_eq_getElem?_getD, List.getElem?_eq_getElem hj]
    exact hp.mem_iff.1 (List.getElem_mem _)
  have hm2 : ∀ x ∈ l, ∃ j, j < d.length ∧ d.getD j (0, 0) = x := fun x hx => by
    obtain ⟨j, hj, e⟩ := List.getElem_of_mem (hp.mem_iff.2 hx)
    exact ⟨j, hj, by rw [List.getD_eq_getElem?_getD, List.getElem?_eq_getElem hj]; exact e⟩
  refine ⟨h1, fun x hx => ?_, fun p p1 p2 hf => ?_, ?_⟩
  · obtain ⟨j, hj, rfl⟩ := hm2 x hx
    exact h2 j hj
  · obtain ⟨j, hj, q1, q2⟩ := h3 p p1 p2
    have := hf _ (hm j hj)
    omega
  · rcases h4 with h4 | ⟨j, hj, e⟩
    · exact .inl h4
    · exact .inr ⟨_, hm j hj, e⟩

/-! ### what is sound -/
def pairOk (sz un at_ : List Int) (k i : Nat) : Prop := at_.getD k 0 + sz.getD k 0 ≤ at_.getD i 0 ∨ at_.getD i 0 + sz.getD i 0 ≤ at_.getD k 0 ∨ sz.getD i 0 = 0 ∨ sz.getD k 0 = 0 ∨ togI (un.getD k 0) k i = false
instance (sz un at_ : List Int) (k i : Nat) : Decidable (pairOk sz un at_ k i) := inferInstanceAs (Decidable (_ ∨ _ ∨ _ ∨ _ ∨ _))
def rowOkTo (sz un at_ : List Int) (i k : Nat) : Prop := 0 ≤ at_.getD i 0 ∧ at_.getD i 0 ≤ 1099511627776 ∧ ∀ j, j < k → pairOk sz un at_ j i
instance (sz un at_ : List Int) (i k : Nat) : Decidable (rowOkTo sz un at_ i k) := inferInstanceAs (Decidable (_ ∧ _ ∧ _))
def rowsOk (sz un at_ : List Int) (n : Nat) : Prop := ∀ i, i < n → rowOkTo sz un at_ i i
instance (sz un at_ : List Int) (n : Nat) : Decidable (rowsOk sz un at_ n) := inferInstanceAs (Decidable (∀ i, i < n → _))
def soundOk (sz un at_ : List Int) : Prop := mayOk sz un ∧ at_.length = sz.length ∧ rowsOk sz un at_ at_.length
instance (sz un at_ : List Int) : Decidable (soundOk sz un at_) := inferInstanceAs (Decidable (_ ∧ _ ∧ _))

theorem meet_pair {sz un at_ : List Int} {i k : Nat} (h1 : k < i) (h2 : i < sz.length) (hs : ∀ j, j < sz.length → 0 ≤ sz.getD j 0) : meet sz un i (at_.getD i 0) k (at_.getD k 0) = false ↔ pairOk sz un at_ k i := by
  unfold meet pairOk
  rw [meetTo_tog h1 h2]
  have a1 := hs i h2
  have a2 := hs k (by omega)
  cases togI (un.getD k 0) k i with
  | false => simp
  | true =>
    rw [Bool.and_true, decide_eq_false_iff_not]
    unfold over
    simp only [Bool.true_eq_false, or_false]
    omega

/-! ### the peak -/
def liveTo (sz un : List Int) (i : Nat) : Nat → Int
  | 0 => sz.getD i 0
  | k + 1 => if togI (un.getD k 0) k i = true then liveTo sz un i k + sz.getD k 0 else liveTo sz un i k
def peakTo (sz un : List Int) : Nat → Int
  | 0 => 0
  | i + 1 => max (peakTo sz un i) (liveTo sz un i i)
def stepTo (sz un : List Int) (s : Nat) : Nat → Int
  | 0 => 0
  | i + 1 => if there un i s = true then stepTo sz un s i + sz.getD i 0 else stepTo sz un s i

theorem step_live (sz un : List Int) (s n : Nat) (h : s < n) : stepTo sz un s n = liveTo sz un s s := by
  have h1 : ∀ k, k ≤ s → stepTo sz un s k + sz.getD s 0 = liveTo sz un s k := by
    intro k
    induction k with
    | zero => intro _; simp [stepTo, liveTo]
    | succ k ih =>
      intro hk
      have ih := ih (by omega)
      have e : there un k s = togI (un.getD k 0) k s := by
        rw [Bool.eq_iff_iff, there_iff]
        simp only [togI, decide_eq_true_eq]
        omega
      unfold stepTo liveTo
      rw [e]
      split <;> omega
  have h2 : ∀ k, s < k → stepTo sz un s k = liveTo sz un s s := by
    intro k
    induction k with
    | zero => intro h; omega
    | succ k ih =>
      intro hk
      unfold stepTo
      by_cases e : k = s
      · subst e
        rw [if_pos (by rw [there_iff]; exact .inl rfl)]
        exact h1 k (Nat.le_refl _)
      · rw [if_neg (by rw [there_iff]; omega)]
        exact ih (by omega)
  exact h2 n h

theorem live_bd {sz un : List Int} {n : Nat} (h : ∀ i, i < n → 0 ≤ sz.getD i 0 ∧ sz.getD i 0 ≤ 1048576) (i k : Nat) (hi : i < n) (hk : k ≤ n) : 0 ≤ liveTo sz un i k ∧ liveTo sz un i k ≤ 1048576 * ((k : Int) + 1) := by
  induction k with
  | zero => have := h i hi; show 0 ≤ sz.getD i 0 ∧ sz.getD i 0 ≤ 1048576 * (((0 : Nat) : Int) + 1); omega
  | succ k ih =>
    have := ih (by omega)
    have := h k (by omega)
    unfold liveTo
    split <;> omega
theorem step_bd {sz un : List Int} {n : Nat} (h : ∀ i, i < n → 0 ≤ sz.getD i 0 ∧ sz.getD i 0 ≤ 1048576) (s k : Nat) (hk : k ≤ n) : 0 ≤ stepTo sz un s k ∧ stepTo sz un s k ≤ 1048576 * (k : Int) := by
  induction k with
  | zero => simp [stepTo]
  | succ k ih =>
    have := ih (by omega)
    have := h k (by omega)
    unfold stepTo
    split <;> omega
theorem peak_bd {sz un : List Int} {n : Nat} (h : ∀ i, i < n → 0 ≤ sz.getD i 0 ∧ sz.getD i 0 ≤ 1048576) (k : Nat) (hk : k ≤ n) : 0 ≤ peakTo sz un k ∧ peakTo sz un k ≤ 1048576 * ((n : Int) + 1) := by
  induction k with
  | zero => simp [peakTo]; omega
  | succ k ih =>
    have := ih (by omega)
    have := live_bd h k k (by omega) (by omega) (un := un)
    unfold peakTo
    omega

/-! ### the places' own bounds -/
structure Good (sz un : List Int) (i : Nat) (at_ : List Int) : Prop where
  len : at_.length = i
  bd : ∀ k, k < i → 0 ≤ at_.getD k 0 ∧ at_.getD k 0 + sz.getD k 0 ≤ sumTo sz (k + 1)
theorem Good.nil (sz un : List Int) : Good sz un 0 [] := ⟨rfl, fun k hk => by omega⟩
theorem Good.push {sz un at_ : List Int} {i n : Nat} {r : Int} (h : Good sz un i at_) (hi : i < n) (hs : ∀ j, j < n → 0 ≤ sz.getD j 0 ∧ sz.getD j 0 ≤ 1048576) (h0 : 0 ≤ r) (hc : cand sz at_ i r) : Good sz un (i + 1) (at_ ++ [r]) := by
  refine ⟨by rw [List.length_append, h.len]; rfl, fun k hk => ?_⟩
  rw [getD_append, h.len]
  by_cases e : k < i
  · rw [if_pos e]; exact h.bd k e
  · rw [if_neg e, if_pos (by omega)]
    obtain rfl : k = i := by omega
    refine ⟨h0, ?_⟩
    show r + sz.getD k 0 ≤ sumTo sz k + sz.getD k 0
    have hb := sumTo_bd hs k (by omega)
    rcases hc with rfl | ⟨j, hj, rfl⟩
    · omega
    · have b1 := (h.bd j hj).2
      have b2 := sumTo_mono hs (j := j + 1) (k := k) (by omega) (by omega)
      omega
theorem Good.small {sz un at_ : List Int} {i n : Nat} (h : Good sz un i at_) (hi : i ≤ n) (hn : n ≤ 1024) (hs : ∀ j, j < n → 0 ≤ sz.getD j 0 ∧ sz.getD j 0 ≤ 1048576) (k : Nat) (hk : k < i) : 0 ≤ at_.getD k 0 ∧ at_.getD k 0 + sz.getD k 0 ≤ 1073741824 := by
  have h1 := h.bd k hk
  have h2 := sumTo_bd hs (k + 1) (by omega)
  omega
end Go.Proofs.Ytlpejbopdmledaa.Ar
namespace Go.Proofs.Ytlpejbopdmledaa
set_option linter.unusedVariables false
set_option linter.unusedSimpArgs false
open Go.Proofs.Ytlpejbopdmledaa.Ar

theorem top_cand (sz at_ : List Int) (k : Nat) (h0 : ∀ j, j < k → 0 ≤ at_.getD j 0 + sz.getD j 0) : ∃ c, 0 ≤ c ∧ cand sz at_ k c ∧ ∀ j, j < k → at_.getD j 0 + sz.getD j 0 ≤ c := by
  induction k with
  | zero => exact ⟨0, Int.le_refl _, .inl rfl, fun j hj => by omega⟩
  | succ k ih =>
    obtain ⟨c, h1, h2, h3⟩ := ih (fun j hj => h0 j (by omega))
    have hk := h0 k (by omega)
    by_cases h : at_.getD k 0 + sz.getD k 0 ≤ c
    · refine ⟨c, h1, ?_, fun j hj => ?_⟩
      · rcases h2 with h2 | ⟨j, hj, h2⟩
        · exact .inl h2
        · exact .inr ⟨j, by omega, h2⟩
      · by_cases e : j = k
        · rw [e]; exact h
        · exact h3 j (by omega)
    · refine ⟨_, hk, .inr ⟨k, by omega, rfl⟩, fun j hj => ?_⟩
      by_cases e : j = k
      · rw [e]; exact Int.le_refl _
      · have := h3 j (by omega); omega

theorem best_ok {sz un at_ : List Int} {i : Nat} (h0 : ∀ j, j < i → 0 ≤ at_.getD j 0 + sz.getD j 0) : 0 ≤ best sz un at_ i ∧ cand sz at_ i (best sz un at_ i) ∧ fits sz un at_ i (best sz un at_ i) = true := by
  obtain ⟨c, h1, h2, h3⟩ := top_cand sz at_ i h0
  have hf : fits sz un at_ i c = true := by
    unfold fits
    rw [decide_eq_true_eq]
    intro j hj
    have := h3 j hj
    unfold meet
    rw [Bool.and_eq_false_iff]
    left
    rw [decide_eq_false_iff_not]
    unfold over
    omega
  rcases bestTo_spec sz un at_ i i h0 with ⟨_, h⟩ | ⟨q1, q2, q3, _⟩
  · rw [h c h2] at hf; cases hf
  · exact ⟨q1, q3, q2⟩
end Go.Proofs.Ytlpejbopdmledaa
namespace Go.Proofs.Ytlpejbopdmledaa.Ar
set_option linter.unusedVariables false
set_option linter.unusedSimpArgs false

theorem good_at {sz un : List Int} {n : Nat} (hs : ∀ j, j < n → 0 ≤ sz.getD j 0 ∧ sz.getD j 0 ≤ 1048576) (i : Nat) (hi : i ≤ n) : Good sz un i (atTo sz un i) := by
  induction i with
  | zero => exact Good.nil sz un
  | succ i ih =>
    have g := ih (by omega)
    obtain ⟨h1, h2, _⟩ := best_ok (un := un) (i := i) (at_ := atTo sz un i) (sz := sz) (fun j hj => by have := (g.bd j hj).1; have := (hs j (by omega)).1; omega)
    exact g.push (n := n) (by omega) hs h1 h2

theorem fits_at {sz un : List Int} {n : Nat} (hs : ∀ j, j < n → 0 ≤ sz.getD j 0 ∧ sz.getD j 0 ≤ 1048576) (i : Nat) (hi : i < n) :
    0 ≤ best sz un (atTo sz un i) i ∧ cand sz (atTo sz un i) i (best sz un (atTo sz un i) i) ∧ fits sz un (atTo sz un i) i (best sz un (atTo sz un i) i) = true := by
  have g := good_at (un := un) hs i (by omega)
  exact best_ok (fun j hj => by have := (g.bd j hj).1; have := (hs j (by omega)).1; omega)

theorem at_old (sz un : List Int) (i j : Nat) (hj : j < i) : (atTo sz un (i + 1)).getD j 0 = (atTo sz un i).getD j 0 := by
  rw [atTo, getD_append, atTo_len, if_pos hj]
theorem at_new (sz un : List Int) (i : Nat) : (atTo sz un (i + 1)).getD i 0 = best sz un (atTo sz un i) i := by
  rw [atTo, getD_append, atTo_len, if_neg (by omega), if_pos rfl]

theorem rows_at {sz un : List Int} (h : mayOk sz un) (n : Nat) (hn : n ≤ sz.length) : rowsOk sz un (atTo sz un n) n := by
  have hs := h.2.2
  induction n with
  | zero => exact fun i hi => by omega
  | succ n ih =>
    have ih := ih (by omega)
    have g := good_at (un := un) hs (n + 1) hn
    have g0 := good_at (un := un) hs n (by omega)
    intro i hi
    by_cases e : i = n
    · subst e
      have sm := g.small hn h.2.1 hs i (by omega)
      have si := hs i (by omega)
      refine ⟨by omega, by omega, fun j hj => ?_⟩
      have hf := (fits_at (un := un) hs i (by omega)).2.2
      unfold fits at hf
      rw [decide_eq_true_eq] at hf
      have hm := hf j hj
      rw [← at_new, ← at_old sz un i j hj] at hm
      exact (meet_pair hj (by omega) (fun j hj => (hs j hj).1)).1 hm
    · obtain ⟨h1, h2, h3⟩ := ih i (by omega)
      refine ⟨by rw [at_old sz un n i (by omega)]; exact h1, by rw [at_old sz un n i (by omega)]; exact h2, fun j hj => ?_⟩
      have := h3 j hj
      unfold pairOk at this ⊢
      rw [at_old sz un n i (by omega), at_old sz un n j (by omega)]
      exact this

theorem sound_at {sz un : List Int} (h : mayOk sz un) : soundOk sz un (atTo sz un sz.length) :=
  ⟨h, atTo_len _ _ _, by rw [atTo_len]; exact rows_at h _ (Nat.le_refl _)⟩

/-! ### no more than all -/
theorem room_sum {sz un : List Int} {n : Nat} (hs : ∀ j, j < n → 0 ≤ sz.getD j 0 ∧ sz.getD j 0 ≤ 1048576) (i : Nat) (hi : i ≤ n) : 0 ≤ roomTo sz un i ∧ roomTo sz un i ≤ sumTo sz i := by
  induction i with
  | zero => exact ⟨Int.le_refl _, Int.le_refl _⟩
  | succ i ih =>
    have ih := ih (by omega)
    have g := (good_at (un := un) hs (i + 1) hi).bd i (by omega)
    rw [at_new] at g
    have si := hs i (by omega)
    have e1 : roomTo sz un (i + 1) = max (roomTo sz un i) (best sz un (atTo sz un i) i + sz.getD i 0) := rfl
    have e2 : sumTo sz (i + 1) = sumTo sz i + sz.getD i 0 := rfl
    omega

theorem in_room {sz un : List Int} (i : Nat) (k : Nat) (hk : k < i) : (atTo sz un i).getD k 0 + sz.getD k 0 ≤ roomTo sz un i := by
  induction i with
  | zero => omega
  | succ i ih =>
    have e1 : roomTo sz un (i + 1) = max (roomTo sz un i) (best sz un (atTo sz un i) i + sz.getD i 0) := rfl
    by_cases e : k = i
    · rw [e, at_new]; omega
    · rw [at_old sz un i k (by omega)]
      have := ih (by omega)
      omega

/-! ### no less than the peak: intervals that do not meet, side by side -/
def tot : List (Int × Int) → Int
  | [] => 0
  | x :: l => (x.2 - x.1) + tot l
theorem tot_append (l m : List (Int × Int)) : tot (l ++ m) = tot l + tot m := by
  induction l with
  | nil => simp [tot]
  | cons x l ih => rw [List.cons_append, tot, tot, ih]; omega
theorem tot_filter (p : Int × Int → Bool) (l : List (Int × Int)) : tot l = tot (l.filter p) + tot (l.filter (fun x => !p x)) := by
  induction l with
  | nil => simp [tot]
  | cons x l ih =>
    cases h : p x with
    | true => rw [List.filter_cons_of_pos h, List.filter_cons_of_neg (by simp [h]), tot, tot]; omega
    | false => rw [List.filter_cons_of_neg (by simp [h]), List.filter_cons_of_pos (by simp [h]), tot, tot]; omega

theorem pack (n : Nat) : ∀ (l : List (Int × Int)) (L R : Int), l.length ≤ n → L ≤ R → (∀ x ∈ l, L ≤ x.1 ∧ x.1 < x.2 ∧ x.2 ≤ R) → l.Pairwise (fun x y => x.2 ≤ y.1 ∨ y.2 ≤ x.1) → tot l ≤ R - L := by
  induction n with
  | zero =>
    intro l L R hl hLR _ _
    obtain rfl := List.eq_nil_of_length_eq_zero (Nat.le_zero.1 hl)
    simp only [tot]; omega
  | succ n ih =>
    intro l L R hl hLR hb hp
    cases l with
    | nil => simp only [tot]; omega
    | cons x m =>
      obtain ⟨hx, hm⟩ := List.pairwise_cons.1 hp
      have bx := hb x (List.mem_cons_self ..)
      have h1 := ih (m.filter (fun y => decide (y.2 ≤ x.1))) L x.1 (Nat.le_trans (List.length_filter_le ..) (by simpa using hl)) bx.1
        (fun y hy => by
          obtain ⟨h1, h2⟩ := List.mem_filter.1 hy
          have := hb y (List.mem_cons_of_mem _ h1)
          simp at h2
          omega) (hm.filter _)
      have h2 := ih (m.filter (fun y => !decide (y.2 ≤ x.1))) x.2 R (Nat.le_trans (List.length_filter_le ..) (by simpa using hl)) bx.2.2
        (fun y hy => by
          obtain ⟨h1, h2⟩ := List.mem_filter.1 hy
          have := hb y (List.mem_cons_of_mem _ h1)
          have := hx y h1
          simp at h2
          omega) (hm.filter _)
      rw [tot, tot_filter (fun y => decide (y.2 ≤ x.1)) m]
      omega

theorem tog_down {u : Int} {j k i : Nat} (h : togI u j i = true) (hk : k ≤ i) : togI u j k = true := by
  simp only [togI, decide_eq_true_eq] at h ⊢
  omega

theorem taken_apart {sz un at_ : List Int} {i : Nat} (hr : ∀ k, k < i → ∀ j, j < k → pairOk sz un at_ j k) (m : Nat) (hm : m ≤ i) : (takenTo sz un at_ i m).Pairwise (fun x y => x.2 ≤ y.1 ∨ y.2 ≤ x.1) := by
  induction m with
  | zero => exact List.Pairwise.nil
  | succ m ih =>
    rw [takenTo, List.pairwise_append]
    refine ⟨ih (by omega), by split <;> simp, fun x hx y hy => ?_⟩
    split at hy
    · rename_i c
      rw [List.mem_singleton] at hy
      subst hy
      obtain ⟨j, q1, q2, q3, rfl⟩ := takenTo_mem.1 hx
      have := hr m (by omega) j q1
      unfold pairOk at this
      rw [tog_down q2 (by omega : m ≤ i)] at this
      simp only
      rcases this with h | h | h | h | h
      · omega
      · omega
      · omega
      · omega
      · cases h
    · cases hy

theorem live_tot {sz un at_ : List Int} {n : Nat} (hs : ∀ j, j < n → 0 ≤ sz.getD j 0) (i m : Nat) (hm : m ≤ n) : liveTo sz un i m = sz.getD i 0 + tot (takenTo sz un at_ i m) := by
  induction m with
  | zero => simp [liveTo, takenTo, tot]
  | succ m ih =>
    have ih := ih (by omega)
    have := hs m (by omega)
    rw [takenTo, tot_append, liveTo]
    by_cases h1 : togI (un.getD m 0) m i = true
    · rw [if_pos h1]
      by_cases h2 : 0 < sz.getD m 0
      · rw [if_pos ⟨h1, h2⟩]
        simp only [tot]; omega
      · rw [if_neg (fun e => h2 e.2)]
        simp only [tot]; omega
    · rw [if_neg h1, if_neg (fun e => h1 e.1)]
      simp only [tot]; omega

theorem room_live {sz un : List Int} (h : mayOk sz un) (i : Nat) (hi : i < sz.length) : liveTo sz un i i ≤ roomTo sz un sz.length := by
  have hs := h.2.2
  have ho := rows_at h sz.length (Nat.le_refl _)
  have g := good_at (un := un) hs sz.length (Nat.le_refl _)
  have hr0 := (room_sum (un := un) hs sz.length (Nat.le_refl _)).1
  have hin := fun k hk => in_room (sz := sz) (un := un) sz.length k hk
  rw [live_tot (at_ := atTo sz un sz.length) (fun j hj => (hs j hj).1) i i (by omega)]
  generalize atTo sz un sz.length = al at *
  generalize roomTo sz un sz.length = R at *
  have hp := taken_apart (i := i) (fun k hk j hj => (ho k (by omega)).2.2 j hj) i (Nat.le_refl _)
  have hb : ∀ x ∈ takenTo sz un al i i, 0 ≤ x.1 ∧ x.1 < x.2 ∧ x.2 ≤ R := fun x hx => by
    obtain ⟨j, q1, q2, q3, rfl⟩ := takenTo_mem.1 hx
    have := (g.bd j (by omega)).1
    have := hin j (by omega)
    simp only
    omega
  by_cases h0 : 0 < sz.getD i 0
  · have hb2 : ∀ x ∈ (al.getD i 0, al.getD i 0 + sz.getD i 0) :: takenTo sz un al i i, 0 ≤ x.1 ∧ x.1 < x.2 ∧ x.2 ≤ R := fun x hx => by
      rcases List.mem_cons.1 hx with rfl | hx
      · have := (g.bd i hi).1
        have := hin i hi
        simp only
        omega
      · exact hb x hx
    have hp2 : ((al.getD i 0, al.getD i 0 + sz.getD i 0) :: takenTo sz un al i i).Pairwise (fun x y => x.2 ≤ y.1 ∨ y.2 ≤ x.1) := by
      rw [List.pairwise_cons]
      refine ⟨fun y hy => ?_, hp⟩
      obtain ⟨j, q1, q2, q3, rfl⟩ := takenTo_mem.1 hy
      have := (ho i hi).2.2 j q1
      unfold pairOk at this
      rw [q2] at this
      simp only
      rcases this with h | h | h | h | h
      · omega
      · omega
      · omega
      · omega
      · cases h
    have := pack _ _ 0 R (Nat.le_refl _) hr0 hb2 hp2
    simp only [tot] at this
    omega
  · have := pack _ _ 0 R (Nat.le_refl _) hr0 hb hp
    have := (hs i hi).1
    omega

theorem room_peak {sz un : List Int} (h : mayOk sz un) (i : Nat) (hi : i ≤ sz.length) : peakTo sz un i ≤ roomTo sz un sz.length := by
  induction i with
  | zero => exact (room_sum (un := un) h.2.2 sz.length (Nat.le_refl _)).1
  | succ i ih =>
    have e : peakTo sz un (i + 1) = max (peakTo sz un i) (liveTo sz un i i) := rfl
    have := ih (by omega)
    have := room_live h i (by omega)
    omega
end Go.Proofs.Ytlpejbopdmledaa.Ar
