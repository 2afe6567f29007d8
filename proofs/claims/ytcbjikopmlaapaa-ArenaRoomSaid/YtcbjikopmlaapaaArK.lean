/-
  Room (layer 28): the plain law of ArenaRoom: what is placed is sound, needs no less than the peak, no more than all sizes together.
  Conditions: none.
-/
import Derived.Test.YtcbjikopmlaapaaArH
namespace Go.Proofs.Ytcbjikopmlaapaa.Ar
set_option linter.unusedVariables false
set_option linter.unusedSimpArgs false

theorem good_at {sz un : List Int} {n : Nat} (hs : ∀ j, j < n → 0 ≤ sz.getD j 0 ∧ sz.getD j 0 ≤ 1048576) (i : Nat) (hi : i ≤ n) : Good sz un i (atTo sz un i) := by
  induction i with
  | zero => exact Good.nil sz un
  | succ i ih =>
    have g := ih (by omega)
    obtain ⟨h1, h2, _⟩ := best_ok (un := un) (i := i) (at_ := atTo sz un i) (sz := sz) (fun j hj => by have := (g.bd j hj).1; have := (hs j (by omega)).1; omega)
    exact g.push (n := n) (by omega) hs h1 h2

theorem fits_at {sz un : List Int} {n : Nat} (hs : ∀ j, j < n → 0 ≤ sz.getD j 0 ∧ sz.getD j 0 ≤ 1048576) (i : Nat) (hi : i < n) :
    0 ≤ best sz un (atTo sz un i) i ∧ cand sz (atTo sz un i) i (best sz un (atTo sz un i) i) ∧ fits sz un (atTo sz un i) i (best sz un (atTo sz un i) i) = true := by
  have g := good_at (un := un) hs i (by omega)
  exact best_ok (fun j hj => by have := (g.bd j hj).1; have := (hs j (by omega)).1; omega)

theorem at_old (sz un : List Int) (i j : Nat) (hj : j < i) : (atTo sz un (i + 1)).getD j 0 = (atTo sz un i).getD j 0 := by
  rw [atTo, getD_append, atTo_len, if_pos hj]
theorem at_new (sz un : List Int) (i : Nat) : (atTo sz un (i + 1)).getD i 0 = best sz un (atTo sz un i) i := by
  rw [atTo, getD_append, atTo_len, if_neg (by omega), if_pos rfl]

theorem rows_at {sz un : List Int} (h : mayOk sz un) (n : Nat) (hn : n ≤ sz.length) : rowsOk sz un (atTo sz un n) n := by
  have hs := h.2.2
  induction n with
  | zero => exact fun i hi => by omega
  | succ n ih =>
    have ih := ih (by omega)
    have g := good_at (un := un) hs (n + 1) hn
    have g0 := good_at (un := un) hs n (by omega)
    intro i hi
    by_cases e : i = n
    · subst e
      have sm := g.small hn h.2.1 hs i (by omega)
      have si := hs i (by omega)
      refine ⟨by omega, by omega, fun j hj => ?_⟩
      have hf := (fits_at (un := un) hs i (by omega)).2.2
      unfold fits at hf
      rw [decide_eq_true_eq] at hf
      have hm := hf j hj
      rw [← at_new, ← at_old sz un i j hj] at hm
      exact (meet_pair hj (by omega) (fun j hj => (hs j hj).1)).1 hm
    · obtain ⟨h1, h2, h3⟩ := ih i (by omega)
      refine ⟨by rw [at_old sz un n i (by omega)]; exact h1, by rw [at_old sz un n i (by omega)]; exact h2, fun j hj => ?_⟩
      have := h3 j hj
      unfold pairOk at this ⊢
      rw [at_old sz un n i (by omega), at_old sz un n j (by omega)]
      exact this

theorem sound_at {sz un : List Int} (h : mayOk sz un) : soundOk sz un (atTo sz un sz.length) :=
  ⟨h, atTo_len _ _ _, by rw [atTo_len]; exact rows_at h _ (Nat.le_refl _)⟩

/-! ### no more than all -/
theorem room_sum {sz un : List Int} {n : Nat} (hs : ∀ j, j < n → 0 ≤ sz.getD j 0 ∧ sz.getD j 0 ≤ 1048576) (i : Nat) (hi : i ≤ n) : 0 ≤ roomTo sz un i ∧ roomTo sz un i ≤ sumTo sz i := by
  induction i with
  | zero => exact ⟨Int.le_refl _, Int.le_refl _⟩
  | succ i ih =>
    have ih := ih (by omega)
    have g := (good_at (un := un) hs (i + 1) hi).bd i (by omega)
    rw [at_new] at g
    have si := hs i (by omega)
    have e1 : roomTo sz un (i + 1) = max (roomTo sz un i) (best sz un (atTo sz un i) i + sz.getD i 0) := rfl
    have e2 : sumTo sz (i + 1) = sumTo sz i + sz.getD i 0 := rfl
    omega

theorem in_room {sz un : List Int} (i : Nat) (k : Nat) (hk : k < i) : (atTo sz un i).getD k 0 + sz.getD k 0 ≤ roomTo sz un i := by
  induction i with
  | zero => omega
  | succ i ih =>
    have e1 : roomTo sz un (i + 1) = max (roomTo sz un i) (best sz un (atTo sz un i) i + sz.getD i 0) := rfl
    by_cases e : k = i
    · rw [e, at_new]; omega
    · rw [at_old sz un i k (by omega)]
      have := ih (by omega)
      omega

/-! ### no less than the peak: intervals that do not meet, side by side -/
def tot : List (Int × Int) → Int
  | [] => 0
  | x :: l => (x.2 - x.1) + tot l
theorem tot_append (l m : List (Int × Int)) : tot (l ++ m) = tot l + tot m := by
  induction l with
  | nil => simp [tot]
  | cons x l ih => rw [List.cons_append, tot, tot, ih]; omega
theorem tot_filter (p : Int × Int → Bool) (l : List (Int × Int)) : tot l = tot (l.filter p) + tot (l.filter (fun x => !p x)) := by
  induction l with
  | nil => simp [tot]
  | cons x l ih =>
    cases h : p x with
    | true => rw [List.filter_cons_of_pos h, List.filter_cons_of_neg (by simp [h]), tot, tot]; omega
    | false => rw [List.filter_cons_of_neg (by simp [h]), List.filter_cons_of_pos (by simp [h]), tot, tot]; omega

theorem pack (n : Nat) : ∀ (l : List (Int × Int)) (L R : Int), l.length ≤ n → L ≤ R → (∀ x ∈ l, L ≤ x.1 ∧ x.1 < x.2 ∧ x.2 ≤ R) → l.Pairwise (fun x y => x.2 ≤ y.1 ∨ y.2 ≤ x.1) → tot l ≤ R - L := by
  induction n with
  | zero =>
    intro l L R hl hLR _ _
    obtain rfl := List.eq_nil_of_length_eq_zero (Nat.le_zero.1 hl)
    simp only [tot]; omega
  | succ n ih =>
    intro l L R hl hLR hb hp
    cases l with
    | nil => simp only [tot]; omega
    | cons x m =>
      obtain ⟨hx, hm⟩ := List.pairwise_cons.1 hp
      have bx := hb x (List.mem_cons_self ..)
      have h1 := ih (m.filter (fun y => decide (y.2 ≤ x.1))) L x.1 (Nat.le_trans (List.length_filter_le ..) (by simpa using hl)) bx.1
        (fun y hy => by
          obtain ⟨h1, h2⟩ := List.mem_filter.1 hy
          have := hb y (List.mem_cons_of_mem _ h1)
          simp at h2
          omega) (hm.filter _)
      have h2 := ih (m.filter (fun y => !decide (y.2 ≤ x.1))) x.2 R (Nat.le_trans (List.length_filter_le ..) (by simpa using hl)) bx.2.2
        (fun y hy => by
          obtain ⟨h1, h2⟩ := List.mem_filter.1 hy
          have := hb y (List.mem_cons_of_mem _ h1)
          have := hx y h1
          simp at h2
          omega) (hm.filter _)
      rw [tot, tot_filter (fun y => decide (y.2 ≤ x.1)) m]
      omega

theorem tog_down {u : Int} {j k i : Nat} (h : togI u j i = true) (hk : k ≤ i) : togI u j k = true := by
  simp only [togI, decide_eq_true_eq] at h ⊢
  omega

theorem taken_apart {sz un at_ : List Int} {i : Nat} (hr : ∀ k, k < i → ∀ j, j < k → pairOk sz un at_ j k) (m : Nat) (hm : m ≤ i) : (takenTo sz un at_ i m).Pairwise (fun x y => x.2 ≤ y.1 ∨ y.2 ≤ x.1) := by
  induction m with
  | zero => exact List.Pairwise.nil
  | succ m ih =>
    rw [takenTo, List.pairwise_append]
    refine ⟨ih (by omega), by split <;> simp, fun x hx y hy => ?_⟩
    split at hy
    · rename_i c
      rw [List.mem_singleton] at hy
      subst hy
      obtain ⟨j, q1, q2, q3, rfl⟩ := takenTo_mem.1 hx
      have := hr m (by omega) j q1
      unfold pairOk at this
      rw [tog_down q2 (by omega : m ≤ i)] at this
      simp only
      rcases this with h | h | h | h | h
      · omega
      · omega
      · omega
      · omega
      · cases h
    · cases hy

theorem live_tot {sz un at_ : List Int} {n : Nat} (hs : ∀ j, j < n → 0 ≤ sz.getD j 0) (i m : Nat) (hm : m ≤ n) : liveTo sz un i m = sz.getD i 0 + tot (takenTo sz un at_ i m) := by
  induction m with
  | zero => simp [liveTo, takenTo, tot]
  | succ m ih =>
    have ih := ih (by omega)
    have := hs m (by omega)
    rw [takenTo, tot_append, liveTo]
    by_cases h1 : togI (un.getD m 0) m i = true
    · rw [if_pos h1]
      by_cases h2 : 0 < sz.getD m 0
      · rw [if_pos ⟨h1, h2⟩]
        simp only [tot]; omega
      · rw [if_neg (fun e => h2 e.2)]
        simp only [tot]; omega
    · rw [if_neg h1, if_neg (fun e => h1 e.1)]
      simp only [tot]; omega

theorem room_live {sz un : List Int} (h : mayOk sz un) (i : Nat) (hi : i < sz.length) : liveTo sz un i i ≤ roomTo sz un sz.length := by
  have hs := h.2.2
  have ho := rows_at h sz.length (Nat.le_refl _)
  have g := good_at (un := un) hs sz.length (Nat.le_refl _)
  have hr0 := (room_sum (un := un) hs sz.length (Nat.le_refl _)).1
  have hin := fun k hk => in_room (sz := sz) (un := un) sz.length k hk
  rw [live_tot (at_ := atTo sz un sz.length) (fun j hj => (hs j hj).1) i i (by omega)]
  generalize atTo sz un sz.length = al at *
  generalize roomTo sz un sz.length = R at *
  have hp := taken_apart (i := i) (fun k hk j hj => (ho k (by omega)).2.2 j hj) i (Nat.le_refl _)
  have hb : ∀ x ∈ takenTo sz un al i i, 0 ≤ x.1 ∧ x.1 < x.2 ∧ x.2 ≤ R := fun x hx => by
    obtain ⟨j, q1, q2, q3, rfl⟩ := takenTo_mem.1 hx
    have := (g.bd j (by omega)).1
    have := hin j (by omega)
    simp only
    omega
  by_cases h0 : 0 < sz.getD i 0
  · have hb2 : ∀ x ∈ (al.getD i 0, al.getD i 0 + sz.getD i 0) :: takenTo sz un al i i, 0 ≤ x.1 ∧ x.1 < x.2 ∧ x.2 ≤ R := fun x hx => by
      rcases List.mem_cons.1 hx with rfl | hx
      · have := (g.bd i hi).1
        have := hin i hi
        simp only
        omega
      · exact hb x hx
    have hp2 : ((al.getD i 0, al.getD i 0 + sz.getD i 0) :: takenTo sz un al i i).Pairwise (fun x y => x.2 ≤ y.1 ∨ y.2 ≤ x.1) := by
      rw [List.pairwise_cons]
      refine ⟨fun y hy => ?_, hp⟩
      obtain ⟨j, q1, q2, q3, rfl⟩ := takenTo_mem.1 hy
      have := (ho i hi).2.2 j q1
      unfold pairOk at this
      rw [q2] at this
      simp only
      rcases this with h | h | h | h | h
      · omega
      · omega
      · omega
      · omega
      · cases h
    have := pack _ _ 0 R (Nat.le_refl _) hr0 hb2 hp2
    simp only [tot] at this
    omega
  · have := pack _ _ 0 R (Nat.le_refl _) hr0 hb hp
    have := (hs i hi).1
    omega

theorem room_peak {sz un : List Int} (h : mayOk sz un) (i : Nat) (hi : i ≤ sz.length) : peakTo sz un i ≤ roomTo sz un sz.length := by
  induction i with
  | zero => exact (room_sum (un := un) h.2.2 sz.length (Nat.le_refl _)).1
  | succ i ih =>
    have e : peakTo sz un (i + 1) = max (peakTo sz un i) (liveTo sz un i i) := rfl
    have := ih (by omega)
    have := room_live h i (by omega)
    omega
end Go.Proofs.Ytcbjikopmlaapaa.Ar
