/-
  Numbers in their order (layer 22): the plain law; no program in sight.
  Conditions: none.
-/
namespace Go.Proofs.Ytlbijkafcododaa.Rk
set_option linter.unusedVariables false
set_option linter.unusedSimpArgs false

/-- k stands ahead of i. -/
def ahead (l : List Int) (k i : Nat) : Bool := decide (l.getD i 0 < l.getD k 0) || (l.getD k 0 == l.getD i 0 && decide (k < i))
theorem ahead_iff {l : List Int} {k i : Nat} : ahead l k i = true ↔ l.getD i 0 < l.getD k 0 ∨ (l.getD k 0 = l.getD i 0 ∧ k < i) := by simp [ahead]
theorem ahead_trans {l : List Int} {a b c : Nat} (h1 : ahead l a b = true) (h2 : ahead l b c = true) : ahead l a c = true := by
  rw [ahead_iff] at *; omega
theorem ahead_asymm {l : List Int} {a b : Nat} (h1 : ahead l a b = true) : ahead l b a = false := by
  rw [Bool.eq_false_iff]; intro h2; rw [ahead_iff] at *; omega
theorem ahead_irrefl (l : List Int) (a : Nat) : ahead l a a = false := by
  rw [Bool.eq_false_iff]; intro h2; rw [ahead_iff] at *; omega
theorem ahead_total (l : List Int) {a b : Nat} (h : a ≠ b) : ahead l a b = true ∨ ahead l b a = true := by
  rw [ahead_iff, ahead_iff]; omega

def plc (l : List Int) (i : Nat) : Nat := (List.range l.length).countP fun k => ahead l k i
def plcTo (l : List Int) (i k : Nat) : Nat := (List.range k).countP fun k => ahead l k i
theorem plcTo_succ (l : List Int) (i k : Nat) : plcTo l i (k + 1) = plcTo l i k + if ahead l k i then 1 else 0 := by
  unfold plcTo; rw [List.range_succ, List.countP_append]; simp [List.countP_cons]
theorem plcTo_le (l : List Int) (i k : Nat) : plcTo l i k ≤ k := by
  unfold plcTo; exact Nat.le_trans List.countP_le_length (by simp)
def placeI (l : List Int) (i : Int) : Int := if i < 0 ∨ (l.length : Int) ≤ i then -1 else (plc l i.toNat : Int)

def refOrder (l : List Int) : List Nat := (List.range l.length).flatMap fun m => (List.range l.length).filter fun i => plc l i == m

structure IsOrder (l : List Int) (o : List Nat) : Prop where
  perm : o.Perm (List.range l.length)
  asc : o.Pairwise fun i j => ahead l i j = true

theorem IsOrder.len {l : List Int} {o : List Nat} (h : IsOrder l o) : o.length = l.length := by
  have := h.perm.length_eq; simpa using this

theorem IsOrder.plc_at {l : List Int} {o : List Nat} (h : IsOrder l o) (m : Nat) (hm : m < o.length) : plc l o[m] = m := by
  unfold plc
  rw [← h.perm.countP_eq]
  have hs : o = o.take m ++ o[m] :: o.drop (m + 1) := by rw [← List.drop_eq_getElem_cons hm, List.take_append_drop]
  have hp := h.asc
  rw [hs] at hp
  rw [List.pairwise_append] at hp
  obtain ⟨h1, h2, h3⟩ := hp
  rw [List.pairwise_cons] at h2
  generalize hx : o[m] = x at *
  rw [hs, List.countP_append, List.countP_cons, ahead_irrefl]
  have c1 : (o.take m).countP (fun k => ahead l k x) = m := by
    rw [List.countP_eq_length.2 (fun k hk => h3 k hk x (by simp))]
    simp; omega
  have c2 : (o.drop (m + 1)).countP (fun k => ahead l k x) = 0 := by
    rw [List.countP_eq_zero]
    intro k hk
    have := ahead_asymm (h2.1 k hk)
    simp [this]
  rw [c1, c2]; simp

theorem IsOrder.mem {l : List Int} {o : List Nat} (h : IsOrder l o) (i : Nat) (hi : i < l.length) : ∃ m, ∃ hm : m < o.length, o[m] = i := by
  have : i ∈ o := h.perm.mem_iff.2 (by simp [hi])
  exact List.getElem_of_mem this

theorem filter_one (n x : Nat) (hx : x < n) (p : Nat → Bool) (hp : ∀ i, i < n → (p i = true ↔ i = x)) : (List.range n).filter p = [x] := by
  induction n with
  | zero => omega
  | succ n ih =>
    rw [List.range_succ, List.filter_append]
    by_cases c : x = n
    · subst c
      have : (List.range x).filter p = [] := by
        rw [List.filter_eq_nil_iff]
        intro i hi h
        have hi' : i < x := by simpa using hi
        have := (hp i (by omega)).1 h
        omega
      rw [this]
      simp [List.filter_cons, (hp x (by omega)).2 rfl]
    · rw [ih (by omega) (fun i hi => hp i (by omega))]
      have : p n = false := by
        rw [Bool.eq_false_iff]; intro h
        exact c ((hp n (by omega)).1 h).symm
      simp [List.filter_cons, this]

theorem IsOrder.eq {l : List Int} {o : List Nat} (h : IsOrder l o) : refOrder l = o := by
  have hl := h.len
  have key : ∀ k, k ≤ o.length → ((List.range k).flatMap fun m => (List.range l.length).filter fun i => plc l i == m) = o.take k := by
    intro k
    induction k with
    | zero => intro _; simp
    | succ k ih =>
      intro hk
      rw [List.range_succ, List.flatMap_append, ih (by omega)]
      have hx : o[k] < l.length := by
        have : o[k] ∈ List.range l.length := h.perm.mem_iff.1 (List.getElem_mem _)
        simpa using this
      have : ((List.range l.length).filter fun i => plc l i == k) = [o[k]] := by
        refine filter_one _ _ hx _ fun i hi => ?_
        rw [beq_iff_eq]
        obtain ⟨m, hm, rfl⟩ := h.mem i hi
        rw [h.plc_at m hm]
        constructor
        · rintro rfl; rfl
        · intro e
          have := h.plc_at m hm
          rw [e, h.plc_at k (by omega)] at this
          exact this.symm
      simp only [List.flatMap_cons, List.flatMap_nil, List.append_nil, this]
      rw [List.take_succ_eq_append_getElem (by omega)]
  unfold refOrder
  rw [← hl]
  have := key o.length (Nat.le_refl _)
  rw [List.take_length] at this
  rw [hl] at this ⊢
  exact this

/-! ### the best -/
def bestTo (l : List Int) : Nat → Int
  | 0 => -1
  | k + 1 => if bestTo l k < 0 ∨ l.getD (bestTo l k).toNat 0 < l.getD k 0 then (k : Int) else bestTo l k
def bestI (l : List Int) : Int := bestTo l l.length

theorem bestTo_spec (l : List Int) (k : Nat) : (k = 0 ∧ bestTo l k = -1) ∨ ∃ b : Nat, b < k ∧ bestTo l k = (b : Int) ∧ ∀ i, i < k → i ≠ b → ahead l b i = true := by
  induction k with
  | zero => exact .inl ⟨rfl, rfl⟩
  | succ k ih =>
    right
    unfold bestTo
    rcases ih with ⟨rfl, e⟩ | ⟨b, hb, e, h⟩
    · refine ⟨0, by omega, by rw [e]; rfl, fun i hi h => by omega⟩
    · rw [e]
      by_cases c : (b : Int) < 0 ∨ l.getD (b : Int).toNat 0 < l.getD k 0
      · rw [if_pos c]
        refine ⟨k, by omega, rfl, fun i hi hne => ?_⟩
        have c' : l.getD b 0 < l.getD k 0 := by
          rcases c with c | c
          · omega
          · simpa using c
        have kb : ahead l k b = true := by rw [ahead_iff]; exact .inl c'
        by_cases ib : i = b
        · rw [ib]; exact kb
        · exact ahead_trans kb (h i (by omega) ib)
      · rw [if_neg c]
        refine ⟨b, by omega, rfl, fun i hi hne => ?_⟩
        by_cases ik : i = k
        · subst ik
          rw [ahead_iff]
          have : ¬ l.getD b 0 < l.getD i 0 := fun h => c (.inr (by simpa using h))
          omega
        · exact h i (by omega) hne

theorem bestTo_bd (l : List Int) (k : Nat) : -1 ≤ bestTo l k ∧ bestTo l k < k := by
  rcases bestTo_spec l k with ⟨h, e⟩ | ⟨b, hb, e, _⟩ <;> rw [e] <;> omega

theorem plc_zero {l : List Int} {i : Nat} (h : plc l i = 0) (k : Nat) (hk : k < l.length) : ahead l k i = false := by
  unfold plc at h
  rw [List.countP_eq_zero] at h
  have := h k (by simpa using hk)
  simpa using this

theorem best_ahead {l : List Int} (h : 0 < l.length) : ∃ b : Nat, b < l.length ∧ bestI l = (b : Int) ∧ plc l b = 0 ∧ ∀ i, i < l.length → i ≠ b → ahead l b i = true := by
  rcases bestTo_spec l l.length with ⟨h', _⟩ | ⟨b, hb, e, h1⟩
  · omega
  · refine ⟨b, hb, e, ?_, h1⟩
    unfold plc
    rw [List.countP_eq_zero]
    intro k hk
    have hk' : k < l.length := by simpa using hk
    by_cases c : k = b
    · rw [c, ahead_irrefl]; simp
    · rw [ahead_asymm (h1 k hk' c)]; simp

theorem best_of_plc {l : List Int} {i : Nat} (hi : i < l.length) (h : plc l i = 0) : bestI l = (i : Int) := by
  obtain ⟨b, hb, e, _, h1⟩ := best_ahead (l := l) (by omega)
  by_cases c : i = b
  · rw [c]; exact e
  · have := h1 i hi c
    rw [plc_zero h b hb] at this
    cases this

theorem best_none {l : List Int} (h : ∀ i, i < l.length → plc l i ≠ 0) : bestI l = -1 := by
  by_cases c : l.length = 0
  · have : l = [] := List.length_eq_zero_iff.1 c
    subst this; rfl
  · obtain ⟨b, hb, _, e, _⟩ := best_ahead (l := l) (by omega)
    exact (h b hb e).elim

/-! ### by how much -/
def marginI (l : List Int) : Int := if l.length < 2 then 0 else l.getD ((refOrder l).getD 0 0) 0 - l.getD ((refOrder l).getD 1 0) 0

/-- The greatest of the others. -/
def secondTo (l : List Int) (b : Nat) : Nat → Int
  | 0 => -1
  | k + 1 => if k ≠ b ∧ (secondTo l b k < 0 ∨ l.getD (secondTo l b k).toNat 0 < l.getD k 0) then (k : Int) else secondTo l b k

theorem secondTo_spec (l : List Int) (b k : Nat) : (secondTo l b k = -1 ∧ ∀ i, i < k → i = b) ∨ ∃ s : Nat, s < k ∧ s ≠ b ∧ secondTo l b k = (s : Int) ∧ ∀ i, i < k → i ≠ b → l.getD i 0 ≤ l.getD s 0 := by
  induction k with
  | zero => exact .inl ⟨rfl, fun i hi => by omega⟩
  | succ k ih =>
    unfold secondTo
    rcases ih with ⟨e, h⟩ | ⟨s, hs, hsb, e, h⟩
    · rw [e]
      by_cases c : k = b
      · rw [if_neg (by omega)]
        left
        refine ⟨rfl, fun i hi => ?_⟩
        by_cases ik : i = k
        · omega
        · exact h i (by omega)
      · rw [if_pos ⟨c, .inl (by omega)⟩]
        right
        refine ⟨k, by omega, c, rfl, fun i hi hib => ?_⟩
        by_cases ik : i = k
        · rw [ik]; exact Int.le_refl _
        · exact (hib (h i (by omega))).elim
    · rw [e]
      right
      by_cases c : k ≠ b ∧ ((s : Int) < 0 ∨ l.getD (s : Int).toNat 0 < l.getD k 0)
      · rw [if_pos c]
        have c' : l.getD s 0 < l.getD k 0 := by
          rcases c.2 with c | c
          · omega
          · simpa using c
        refine ⟨k, by omega, c.1, rfl, fun i hi hib => ?_⟩
        by_cases ik : i = k
        · rw [ik]; exact Int.le_refl _
        · have := h i (by omega) hib; omega
      · rw [if_neg c]
        refine ⟨s, by omega, hsb, rfl, fun i hi hib => ?_⟩
        by_cases ik : i = k
        · subst ik
          have : ¬ l.getD s 0 < l.getD i 0 := fun h => c ⟨hib, .inr (by simpa using h)⟩
          omega
        · exact h i (by omega) hib

theorem secondTo_bd (l : List Int) (b k : Nat) : -1 ≤ secondTo l b k ∧ secondTo l b k < k := by
  rcases secondTo_spec l b k with ⟨e, _⟩ | ⟨s, hs, _, e, _⟩ <;> rw [e] <;> omega

theorem IsOrder.first {l : List Int} {o : List Nat} (h : IsOrder l o) (h0 : 0 < l.length) : bestI l = (o.getD 0 0 : Nat) := by
  have hl := h.len
  have := h.plc_at 0 (by omega)
  have hx : o[0] < l.length := by
    have : o[0] ∈ List.range l.length := h.perm.mem_iff.1 (List.getElem_mem _)
    simpa using this
  rw [best_of_plc hx this]
  rw [List.getD_eq_getElem?_getD, List.getElem?_eq_getElem (by omega)]; rfl

theorem IsOrder.getD {l : List Int} {o : List Nat} (h : IsOrder l o) (m : Nat) (hm : m < l.length) : o.getD m 0 < l.length ∧ o.getD m 0 = o[m]'(by rw [h.len]; exact hm) := by
  have hl := h.len
  have e : o.getD m 0 = o[m]'(by omega) := by rw [List.getD_eq_getElem?_getD, List.getElem?_eq_getElem (by omega)]; rfl
  rw [e]
  have : o[m]'(by omega) ∈ List.range l.length := h.perm.mem_iff.1 (List.getElem_mem _)
  exact ⟨by simpa using this, rfl⟩

/-- The second one is the greatest of the others. -/
theorem IsOrder.second {l : List Int} {o : List Nat} (h : IsOrder l o) (h2 : 2 ≤ l.length) (s : Nat) (hs : s < l.length) (hne : s ≠ o.getD 0 0) (hm : ∀ i, i < l.length → i ≠ o.getD 0 0 → l.getD i 0 ≤ l.getD s 0) : l.getD (o.getD 1 0) 0 = l.getD s 0 := by
  have hl := h.len
  obtain ⟨a0, e0⟩ := h.getD 0 (by omega)
  obtain ⟨a1, e1⟩ := h.getD 1 (by omega)
  have p0 := h.plc_at 0 (by omega)
  have p1 := h.plc_at 1 (by omega)
  have hn1 : o.getD 1 0 ≠ o.getD 0 0 := by
    rw [e0, e1]; intro e; rw [e, p0] at p1; omega
  have g1 := hm _ a1 hn1
  obtain ⟨m, hmo, em⟩ := h.mem s hs
  have hm0 : m ≠ 0 := by rintro rfl; exact hne (by rw [e0]; exact em.symm)
  by_cases m1 : m = 1
  · subst m1; rw [e1, em]
  · have hp := List.pairwise_iff_getElem.1 h.asc 1 m (by omega) hmo (by omega)
    rw [em] at hp
    rw [ahead_iff] at hp
    rw [e1] at g1 ⊢
    omega

theorem margin_ref {l : List Int} {o : List Nat} (h : IsOrder l o) (h2 : 2 ≤ l.length) : marginI l = l.getD (bestI l).toNat 0 - l.getD (secondTo l (bestI l).toNat l.length).toNat 0 := by
  unfold marginI
  rw [if_neg (by omega), h.eq, h.first (by omega)]
  rcases secondTo_spec l (o.getD 0 0) l.length with ⟨_, hx⟩ | ⟨s, hs, hsb, e, hx⟩
  · have := hx 0 (by omega); have := hx 1 (by omega); omega
  · simp only [Int.toNat_natCast]
    rw [e, Int.toNat_natCast, h.second h2 s hs hsb hx]

/-! ### numbers that all grow -/
theorem ahead_grow {l m : List Int} {c : Int} (hl : m.length = l.length) (h : ∀ i, i < l.length → m.getD i 0 = l.getD i 0 + c) {i k : Nat} (hi : i < l.length) (hk : k < l.length) : ahead m k i = ahead l k i := by
  rw [Bool.eq_iff_iff, ahead_iff, ahead_iff, h i hi, h k hk]; omega
theorem plc_grow {l m : List Int} {c : Int} (hl : m.length = l.length) (h : ∀ i, i < l.length → m.getD i 0 = l.getD i 0 + c) {i : Nat} (hi : i < l.length) : plc m i = plc l i := by
  unfold plc
  rw [hl]
  exact List.countP_congr fun k hk => by rw [ahead_grow hl h hi (by simpa using hk)]
theorem order_grow {l m : List Int} {c : Int} (hl : m.length = l.length) (h : ∀ i, i < l.length → m.getD i 0 = l.getD i 0 + c) : refOrder m = refOrder l := by
  unfold refOrder
  rw [hl]
  congr 1
  funext k
  exact List.filter_congr fun i hi => by rw [plc_grow hl h (by simpa using hi)]
theorem best_grow {l m : List Int} {c : Int} (hl : m.length = l.length) (h : ∀ i, i < l.length → m.getD i 0 = l.getD i 0 + c) : bestI m = bestI l := by
  by_cases h0 : l.length = 0
  · have e1 : l = [] := List.length_eq_zero_iff.1 h0
    have e2 : m = [] := List.length_eq_zero_iff.1 (by rw [hl]; exact h0)
    rw [e1, e2]
  · obtain ⟨b, hb, e, hp, _⟩ := best_ahead (l := l) (by omega)
    rw [e]
    exact best_of_plc (by omega) (by rw [plc_grow hl h hb]; exact hp)
theorem margin_grow {l m : List Int} {c : Int} {o : List Nat} (ho : IsOrder l o) (hl : m.length = l.length) (h : ∀ i, i < l.length → m.getD i 0 = l.getD i 0 + c) : marginI m = marginI l := by
  unfold marginI
  rw [hl]
  by_cases h2 : l.length < 2
  · rw [if_pos h2, if_pos h2]
  · rw [if_neg h2, if_neg h2, order_grow hl h, ho.eq]
    rw [h _ (ho.getD 0 (by omega)).1, h _ (ho.getD 1 (by omega)).1]
    omega

theorem order_exists (l : List Int) : ∃ o, IsOrder l o := by
  refine ⟨(List.range l.length).mergeSort (fun a b => ahead l a b || a == b), List.mergeSort_perm _ _, ?_⟩
  have hp := List.pairwise_mergeSort (le := fun a b => ahead l a b || a == b) (fun a b c h1 h2 => ?_) (fun a b => ?_) (List.range l.length)
  · have hn : ((List.range l.length).mergeSort (fun a b => ahead l a b || a == b)).Nodup := (List.mergeSort_perm _ _).nodup_iff.2 List.nodup_range
    refine (List.Pairwise.and hp hn).imp ?_
    intro a b h
    obtain ⟨h1, h2⟩ := h
    simp only [Bool.or_eq_true, beq_iff_eq] at h1
    rcases h1 with h1 | h1
    · exact h1
    · exact (h2 h1).elim
  · simp only [Bool.or_eq_true, beq_iff_eq] at *
    rcases h1 with h1 | rfl
    · rcases h2 with h2 | rfl
      · exact .inl (ahead_trans h1 h2)
      · exact .inl h1
    · exact h2
  · simp only [Bool.or_eq_true, beq_iff_eq]
    by_cases c : a = b
    · exact .inl (.inr c)
    · rcases ahead_total l c with h | h
      · exact .inl (.inl h)
      · exact .inr (.inl h)
theorem refOrder_is (l : List Int) : IsOrder l (refOrder l) := by
  obtain ⟨o, h⟩ := order_exists l
  rw [h.eq]; exact h
end Go.Proofs.Ytlbijkafcododaa.Rk
