/-
  The plain law of a stable merge in place (swapRange, rotate, insertion of one element, symMerge) over an array: no program in sight.
  Conditions: none.
-/
import Derived.Sort.LotA
namespace Go.Proofs.Ytlbijkafcododaa.Sta
set_option linter.unusedVariables false
set_option linter.unusedSimpArgs false
open Go.Sort
variable {α : Type} [Inhabited α]

/-- data[a+i] and data[b+i] exchanged, for i below n. -/
def swpRange (d : Array α) (a b : Nat) : Nat → Array α
  | 0 => d
  | n + 1 => swp (swpRange d a b n) (a + n) (b + n)

theorem swpRange_size (d : Array α) (a b n : Nat) : (swpRange d a b n).size = d.size := by
  induction n with
  | zero => rfl
  | succ n ih => rw [swpRange, swp_size, ih]

theorem swpRange_get (d : Array α) (a b n : Nat) (h : a + n ≤ b) (hb : b + n ≤ d.size) (k : Nat) :
    (swpRange d a b n)[k]! = if a ≤ k ∧ k < a + n then d[k + (b - a)]! else if b ≤ k ∧ k < b + n then d[k - (b - a)]! else d[k]! := by
  induction n generalizing k with
  | zero => rw [if_neg (by omega), if_neg (by omega)]; rfl
  | succ n ih =>
    have ih := fun k => ih (by omega) (by omega) k
    rw [swpRange, swp_get _ (by rw [swpRange_size]; omega) (by rw [swpRange_size]; omega)]
    simp only [ih]
    (repeat' split) <;> first | rfl | (exfalso; omega) | (congr 1; omega) | exact absurd trivial (by assumption)

theorem swpRange_perm (d : Array α) (a b n lo hi : Nat) (h1 : lo ≤ a) (h2 : a ≤ b) (h3 : b + n ≤ hi) (h4 : hi ≤ d.size) : PermIn lo hi d (swpRange d a b n) := by
  induction n with
  | zero => exact permIn_refl _ _ _
  | succ n ih =>
    refine permIn_trans _ _ _ _ _ (ih (by omega)) (swp_permIn _ _ _ _ _ (by omega) (by omega) (by omega) (by omega) (by rw [swpRange_size]; omega))

/-- Where what stands at k behind the turn stood before: [a, m) and [m, b) changed over. -/
def rotIdx (a m b k : Nat) : Nat := if a ≤ k ∧ k < a + (b - m) then k + (m - a) else if a + (b - m) ≤ k ∧ k < b then k - (b - m) else k

/-- A state of rotate's loop: [m - i, m) and [m, m + j) are still to be changed over. -/
structure Rot (a m b : Nat) (d0 : Array α) (i j : Nat) (d : Array α) : Prop where
  size : d.size = d0.size
  hi : 0 < i
  hj : 0 < j
  la : a + i ≤ m
  lb : m + j ≤ b
  get : ∀ k, d[rotIdx (m - i) m (m + j) k]! = d0[rotIdx a m b k]!
  perm : PermIn a b d0 d

theorem Rot.start {a m b : Nat} (d0 : Array α) (h1 : a < m) (h2 : m < b) : Rot a m b d0 (m - a) (b - m) d0 :=
  ⟨rfl, by omega, by omega, by omega, by omega, fun k => by rw [show m - (m - a) = a by omega, show m + (b - m) = b by omega], permIn_refl _ _ _⟩

theorem Rot.left {a m b : Nat} {d0 d : Array α} {i j : Nat} (h : Rot a m b d0 i j d) (hb : b ≤ d0.size) (hij : j < i) : Rot a m b d0 (i - j) j (swpRange d (m - i) m j) := by
  have h1 := h.la
  have h2 := h.lb
  have h3 := h.hj
  have h4 := h.size
  refine ⟨by rw [swpRange_size]; exact h.size, by omega, h.hj, by omega, h.lb, fun k => ?_, permIn_trans _ _ _ _ _ h.perm (swpRange_perm _ _ _ _ _ _ (by omega) (by omega) (by omega) (by omega))⟩
  rw [← h.get k, swpRange_get _ _ _ _ (by omega) (by omega)]
  unfold rotIdx
  (repeat' split) <;> first | rfl | (exfalso; omega) | (congr 1; omega) | exact absurd trivial (by assumption)

theorem Rot.right {a m b : Nat} {d0 d : Array α} {i j : Nat} (h : Rot a m b d0 i j d) (hb : b ≤ d0.size) (hij : i < j) : Rot a m b d0 i (j - i) (swpRange d (m - i) (m + j - i) i) := by
  have h1 := h.la
  have h2 := h.lb
  have h3 := h.hi
  have h4 := h.size
  refine ⟨by rw [swpRange_size]; exact h.size, h.hi, by omega, by omega, by omega, fun k => ?_, permIn_trans _ _ _ _ _ h.perm (swpRange_perm _ _ _ _ _ _ (by omega) (by omega) (by omega) (by omega))⟩
  rw [← h.get k, swpRange_get _ _ _ _ (by omega) (by omega)]
  unfold rotIdx
  (repeat' split) <;> first | rfl | (exfalso; omega) | (congr 1; omega) | exact absurd trivial (by assumption)

/-- The whole turned. -/
structure Turned (a m b : Nat) (d0 d : Array α) : Prop where
  size : d.size = d0.size
  get : ∀ k, d[k]! = d0[rotIdx a m b k]!
  perm : PermIn a b d0 d

theorem Rot.done {a m b : Nat} {d0 d : Array α} {i : Nat} (h : Rot a m b d0 i i d) (hb : b ≤ d0.size) : Turned a m b d0 (swpRange d (m - i) m i) := by
  have h1 := h.la
  have h2 := h.lb
  have h3 := h.hi
  have h4 := h.size
  refine ⟨by rw [swpRange_size]; exact h.size, fun k => ?_, permIn_trans _ _ _ _ _ h.perm (swpRange_perm _ _ _ _ _ _ (by omega) (by omega) (by omega) (by omega))⟩
  rw [← h.get k, swpRange_get _ _ _ _ (by omega) (by omega)]
  unfold rotIdx
  (repeat' split) <;> first | rfl | (exfalso; omega) | (congr 1; omega) | exact absurd trivial (by assumption)

/-! ### A strict total order on what lies there, and the merge -/

/-- Each is ahead of each later one. -/
def Asc (L : α → α → Bool) (a b : Nat) (d : Array α) : Prop := ∀ i j, a ≤ i → i < j → j < b → L d[i]! d[j]! = true

/-- A test that is the order's own between any of the right part and any of the left part; one of two is ahead. -/
def Cross (lt L : α → α → Bool) (a m b : Nat) (d : Array α) : Prop := ∀ i j, a ≤ i → i < m → m ≤ j → j < b → lt d[j]! d[i]! = L d[j]! d[i]! ∧ (L d[j]! d[i]! = false → L d[i]! d[j]! = true)

def Tr (L : α → α → Bool) : Prop := ∀ x y z, L x y = true → L y z = true → L x z = true

structure Merged (L : α → α → Bool) (a b : Nat) (d d' : Array α) : Prop where
  perm : PermIn a b d d'
  asc : Asc L a b d'

theorem PermIn.size {a b : Nat} {d d' : Array α} (h : PermIn a b d d') : d'.size = d.size := h.1
theorem PermIn.out {a b : Nat} {d d' : Array α} (h : PermIn a b d d') (i : Nat) (hi : i < a ∨ b ≤ i) : d'[i]! = d[i]! := h.2.1 i hi

/-! ### one element on the left: moved to the right -/
def shiftR (d : Array α) (a : Nat) : Nat → Array α
  | 0 => d
  | n + 1 => swp (shiftR d a n) (a + n) (a + n + 1)
theorem shiftR_size (d : Array α) (a n : Nat) : (shiftR d a n).size = d.size := by
  induction n with
  | zero => rfl
  | succ n ih => rw [shiftR, swp_size, ih]
theorem shiftR_get (d : Array α) (a n : Nat) (h : a + n < d.size) (k : Nat) : (shiftR d a n)[k]! = if k = a + n then d[a]! else if a ≤ k ∧ k < a + n then d[k + 1]! else d[k]! := by
  induction n generalizing k with
  | zero =>
    by_cases c : k = a + 0
    · rw [if_pos c, shiftR, c]; rfl
    · rw [if_neg c, if_neg (by omega)]; rfl
  | succ n ih =>
    have ih := fun k => ih (by omega) k
    rw [shiftR, swp_get _ (by rw [shiftR_size]; omega) (by rw [shiftR_size]; omega)]
    simp only [ih]
    (repeat' split) <;> first | rfl | (exfalso; omega) | (congr 1; omega) | exact absurd trivial (by assumption)
theorem shiftR_perm (d : Array α) (a n lo hi : Nat) (h1 : lo ≤ a) (h2 : a + n < hi) (h3 : hi ≤ d.size) : PermIn lo hi d (shiftR d a n) := by
  induction n with
  | zero => exact permIn_refl _ _ _
  | succ n ih => exact permIn_trans _ _ _ _ _ (ih (by omega)) (swp_permIn _ _ _ _ _ (by omega) (by omega) (by omega) (by omega) (by rw [shiftR_size]; omega))

theorem merge_one_left {lt L : α → α → Bool} {a b i : Nat} {d : Array α} (hb : b ≤ d.size) (hA : Asc L (a + 1) b d) (hC : Cross lt L a (a + 1) b d) (h1 : a + 1 ≤ i) (h2 : i ≤ b)
    (hl : ∀ h, a + 1 ≤ h → h < i → lt d[h]! d[a]! = true) (hr : ∀ h, i ≤ h → h < b → lt d[h]! d[a]! = false) : Merged L a b d (shiftR d a (i - 1 - a)) := by
  refine ⟨shiftR_perm _ _ _ _ _ (by omega) (by omega) hb, fun p q hp hpq hq => ?_⟩
  rw [shiftR_get _ _ _ (by omega), shiftR_get _ _ _ (by omega)]
  rw [show a + (i - 1 - a) = i - 1 by omega]
  by_cases c1 : p = i - 1
  · rw [if_pos c1, if_neg (by omega), if_neg (by omega)]
    obtain ⟨e1, e2⟩ := hC a q (by omega) (by omega) (by omega) hq
    exact e2 (by rw [← e1]; exact hr q (by omega) hq)
  · rw [if_neg c1]
    by_cases c2 : q = i - 1
    · rw [if_pos c2, if_pos (by omega)]
      obtain ⟨e1, _⟩ := hC a (p + 1) (by omega) (by omega) (by omega) (by omega)
      rw [← e1]
      exact hl (p + 1) (by omega) (by omega)
    · rw [if_neg c2]
      by_cases c3 : q < i - 1
      · rw [if_pos (by omega), if_pos (by omega)]
        exact hA _ _ (by omega) (by omega) (by omega)
      · rw [if_neg (show ¬ (a ≤ q ∧ q < i - 1) by omega)]
        by_cases c4 : p < i - 1
        · rw [if_pos (by omega)]
          exact hA _ _ (by omega) (by omega) (by omega)
        · rw [if_neg (by omega)]
          exact hA _ _ (by omega) (by omega) (by omega)

/-! ### one element on the right: moved to the left -/
def shiftL (d : Array α) (m : Nat) : Nat → Array α
  | 0 => d
  | n + 1 => swp (shiftL d m n) (m - n) (m - n - 1)
theorem shiftL_size (d : Array α) (m n : Nat) : (shiftL d m n).size = d.size := by
  induction n with
  | zero => rfl
  | succ n ih => rw [shiftL, swp_size, ih]
theorem shiftL_get (d : Array α) (m n : Nat) (h : m < d.size) (hn : n ≤ m) (k : Nat) : (shiftL d m n)[k]! = if k = m - n then d[m]! else if m - n < k ∧ k ≤ m then d[k - 1]! else d[k]! := by
  induction n generalizing k with
  | zero =>
    by_cases c : k = m - 0
    · rw [if_pos c, shiftL, c]; rfl
    · rw [if_neg c, if_neg (by omega)]; rfl
  | succ n ih =>
    have ih := fun k => ih (by omega) k
    rw [shiftL, swp_get _ (by rw [shiftL_size]; omega) (by rw [shiftL_size]; omega)]
    simp only [ih]
    (repeat' split) <;> first | rfl | (exfalso; omega) | (congr 1; omega) | exact absurd trivial (by assumption)
theorem shiftL_perm (d : Array α) (m n lo hi : Nat) (h1 : lo + n ≤ m) (h2 : m < hi) (h3 : hi ≤ d.size) : PermIn lo hi d (shiftL d m n) := by
  induction n with
  | zero => exact permIn_refl _ _ _
  | succ n ih => exact permIn_trans _ _ _ _ _ (ih (by omega)) (swp_permIn _ _ _ _ _ (by omega) (by omega) (by omega) (by omega) (by rw [shiftL_size]; omega))

theorem merge_one_right {lt L : α → α → Bool} {a m i : Nat} {d : Array α} (hb : m < d.size) (hA : Asc L a m d) (hC : Cross lt L a m (m + 1) d) (h1 : a ≤ i) (h2 : i ≤ m)
    (hl : ∀ h, a ≤ h → h < i → lt d[m]! d[h]! = false) (hr : ∀ h, i ≤ h → h < m → lt d[m]! d[h]! = true) : Merged L a (m + 1) d (shiftL d m (m - i)) := by
  refine ⟨shiftL_perm _ _ _ _ _ (by omega) (by omega) hb, fun p q hp hpq hq => ?_⟩
  rw [shiftL_get _ _ _ (by omega) (by omega), shiftL_get _ _ _ (by omega) (by omega)]
  rw [show m - (m - i) = i by omega]
  by_cases c1 : p = i
  · rw [if_pos c1, if_neg (by omega), if_pos (by omega)]
    obtain ⟨e1, e2⟩ := hC (q - 1) m (by omega) (by omega) (by omega) (by omega)
    rw [← e1]
    exact hr (q - 1) (by omega) (by omega)
  · rw [if_neg c1]
    by_cases c2 : q = i
    · rw [if_pos c2, if_neg (by omega)]
      obtain ⟨e1, e2⟩ := hC p m (by omega) (by omega) (by omega) (by omega)
      exact e2 (by rw [← e1]; exact hl p (by omega) (by omega))
    · rw [if_neg c2]
      by_cases c3 : p < i
      · rw [if_neg (by omega)]
        by_cases c4 : q < i
        · rw [if_neg (by omega)]
          exact hA _ _ (by omega) (by omega) (by omega)
        · rw [if_pos (by omega)]
          exact hA _ _ (by omega) (by omega) (by omega)
      · rw [if_pos (by omega), if_pos (by omega)]
        exact hA _ _ (by omega) (by omega) (by omega)

/-! ### the cut in the middle -/
/-- What the search knows: below s the left one stays, from r on it goes. -/
structure Search (lt : α → α → Bool) (a m b : Nat) (d : Array α) (s0 r0 s r : Nat) : Prop where
  le : s ≤ r
  lo : s0 ≤ s
  hi : r ≤ r0
  stay : ∀ c, s0 ≤ c → c < s → lt d[(a + b) / 2 + m - 1 - c]! d[c]! = false
  goes : ∀ c, r ≤ c → c < r0 → lt d[(a + b) / 2 + m - 1 - c]! d[c]! = true

/-- The bounds between which the search goes. -/
def cutLo (a m b : Nat) : Nat := if m > (a + b) / 2 then (a + b) / 2 + m - b else a
def cutHi (a m b : Nat) : Nat := if m > (a + b) / 2 then (a + b) / 2 else m

theorem cut_bounds {a m b : Nat} (h1 : a < m) (h2 : m < b) : a ≤ cutLo a m b ∧ cutLo a m b ≤ cutHi a m b ∧ cutHi a m b ≤ m ∧ cutHi a m b ≤ (a + b) / 2 + 1 ∧ (a + b) / 2 + m ≤ b + cutLo a m b ∧ m + cutHi a m b ≤ (a + b) / 2 + m := by
  unfold cutLo cutHi
  split <;> omega

/-- Behind the turn at the cut: both halves are in order each in two parts; all on the left are ahead of all on the right. -/
structure Halves (lt L : α → α → Bool) (a b s mid e : Nat) (d : Array α) : Prop where
  l1 : Asc L a s d
  l2 : Asc L s mid d
  r1 : Asc L mid e d
  r2 : Asc L e b d
  cl : Cross lt L a s mid d
  cr : Cross lt L mid e b d
  ahead : ∀ i j, a ≤ i → i < mid → mid ≤ j → j < b → L d[i]! d[j]! = true

theorem search_stay_lt {lt L : α → α → Bool} (hT : Tr L) {a m b : Nat} {d : Array α} {s : Nat} (h1 : a < m) (h2 : m < b) (hA : Asc L a m d) (hB : Asc L m b d) (hC : Cross lt L a m b d)
    (hs1 : cutLo a m b ≤ s) (hs2 : s ≤ cutHi a m b)
    (stay : ∀ c, cutLo a m b ≤ c → c < s → lt d[(a + b) / 2 + m - 1 - c]! d[c]! = false) (goes : ∀ c, s ≤ c → c < cutHi a m b → lt d[(a + b) / 2 + m - 1 - c]! d[c]! = true)
    {d' : Array α} (hd : Turned s m ((a + b) / 2 + m - s) d d') : Halves lt L a b s ((a + b) / 2) ((a + b) / 2 + m - s) d' := by
  obtain ⟨k1, k2, k3, k4, k5, k6⟩ := cut_bounds h1 h2
  obtain ⟨mid, hmid⟩ : ∃ mid, (a + b) / 2 = mid := ⟨_, rfl⟩
  have hm1 : 2 * mid ≤ a + b ∧ a + b ≤ 2 * mid + 1 := by omega
  rw [hmid] at hd stay goes k4 k5 k6 ⊢
  have g : ∀ k, d'[k]! = d[rotIdx s m (mid + m - s) k]! := hd.get
  have g1 : ∀ k, k < s → d'[k]! = d[k]! := fun k hk => by rw [g]; unfold rotIdx; rw [if_neg (by omega), if_neg (by omega)]
  have g2 : ∀ k, s ≤ k → k < mid → d'[k]! = d[k + (m - s)]! := fun k h h' => by rw [g]; unfold rotIdx; rw [if_pos (by omega)]
  have g3 : ∀ k, mid ≤ k → k < mid + m - s → d'[k]! = d[k - (mid - s)]! := fun k h h' => by
    rw [g]; unfold rotIdx
    rw [if_neg (by omega), if_pos (by omega)]
    congr 1; omega
  have g4 : ∀ k, mid + m - s ≤ k → d'[k]! = d[k]! := fun k h => by rw [g]; unfold rotIdx; rw [if_neg (by omega), if_neg (by omega)]
  -- what the cut says
  have cutL : ∀ c q, a ≤ c → c < s → mid + m - s ≤ q → q < b → L d[c]! d[q]! = true := by
    intro c q hc1 hc2 hq1 hq2
    have hlo : cutLo a m b ≤ s - 1 := by
      unfold cutLo at *
      split <;> rename_i hcut
      · rw [if_pos hcut] at hs1; omega
      · omega
    have e0 := stay (s - 1) hlo (by omega)
    obtain ⟨e1, e2⟩ := hC (s - 1) (mid + m - 1 - (s - 1)) (by omega) (by omega) (by omega) (by omega)
    rw [e1] at e0
    have e3 := e2 e0
    have e4 : L d[c]! d[mid + m - 1 - (s - 1)]! = true := by
      by_cases c' : c = s - 1
      · rw [c']; exact e3
      · exact hT _ _ _ (hA c (s - 1) hc1 (by omega) (by omega)) e3
    by_cases q' : q = mid + m - 1 - (s - 1)
    · rw [q']; exact e4
    · exact hT _ _ _ e4 (hB _ q (by omega) (by omega) hq2)
  have cutR : ∀ q c, m ≤ q → q < mid + m - s → s ≤ c → c < m → L d[q]! d[c]! = true := by
    intro q c hq1 hq2 hc1 hc2
    have hhi : s < cutHi a m b := by
      unfold cutHi at *
      split <;> rename_i hcut
      · rw [if_pos hcut] at hs2; omega
      · omega
    have e0 := goes s (Nat.le_refl _) hhi
    obtain ⟨e1, e2⟩ := hC s (mid + m - 1 - s) (by omega) (by omega) (by omega) (by omega)
    rw [e1] at e0
    have e4 : L d[q]! d[s]! = true := by
      by_cases q' : q = mid + m - 1 - s
      · rw [q']; exact e0
      · exact hT _ _ _ (hB q _ (by omega) (by omega) (by omega)) e0
    by_cases c' : c = s
    · rw [c']; exact e4
    · exact hT _ _ _ e4 (hA s c (by omega) (by omega) hc2)
  refine ⟨fun i j hi hij hj => ?_, fun i j hi hij hj => ?_, fun i j hi hij hj => ?_, fun i j hi hij hj => ?_, fun i j hi him hj hjb => ?_, fun i j hi him hj hjb => ?_, fun i j hi him hj hjb => ?_⟩
  · rw [g1 i (by omega), g1 j (by omega)]; exact hA _ _ (by omega) (by omega) (by omega)
  · rw [g2 i (by omega) (by omega), g2 j (by omega) (by omega)]; exact hB _ _ (by omega) (by omega) (by omega)
  · rw [g3 i (by omega) (by omega), g3 j (by omega) (by omega)]; exact hA _ _ (by omega) (by omega) (by omega)
  · rw [g4 i (by omega), g4 j (by omega)]; exact hB _ _ (by omega) (by omega) (by omega)
  · rw [g1 i (by omega), g2 j (by omega) (by omega)]; exact hC _ _ (by omega) (by omega) (by omega) (by omega)
  · rw [g3 i (by omega) (by omega), g4 j (by omega)]; exact hC _ _ (by omega) (by omega) (by omega) (by omega)
  · by_cases ci : i < s
    · rw [g1 i ci]
      by_cases cj : j < mid + m - s
      · rw [g3 j hj cj]; exact hA _ _ (by omega) (by omega) (by omega)
      · rw [g4 j (by omega)]; exact cutL i j hi ci (by omega) hjb
    · rw [g2 i (by omega) him]
      by_cases cj : j < mid + m - s
      · rw [g3 j hj cj]; exact cutR _ _ (by omega) (by omega) (by omega) (by omega)
      · rw [g4 j (by omega)]; exact hB _ _ (by omega) (by omega) (by omega)

theorem PermIn.all {a b : Nat} {d d' : Array α} (h : PermIn a b d d') (hb : b ≤ d.size) (p : α → Prop) (hp : ∀ i, a ≤ i → i < b → p d[i]!) : ∀ i, a ≤ i → i < b → p d'[i]! := permIn_all _ _ _ _ p hb h hp

/-- The right half is as it was while the left one is merged. -/
theorem Halves.left {lt L : α → α → Bool} {a b s mid e : Nat} {d d1 : Array α} (h : Halves lt L a b s mid e d) (h1 : a ≤ mid) (h2 : mid ≤ b) (h3 : mid ≤ e) (h4 : e ≤ b) (hb : b ≤ d.size) (hm : Merged L a mid d d1) :
    Asc L mid e d1 ∧ Asc L e b d1 ∧ Cross lt L mid e b d1 ∧ ∀ i j, a ≤ i → i < mid → mid ≤ j → j < b → L d1[i]! d1[j]! = true := by
  have o : ∀ k, mid ≤ k → d1[k]! = d[k]! := fun k hk => PermIn.out hm.perm k (.inr hk)
  refine ⟨fun i j hi hij hj => ?_, fun i j hi hij hj => ?_, fun i j hi him hj hjb => ?_, fun i j hi him hj hjb => ?_⟩
  · rw [o i (by omega), o j (by omega)]; exact h.r1 i j hi hij hj
  · rw [o i (by omega), o j (by omega)]; exact h.r2 i j hi hij hj
  · rw [o i (by omega), o j (by omega)]; exact h.cr i j hi him hj hjb
  · rw [o j hj]
    exact PermIn.all hm.perm (by omega) (fun x => L x d[j]! = true) (fun k hk hk2 => h.ahead k j hk hk2 hj hjb) i hi him

theorem Halves.left_as {lt L : α → α → Bool} {a b s mid e : Nat} {d : Array α} (h : Halves lt L a b s mid e d) (h1 : ¬ (a < s ∧ s < mid)) (h2 : a ≤ s) (h3 : s ≤ mid) : Merged L a mid d d := by
  refine ⟨permIn_refl _ _ _, ?_⟩
  by_cases c : a < s
  · obtain rfl : s = mid := by omega
    exact h.l1
  · obtain rfl : s = a := by omega
    exact h.l2

theorem right_as {L : α → α → Bool} {b mid e : Nat} {d : Array α} (r1 : Asc L mid e d) (r2 : Asc L e b d) (h1 : ¬ (mid < e ∧ e < b)) (h2 : mid ≤ e) (h3 : e ≤ b) : Merged L mid b d d := by
  refine ⟨permIn_refl _ _ _, ?_⟩
  by_cases c : mid < e
  · obtain rfl : e = b := by omega
    exact r1
  · obtain rfl : e = mid := by omega
    exact r2

theorem merged_join {L : α → α → Bool} {a b mid : Nat} {d d1 d2 : Array α} (h1 : a ≤ mid) (h2 : mid ≤ b) (hb : b ≤ d.size) (hm : Merged L a mid d d1) (hr : Merged L mid b d1 d2)
    (ah : ∀ i j, a ≤ i → i < mid → mid ≤ j → j < b → L d1[i]! d1[j]! = true) : Merged L a b d d2 := by
  have z1 : d1.size = d.size := hm.perm.1
  refine ⟨permIn_trans _ _ _ _ _ (permIn_mono _ _ a mid a b (Nat.le_refl _) h2 hb hm.perm) (permIn_mono _ _ mid b a b h1 (Nat.le_refl _) (by omega) hr.perm), fun i j hi hij hj => ?_⟩
  have o : ∀ k, k < mid → d2[k]! = d1[k]! := fun k hk => PermIn.out hr.perm k (.inl hk)
  by_cases c : j < mid
  · rw [o i (by omega), o j c]; exact hm.asc i j hi hij c
  · by_cases c2 : mid ≤ i
    · exact hr.asc i j c2 hij hj
    · rw [o i (by omega)]
      exact PermIn.all hr.perm (by omega) (fun x => L d1[i]! x = true) (fun k hk hk2 => ah i k hi (by omega) hk hk2) j (by omega) hj

theorem merged_perm {L : α → α → Bool} {a b : Nat} {d d1 d2 : Array α} (hp : PermIn a b d d1) (h : Merged L a b d1 d2) : Merged L a b d d2 := ⟨permIn_trans _ _ _ _ _ hp h.perm, h.asc⟩

/-! ### halving searches -/
structure Bin (p : Nat → Bool) (lo hi i j : Nat) : Prop where
  l : lo ≤ i
  m : i ≤ j
  h : j ≤ hi
  yes : ∀ h, lo ≤ h → h < i → p h = true
  no : ∀ h, j ≤ h → h < hi → p h = false

def Mono (p : Nat → Bool) (lo hi : Nat) : Prop := ∀ h h', lo ≤ h → h < h' → h' < hi → p h' = true → p h = true

theorem Bin.start (p : Nat → Bool) (lo hi : Nat) (h : lo ≤ hi) : Bin p lo hi lo hi := ⟨Nat.le_refl _, h, Nat.le_refl _, fun _ _ _ => by omega, fun _ _ _ => by omega⟩
theorem Bin.up {p : Nat → Bool} {lo hi i j c : Nat} (b : Bin p lo hi i j) (hM : Mono p lo hi) (h1 : i ≤ c) (h2 : c < j) (hp : p c = true) : Bin p lo hi (c + 1) j := by
  have := b.l; have := b.m; have := b.h
  refine ⟨by omega, by omega, b.h, fun h hh hc => ?_, b.no⟩
  by_cases e : h = c
  · rw [e]; exact hp
  · exact hM h c hh (by omega) (by omega) hp
theorem Bin.down {p : Nat → Bool} {lo hi i j c : Nat} (b : Bin p lo hi i j) (hM : Mono p lo hi) (h1 : i ≤ c) (h2 : c < j) (hp : p c = false) : Bin p lo hi i c := by
  have := b.l; have := b.m; have := b.h
  refine ⟨b.l, by omega, by omega, b.yes, fun h hh hc => ?_⟩
  by_cases e : h = c
  · rw [e]; exact hp
  · cases hq : p h with
    | false => rfl
    | true => exact absurd hp (by rw [hM c h (by omega) (by omega) hc hq]; simp)

def As (L : α → α → Bool) : Prop := ∀ x y, L x y = true → L y x = false

theorem mono_one {lt L : α → α → Bool} (hT : Tr L) (hS : As L) {a b : Nat} {d : Array α} (hA : Asc L (a + 1) b d) (hC : Cross lt L a (a + 1) b d) : Mono (fun h => lt d[h]! d[a]!) (a + 1) b := by
  intro h h' h1 h2 h3 h4
  have e1 := (hC a h' (Nat.le_refl _) (by omega) (by omega) h3).1
  have e2 := (hC a h (Nat.le_refl _) (by omega) (by omega) (by omega)).1
  simp only at h4 ⊢
  rw [e2]
  rw [e1] at h4
  exact hT _ _ _ (hA h h' h1 h2 h3) h4

theorem mono_two {lt L : α → α → Bool} (hT : Tr L) (hS : As L) {a m : Nat} {d : Array α} (hA : Asc L a m d) (hC : Cross lt L a m (m + 1) d) : Mono (fun h => !lt d[m]! d[h]!) a m := by
  intro h h' h1 h2 h3 h4
  obtain ⟨e1, e3⟩ := (hC h' m (by omega) (by omega) (by omega) (by omega))
  have e2 := (hC h m (by omega) (by omega) (by omega) (by omega)).1
  simp only [Bool.not_eq_true'] at h4 ⊢
  rw [e2]
  rw [e1] at h4
  exact hS _ _ (hT _ _ _ (hA h h' h1 h2 h3) (e3 h4))

theorem mono_cut {lt L : α → α → Bool} (hT : Tr L) (hS : As L) {a m b : Nat} {d : Array α} (h1 : a < m) (h2 : m < b) (hA : Asc L a m d) (hB : Asc L m b d) (hC : Cross lt L a m b d) :
    Mono (fun c => !lt d[(a + b) / 2 + m - 1 - c]! d[c]!) (cutLo a m b) (cutHi a m b) := by
  obtain ⟨k1, k2, k3, k4, k5, k6⟩ := cut_bounds h1 h2
  intro c c' hc1 hc2 hc3 h4
  obtain ⟨e1, e3⟩ := (hC c' ((a + b) / 2 + m - 1 - c') (by omega) (by omega) (by omega) (by omega))
  have e2 := (hC c ((a + b) / 2 + m - 1 - c) (by omega) (by omega) (by omega) (by omega)).1
  simp only [Bool.not_eq_true'] at h4 ⊢
  rw [e2]
  rw [e1] at h4
  exact hS _ _ (hT _ _ _ (hT _ _ _ (hA c c' (by omega) hc2 (by omega)) (e3 h4)) (hB _ _ (by omega) (by omega) (by omega)))

/-! ### insertion -/
theorem insInner_merge_aux {lt L : α → α → Bool} (a i : Nat) (d : Array α) (hi : i < d.size) (j : Nat) (haj : a ≤ j) (hji : j ≤ i) (hr : ∀ h, j ≤ h → h < i → lt d[i]! d[h]! = true) :
    ∃ pos, a ≤ pos ∧ pos ≤ i ∧ insInner lt a j (shiftL d i (i - j)) = shiftL d i (i - pos) ∧ (∀ h, pos ≤ h → h < i → lt d[i]! d[h]! = true) ∧ (pos = a ∨ lt d[i]! d[pos - 1]! = false) := by
  induction j with
  | zero =>
    obtain rfl : a = 0 := by omega
    exact ⟨0, Nat.le_refl _, by omega, rfl, hr, .inl rfl⟩
  | succ j ih =>
    rw [insInner]
    have g1 : (shiftL d i (i - (j + 1)))[j + 1]! = d[i]! := by rw [shiftL_get _ _ _ hi (by omega), if_pos (by omega)]
    have g2 : (shiftL d i (i - (j + 1)))[j]! = d[j]! := by rw [shiftL_get _ _ _ hi (by omega), if_neg (by omega), if_neg (by omega)]
    rw [g1, g2]
    by_cases c : a < j + 1
    · cases hl : lt d[i]! d[j]! with
      | true =>
        rw [if_pos (by simp; omega)]
        have e : swp (shiftL d i (i - (j + 1))) (j + 1) j = shiftL d i (i - j) := by
          rw [show i - j = (i - (j + 1)) + 1 by omega, shiftL, show i - (i - (j + 1)) = j + 1 by omega]; rfl
        rw [e]
        refine ih (by omega) (by omega) (fun h hh hi' => ?_)
        by_cases e' : h = j
        · rw [e']; exact hl
        · exact hr h (by omega) hi'
      | false =>
        rw [if_neg (by simp)]
        exact ⟨j + 1, by omega, hji, rfl, hr, .inr hl⟩
    · rw [if_neg (by simp; omega)]
      exact ⟨j + 1, by omega, hji, rfl, hr, .inl (by omega)⟩

theorem insInner_merge {lt L : α → α → Bool} (hT : Tr L) (hS : As L) {a i : Nat} {d : Array α} (hai : a ≤ i) (hi : i < d.size) (hA : Asc L a i d) (hC : Cross lt L a i (i + 1) d) : Merged L a (i + 1) d (insInner lt a i d) := by
  obtain ⟨pos, h1, h2, h3, h4, h5⟩ := insInner_merge_aux (lt := lt) (L := L) a i d hi i hai (Nat.le_refl _) (fun h _ _ => by omega)
  rw [Nat.sub_self] at h3
  change insInner lt a i d = _ at h3
  rw [h3]
  refine merge_one_right hi hA hC h1 h2 (fun h hh hp => ?_) h4
  rcases h5 with h5 | h5
  · omega
  · by_cases e : h = pos - 1
    · rw [e]; exact h5
    · have := mono_two hT hS hA hC h (pos - 1) hh (by omega) (by omega) (by simpa using h5)
      simpa using this

/-- The test is the order's own between a later one and an earlier one. -/
def Agree (lt L : α → α → Bool) (x y : α) : Prop := lt x y = L x y ∧ (L x y = false → L y x = true)

theorem insOuter_merge {lt L : α → α → Bool} (hT : Tr L) (hS : As L) {a b : Nat} {d0 : Array α} (hb : b ≤ d0.size) (hG : ∀ p q, a ≤ p → p < q → q < b → Agree lt L d0[q]! d0[p]!) (k : Nat) :
    ∀ i d, b - i = k → a ≤ i → i ≤ b → Merged L a i d0 d → Merged L a b d0 (insOuter lt a b i d) := by
  induction k with
  | zero =>
    intro i d hk hai hib hm
    obtain rfl : i = b := by omega
    rw [insOuter, if_neg (by omega)]
    exact hm
  | succ k ih =>
    intro i d hk hai hib hm
    rw [insOuter, if_pos (by omega)]
    have hsz : d.size = d0.size := hm.perm.1
    have hC : Cross lt L a i (i + 1) d := by
      intro p q hp hpi hq hqi
      obtain rfl : q = i := by omega
      rw [PermIn.out hm.perm q (.inr (Nat.le_refl _))]
      exact PermIn.all hm.perm (by omega) (fun x => lt d0[q]! x = L d0[q]! x ∧ (L d0[q]! x = false → L x d0[q]! = true)) (fun r hr hri => hG r q hr hri (by omega)) p hp hpi
    have := insInner_merge hT hS hai (by omega) hm.asc hC
    refine ih (i + 1) _ (by omega) (by omega) (by omega) ⟨permIn_trans _ _ _ _ _ (permIn_mono _ _ a i a (i + 1) (Nat.le_refl _) (by omega) (by omega) hm.perm) this.perm, this.asc⟩

theorem insertion_merged {lt L : α → α → Bool} (hT : Tr L) (hS : As L) {a b : Nat} {d0 : Array α} (hab : a ≤ b) (hb : b ≤ d0.size) (hG : ∀ p q, a ≤ p → p < q → q < b → Agree lt L d0[q]! d0[p]!) : Merged L a b d0 (insertionSort lt d0 a b) := by
  unfold insertionSort
  by_cases c : a < b
  · exact insOuter_merge hT hS hb hG _ (a + 1) d0 rfl (by omega) (by omega) ⟨permIn_refl _ _ _, fun i j hi hij hj => by omega⟩
  · rw [insOuter, if_neg (by omega)]
    exact ⟨permIn_refl _ _ _, fun i j hi hij hj => by omega⟩

/-! ### blocks -/
/-- Here it is in order, and what it was. -/
structure Loc (L : α → α → Bool) (d0 : Array α) (a b : Nat) (d : Array α) : Prop where
  perm : (d.extract a b).toList.Perm (d0.extract a b).toList
  asc : Asc L a b d

theorem extract_congr {a b : Nat} {d d' : Array α} (hz : d'.size = d.size) (hb : b ≤ d.size) (h : ∀ k, a ≤ k → k < b → d'[k]! = d[k]!) : (d'.extract a b).toList = (d.extract a b).toList := by
  rw [extract_toList d' a b (by omega), extract_toList d a b hb]
  exact List.map_congr_left fun k hk => h k (List.mem_range'_1.1 hk).1 (by have := (List.mem_range'_1.1 hk); omega)

theorem Loc.same {L : α → α → Bool} {d0 d d' : Array α} {a b : Nat} (h : Loc L d0 a b d) (hz : d'.size = d.size) (hb : b ≤ d.size) (he : ∀ k, a ≤ k → k < b → d'[k]! = d[k]!) : Loc L d0 a b d' :=
  ⟨by rw [extract_congr hz hb he]; exact h.perm, fun i j hi hij hj => by rw [he i hi (by omega), he j (by omega) hj]; exact h.asc i j hi hij hj⟩

theorem Loc.merged {L : α → α → Bool} {d0 d d' : Array α} {a b : Nat} (hp : (d.extract a b).toList.Perm (d0.extract a b).toList) (h : Merged L a b d d') : Loc L d0 a b d' := ⟨h.perm.2.2.trans hp, h.asc⟩

theorem Loc.join {L : α → α → Bool} {d0 d : Array α} {a m b : Nat} (hz : d.size = d0.size) (h1 : a ≤ m) (h2 : m ≤ b) (hb : b ≤ d0.size) (h : Loc L d0 a m d) (h' : Loc L d0 m b d) : (d.extract a b).toList.Perm (d0.extract a b).toList := by
  have e : ∀ x : Array α, x.size = d0.size → (x.extract a b).toList = (x.extract a m).toList ++ (x.extract m b).toList := by
    intro x hx
    rw [extract_toList x a b (by omega), extract_toList x a m (by omega), extract_toList x m b (by omega), ← List.map_append]
    congr 1
    have := List.range'_append_1 (s := a) (m := m - a) (n := b - m)
    rw [show a + (m - a) = m by omega, show m - a + (b - m) = b - a by omega] at this
    exact this.symm
  rw [e d hz, e d0 rfl]
  exact h.perm.append h'.perm

theorem Loc.all {L : α → α → Bool} {d0 d : Array α} {a b : Nat} (hz : d.size = d0.size) (hb : b ≤ d0.size) (h : Loc L d0 a b d) (p : α → Prop) (hp : ∀ i, a ≤ i → i < b → p d0[i]!) (i : Nat) (hi : a ≤ i) (hib : i < b) : p d[i]! := by
  have hm : d[i]! ∈ (d.extract a b).toList := by
    rw [extract_toList d a b (by omega)]
    exact List.mem_map.2 ⟨i, List.mem_range'_1.2 ⟨hi, by omega⟩, rfl⟩
  have hm2 := h.perm.mem_iff.1 hm
  rw [extract_toList d0 a b hb] at hm2
  obtain ⟨k, hk, e⟩ := List.mem_map.1 hm2
  rw [← e]
  have := List.mem_range'_1.1 hk
  exact hp k this.1 (by omega)

theorem Loc.cross {lt L : α → α → Bool} {d0 d : Array α} {a m b : Nat} (hz : d.size = d0.size) (h1 : a ≤ m) (h2 : m ≤ b) (hb : b ≤ d0.size) (h : Loc L d0 a m d) (h' : Loc L d0 m b d)
    (hG : ∀ p q, p < q → q < d0.size → Agree lt L d0[q]! d0[p]!) : Cross lt L a m b d := by
  intro i j hi him hj hjb
  refine Loc.all hz hb h' (fun x => lt x d[i]! = L x d[i]! ∧ (L x d[i]! = false → L d[i]! x = true)) (fun q hq hqb => ?_) j hj hjb
  exact Loc.all hz (by omega) h (fun y => lt d0[q]! y = L d0[q]! y ∧ (L d0[q]! y = false → L y d0[q]! = true)) (fun p hp hpm => hG p q (by omega) (by omega)) i hi him

/-- All blocks of s from a on are in order. -/
def BlocksFrom (L : α → α → Bool) (d0 : Array α) (s a : Nat) (d : Array α) : Prop := ∀ k, a ≤ k * s → k * s < d0.size → Loc L d0 (k * s) (min (k * s + s) d0.size) d
/-- All whole blocks of s below a are in order. -/
def BlocksTo (L : α → α → Bool) (d0 : Array α) (s a : Nat) (d : Array α) : Prop := ∀ k, k * s + s ≤ a → Loc L d0 (k * s) (k * s + s) d

theorem BlocksTo.same {L : α → α → Bool} {d0 d d' : Array α} {s a b : Nat} (h : BlocksTo L d0 s a d) (hz : d.size = d0.size) (ha : a ≤ d0.size) (hp : PermIn a b d d') : BlocksTo L d0 s a d' :=
  fun k hk => (h k hk).same hp.1 (by omega) (fun i hi hi2 => hp.2.1 i (.inl (by omega)))

theorem BlocksFrom.same {L : α → α → Bool} {d0 d d' : Array α} {s a b : Nat} (h : BlocksFrom L d0 s a d) (hz : d.size = d0.size) (hab : a ≤ b) (hp : PermIn a b d d') : BlocksFrom L d0 s b d' :=
  fun k hk hk2 => (h k (by omega) hk2).same hp.1 (by omega) (fun i hi hi2 => hp.2.1 i (.inr (by omega)))

theorem BlocksTo.next {L : α → α → Bool} {d0 d : Array α} {s t : Nat} (h : BlocksTo L d0 s (t * s) d) (hl : Loc L d0 (t * s) (t * s + s) d) (hs : 0 < s) : BlocksTo L d0 s (t * s + s) d := by
  intro k hk
  by_cases e : k = t
  · rw [e]; exact hl
  · refine h k ?_
    have : k + 1 ≤ t := by
      rcases Nat.lt_trichotomy k t with c | c | c
      · omega
      · omega
      · have : (t + 1) * s ≤ k * s := Nat.mul_le_mul_right s c
        rw [Nat.add_mul, Nat.one_mul] at this
        omega
    have := Nat.mul_le_mul_right s this
    rw [Nat.add_mul, Nat.one_mul] at this
    omega

/-- Whole blocks below t * s, and the rest. -/
theorem BlocksTo.all {L : α → α → Bool} {d0 d : Array α} {s t : Nat} (h : BlocksTo L d0 s (t * s) d) (hs : 0 < s) (h1 : t * s ≤ d0.size) (h2 : d0.size < t * s + s) (hl : Loc L d0 (t * s) d0.size d) : BlocksFrom L d0 s 0 d := by
  intro k _ hk
  by_cases e : k < t
  · have := Nat.mul_le_mul_right s e
    rw [Nat.succ_mul] at this
    rw [Nat.min_eq_left (by omega)]
    exact h k this
  · have : k = t := by
      rcases Nat.lt_trichotomy k t with c | c | c
      · omega
      · omega
      · have : (t + 1) * s ≤ k * s := Nat.mul_le_mul_right s c
        rw [Nat.add_mul, Nat.one_mul] at this
        omega
    subst this
    rw [Nat.min_eq_right (by omega)]
    exact hl

/-- One block is all. -/
theorem BlocksFrom.whole {L : α → α → Bool} {d0 d : Array α} {s : Nat} (h : BlocksFrom L d0 s 0 d) (hz : d.size = d0.size) (hs : d0.size ≤ s) : Loc L d0 0 d0.size d := by
  by_cases c : d0.size = 0
  · refine ⟨?_, fun i j _ _ _ => by omega⟩
    rw [extract_toList d _ _ (by omega), extract_toList d0 _ _ (by omega)]
    rw [c]; simp
  · have := h 0 (by omega) (by omega)
    rw [Nat.zero_mul, Nat.zero_add, Nat.min_eq_right hs] at this
    exact this

theorem Loc.perm_whole {L : α → α → Bool} {d0 d : Array α} (h : Loc L d0 0 d0.size d) (hz : d.size = d0.size) : d.toList.Perm d0.toList := by
  have := h.perm
  rw [show d.extract 0 d0.size = d by rw [← hz]; simp, show d0.extract 0 d0.size = d0 by simp] at this
  exact this
end Go.Proofs.Ytlbijkafcododaa.Sta
