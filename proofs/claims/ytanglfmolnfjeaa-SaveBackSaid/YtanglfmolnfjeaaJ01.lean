/-
  Numbers of any length as bytes (layer 6), in numbers: seven binary digits a byte.
  Conditions: numbers below 2^64.
  Numbers read off bytes (layer 6), in numbers: the program's way, byte by byte.
  Conditions: none.
-/
import Derived.Test.YtanglfmolnfjeaaJ00
namespace Go.Proofs.Ytanglfmolnfjeaa
set_option linter.unusedVariables false
set_option linter.unusedSimpArgs false
set_option maxRecDepth 100000

/-- A byte with its highest digit set. -/
theorem or_128 (b : Int) (h1 : 0 ≤ b) (h2 : b ≤ 255) : bits .or .u8 b 128 = b % 128 + 128 := by
  have key : (List.range 256).all (fun i => decide (bits .or .u8 (i : Int) 128 = (i : Int) % 128 + 128)) = true := by kernel_rfl
  have := List.all_eq_true.1 key b.toNat (List.mem_range.2 (by omega))
  rw [decide_eq_true_eq, Int.toNat_of_nonneg h1] at this
  exact this
theorem and_127 (b : Int) (h1 : 0 ≤ b) (h2 : b ≤ 255) : bits .and .u8 b 127 = b % 128 := by
  have key : (List.range 256).all (fun i => decide (bits .and .u8 (i : Int) 127 = (i : Int) % 128)) = true := by kernel_rfl
  have := List.all_eq_true.1 key b.toNat (List.mem_range.2 (by omega))
  rw [decide_eq_true_eq, Int.toNat_of_nonneg h1] at this
  exact this

/-- What is left of a number behind k bytes. -/
def lebRest (n : Nat) (k : Nat) : Nat := n / 128 ^ k
theorem lebRest_next (n k : Nat) : lebRest n (k + 1) = lebRest n k / 128 := by
  unfold lebRest
  rw [Nat.pow_succ, Nat.div_div_eq_div_mul]
/-- The first k bytes of a number that is longer. -/
def lebTo (n : Nat) : Nat → List Int
  | 0 => []
  | k + 1 => lebTo n k ++ [((lebRest n k % 128 + 128 : Nat) : Int)]
theorem lebTo_length (n k : Nat) : (lebTo n k).length = k := by
  induction k with
  | zero => rfl
  | succ k ih => rw [lebTo, List.length_append, ih]; rfl
/-- How many bytes stand ahead of the last one. -/
def lebLen : Nat → Nat → Nat
  | _, 0 => 0
  | n, f + 1 => if n < 128 then 0 else lebLen (n / 128) f + 1
theorem lebLen_le (f : Nat) : ∀ n, lebLen n f ≤ f := by
  induction f with
  | zero => intro n; exact Nat.le_refl _
  | succ f ih =>
    intro n
    unfold lebLen
    split
    · omega
    · have := ih (n / 128); omega
/-- Till then each rest is long; then one is short. -/
theorem lebLen_spec (f : Nat) : ∀ n, n < 128 ^ (f + 1) → (∀ k, k < lebLen n f → 128 ≤ lebRest n k) ∧ lebRest n (lebLen n f) < 128 := by
  induction f with
  | zero => intro n h; exact ⟨fun k hk => absurd hk (Nat.not_lt_zero _), by simpa [lebLen, lebRest] using h⟩
  | succ f ih =>
    intro n h
    have hd : n / 128 < 128 ^ (f + 1) := by
      rw [Nat.div_lt_iff_lt_mul (by omega), ← Nat.pow_succ]; exact h
    obtain ⟨h1, h2⟩ := ih (n / 128) hd
    have hr : ∀ k, lebRest (n / 128) k = lebRest n (k + 1) := fun k => by
      unfold lebRest
      rw [Nat.div_div_eq_div_mul, Nat.pow_succ, Nat.mul_comm]
    unfold lebLen
    split
    · rename_i c
      exact ⟨fun k hk => absurd hk (Nat.not_lt_zero _), by simpa [lebRest] using c⟩
    · rename_i c
      refine ⟨fun k hk => ?_, by rw [← hr]; exact h2⟩
      cases k with
      | zero => simpa [lebRest] using c
      | succ k => rw [← hr]; exact h1 k (by omega)
/-- A number's bytes. -/
def lebV (n : Nat) : List Int := lebTo n (lebLen n 9) ++ [((lebRest n (lebLen n 9) : Nat) : Int)]
theorem lebV_length (n : Nat) : (lebV n).length = lebLen n 9 + 1 := by simp [lebV, lebTo_length]
theorem lebRest_le (n k : Nat) : lebRest n k ≤ n := Nat.div_le_self _ _
end Go.Proofs.Ytanglfmolnfjeaa
namespace Go.Proofs.Ytanglfmolnfjeaa
set_option linter.unusedVariables false
set_option linter.unusedSimpArgs false

/-- The first byte below 128, from place i on, of f more. -/
def lebEnd (l : List Int) : Nat → Nat → Option Nat
  | 0, _ => none
  | f + 1, i => match l[i]? with
    | none => none
    | some c => if c < 128 then some i else lebEnd l f (i + 1)
theorem lebEnd_some {l : List Int} (f : Nat) : ∀ {i j : Nat}, lebEnd l f i = some j → i ≤ j ∧ j < i + f ∧ j < l.length ∧ l.getD j 0 < 128 ∧ ∀ k, i ≤ k → k < j → 128 ≤ l.getD k 0 := by
  induction f with
  | zero => intro i j h; cases h
  | succ f ih =>
    intro i j h
    unfold lebEnd at h
    cases hi : l[i]? with
    | none => rw [hi] at h; cases h
    | some c =>
      rw [hi] at h
      simp only at h
      have hl := (List.getElem?_eq_some_iff.1 hi).1
      have hc : l.getD i 0 = c := by rw [List.getD_eq_getElem?_getD, hi]; rfl
      by_cases q : c < 128
      · rw [if_pos q] at h
        cases h
        exact ⟨Nat.le_refl _, by omega, hl, by rw [hc]; exact q, fun k h1 h2 => by omega⟩
      · rw [if_neg q] at h
        obtain ⟨h1, h2, h3, h4, h5⟩ := ih h
        refine ⟨by omega, by omega, h3, h4, fun k k1 k2 => ?_⟩
        by_cases e : k = i
        · rw [e, hc]; omega
        · exact h5 k (by omega) k2
theorem lebEnd_none {l : List Int} (f : Nat) : ∀ {i : Nat}, lebEnd l f i = none → ∀ k, i ≤ k → k < i + f → k < l.length → 128 ≤ l.getD k 0 := by
  induction f with
  | zero => intro i h k h1 h2; omega
  | succ f ih =>
    intro i h k h1 h2 h3
    unfold lebEnd at h
    cases hi : l[i]? with
    | none =>
      have := List.getElem?_eq_none_iff.1 hi
      omega
    | some c =>
      rw [hi] at h
      simp only at h
      have hc : l.getD i 0 = c := by rw [List.getD_eq_getElem?_getD, hi]; rfl
      by_cases q : c < 128
      · rw [if_pos q] at h; cases h
      · rw [if_neg q] at h
        by_cases e : k = i
        · rw [e, hc]; omega
        · exact ih h k (by omega) (by omega) h3
/-- What the first k bytes stand for. -/
def lebSum (l : List Int) : Nat → Nat
  | 0 => 0
  | k + 1 => lebSum l k + ((l.getD k 0) % 128).toNat * 128 ^ k
theorem lebSum_lt (l : List Int) (k : Nat) : lebSum l k < 128 ^ k := by
  induction k with
  | zero => simp [lebSum]
  | succ k ih =>
    rw [lebSum, Nat.pow_succ]
    have h1 : ((l.getD k 0) % 128).toNat ≤ 127 := by omega
    have h2 : ((l.getD k 0) % 128).toNat * 128 ^ k ≤ 127 * 128 ^ k := Nat.mul_le_mul_right _ h1
    omega
/-- The number, its length, or why there is none: 9: short, 11: form (the errors' numbers are given). -/
def lebGet (short form : Int) (l : List Int) : Nat × Nat × Int :=
  match lebEnd l 10 0 with
  | some j => if (j = 9 ∧ 1 < l.getD 9 0) ∨ (0 < j ∧ l.getD j 0 = 0) then (0, 0, form) else (lebSum l (j + 1), j + 1, 0)
  | none => if 10 ≤ l.length then (0, 0, form) else (0, 0, short)
/-- 'n |= (c & 127) << (7 * i)' adds. -/
theorem or_add (a x k : Nat) (h : a < 128 ^ k) : a ||| x * 128 ^ k = a + x * 128 ^ k := by
  have e : 128 ^ k = 2 ^ (7 * k) := by rw [Nat.pow_mul]
  have h' : a < 2 ^ (7 * k) := by rw [← e]; exact h
  have := Nat.two_pow_add_eq_or_of_lt h' x
  rw [e, Nat.mul_comm x, Nat.or_comm, ← this, Nat.add_comm]
end Go.Proofs.Ytanglfmolnfjeaa
