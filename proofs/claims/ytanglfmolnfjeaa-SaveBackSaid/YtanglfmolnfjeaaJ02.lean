/-
  Numbers read off bytes (layer 6), in numbers, second part: what the program and the document come to.
  Conditions: none.
-/
import Derived.Test.YtanglfmolnfjeaaJ01
namespace Go.Proofs.Ytanglfmolnfjeaa
set_option linter.unusedVariables false
set_option linter.unusedSimpArgs false
set_option maxRecDepth 100000

theorem lebEnd_of (l : List Int) (k : Nat) (h1 : k < l.length) (h2 : l.getD k 0 < 128) (h3 : ∀ j, j < k → 128 ≤ l.getD j 0) : ∀ f i, i ≤ k → k < i + f → lebEnd l f i = some k := by
  intro f
  induction f with
  | zero => intro i a b; omega
  | succ f ih =>
    intro i a b
    unfold lebEnd
    rw [List.getElem?_eq_getElem (by omega)]
    have e : l[i]'(by omega) = l.getD i 0 := by rw [List.getD_eq_getElem?_getD, List.getElem?_eq_getElem (by omega)]; rfl
    simp only [e]
    by_cases q : i = k
    · subst q; rw [if_pos h2]
    · rw [if_neg (by have := h3 i (by omega); omega)]
      exact ih (i + 1) (by omega) (by omega)
theorem lebEnd_none_of (l : List Int) : ∀ f i, (∀ j, i ≤ j → j < i + f → j < l.length → 128 ≤ l.getD j 0) → lebEnd l f i = none := by
  intro f
  induction f with
  | zero => intro i _; rfl
  | succ f ih =>
    intro i h
    unfold lebEnd
    by_cases q : i < l.length
    · rw [List.getElem?_eq_getElem q]
      have e : l[i] = l.getD i 0 := by rw [List.getD_eq_getElem?_getD, List.getElem?_eq_getElem q]; rfl
      simp only [e]
      rw [if_neg (by have := h i (Nat.le_refl _) (by omega) q; omega)]
      exact ih (i + 1) fun j a b c => h j (by omega) (by omega) c
    · rw [List.getElem?_eq_none (by omega)]
/-- The number that is read: the errors' numbers are 20 (short) and 21 (form). -/
def lebGetV (l : List Int) : Nat × Nat × Int := lebGet 20 21 l
theorem lebGetV_form {l : List Int} (h : (∀ j, j < 10 → 128 ≤ l.getD j 0) ∧ 10 ≤ l.length) : lebGetV l = (0, 0, 21) := by
  unfold lebGetV lebGet
  rw [lebEnd_none_of l 10 0 (fun j _ a _ => h.1 j (by omega))]
  simp [h.2]
theorem lebGetV_short {l : List Int} (h1 : l.length < 10) (h : ∀ j, j < l.length → 128 ≤ l.getD j 0) : lebGetV l = (0, 0, 20) := by
  unfold lebGetV lebGet
  rw [lebEnd_none_of l 10 0 (fun j _ _ a => h j a)]
  simp [show ¬ 10 ≤ l.length by omega]
theorem lebGetV_at {l : List Int} {k : Nat} (hk : k ≤ 9) (h1 : k < l.length) (h2 : l.getD k 0 < 128) (h3 : ∀ j, j < k → 128 ≤ l.getD j 0) :
    lebGetV l = if (k = 9 ∧ 1 < l.getD 9 0) ∨ (0 < k ∧ l.getD k 0 = 0) then (0, 0, 21) else (lebSum l (k + 1), k + 1, 0) := by
  unfold lebGetV lebGet
  rw [lebEnd_of l k h1 h2 h3 10 0 (by omega) (by omega)]
/-- The tenth byte, greater than one. -/
theorem lebGetV_nine {l : List Int} (h1 : 9 < l.length) (h2 : 1 < l.getD 9 0) (h3 : ∀ j, j < 9 → 128 ≤ l.getD j 0) : lebGetV l = (0, 0, 21) := by
  by_cases q : l.getD 9 0 < 128
  · rw [lebGetV_at (Nat.le_refl _) h1 q h3, if_pos (.inl ⟨rfl, h2⟩)]
  · exact lebGetV_form ⟨fun j hj => by
      by_cases e : j = 9
      · subst e; omega
      · exact h3 j (by omega), by omega⟩
theorem lebSum_top (l : List Int) (k : Nat) (hk : k ≤ 9) (h : k = 9 → 0 ≤ l.getD 9 0 ∧ l.getD 9 0 ≤ 1) : lebSum l (k + 1) < 18446744073709551616 := by
  by_cases e : k = 9
  · subst e
    have := lebSum_lt l 9
    rw [lebSum]
    obtain ⟨a, b⟩ := h rfl
    have hd : ((l.getD 9 0) % 128).toNat ≤ 1 := by omega
    have hm : ((l.getD 9 0) % 128).toNat * 128 ^ 9 ≤ 1 * 128 ^ 9 := Nat.mul_le_mul_right _ hd
    have e1 : (128 : Nat) ^ 9 = 9223372036854775808 := by decide
    omega
  · have := lebSum_lt l (k + 1)
    have h2 : (128 : Nat) ^ (k + 1) ≤ 128 ^ 9 := Nat.pow_le_pow_right (by decide) (by omega)
    have e1 : (128 : Nat) ^ 9 = 9223372036854775808 := by decide
    omega
theorem or_u64 (a b : Nat) (ha : a < 18446744073709551616) (hb : b < 18446744073709551616) : bits .or .u64 (a : Int) (b : Int) = ((a ||| b : Nat) : Int) := by
  show IntKind.u64.wrap ((((BitVec.ofInt 64 (a : Int)) ||| (BitVec.ofInt 64 (b : Int))).toNat : Nat) : Int) = _
  have e : ∀ x : Nat, x < 18446744073709551616 → (BitVec.ofInt 64 (x : Int)).toNat = x := fun x hx => by
    rw [BitVec.toNat_ofInt]; omega
  rw [BitVec.toNat_or, e a ha, e b hb]
  have : a ||| b < 18446744073709551616 := Nat.or_lt_two_pow (n := 64) ha hb
  simp only [IntKind.wrap, IntKind.signed, IntKind.bits]
  simp
  omega
theorem lebGetV_bd (l : List Int) (hl : ∀ i, 0 ≤ l.getD i 0) : (lebGetV l).1 < 18446744073709551616 ∧ (lebGetV l).2.1 ≤ 10 ∧ (lebGetV l).2.1 ≤ l.length ∧ ((lebGetV l).2.2 = 0 ∨ (lebGetV l).2.2 = 20 ∨ (lebGetV l).2.2 = 21) := by
  unfold lebGetV lebGet
  cases he : lebEnd l 10 0 with
  | none =>
    simp only
    split
    · simp
    · simp
  | some j =>
    obtain ⟨a, b, c, d, e⟩ := lebEnd_some 10 he
    simp only
    split
    · simp
    · rename_i hn
      refine ⟨lebSum_top l j (by omega) (fun e => ⟨hl 9, ?_⟩), by show j + 1 ≤ 10; omega, by show j + 1 ≤ l.length; omega, .inl rfl⟩
      have := fun h => hn (.inl ⟨e, h⟩)
      omega
theorem lebSum_step (l : List Int) (i : Nat) (n : Nat) (t : Nat) (h : lebSum l (i + 1) + n * 128 ^ (i + 1) = t) : lebSum l i + (n * 128 + ((l.getD i 0) % 128).toNat) * 128 ^ i = t := by
  rw [← h, lebSum, Nat.add_mul, Nat.pow_succ, Nat.mul_assoc, Nat.mul_comm 128 (128 ^ i)]
  omega
end Go.Proofs.Ytanglfmolnfjeaa
