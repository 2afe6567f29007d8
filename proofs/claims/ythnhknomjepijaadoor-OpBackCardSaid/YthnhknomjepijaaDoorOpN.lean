/-
  Numbers in writing (layer 44): the document's Number reads what Itoa writes, and nothing else.
  Conditions: none (plain lemmas).
-/
import Derived.Lib.ItoaNum
import Derived.Lib.AtoiAll
import Derived.Lib.AtoiTie
import Derived.Lib.AtoiAllCases
import Derived.Lib.ItoaMem
namespace Go.Proofs.YthnhknomjepijaaDoor
set_option linter.unusedVariables false
set_option linter.unusedSimpArgs false
open Go

/-- The digits' value, from the left, as the document reads it; none: no number, or too great. -/
def decF (acc : Nat) : List UInt8 → Option Nat
  | [] => some acc
  | c :: r => if c.toNat < 48 ∨ 57 < c.toNat ∨ 922337203685477580 < acc then none else decF (10 * acc + (c.toNat - 48)) r
theorem decF_append (l r : List UInt8) : ∀ acc, decF acc (l ++ r) = (decF acc l).bind fun v => decF v r := by
  induction l with
  | nil => intro acc; rfl
  | cons c l ih =>
    intro acc
    show (if _ then none else decF _ (l ++ r)) = (if _ then none else decF _ l).bind _
    split
    · rfl
    · exact ih _
theorem digit_nat (d : Nat) (h : d < 10) : (UInt8.ofNat (48 + d)).toNat = 48 + d := by
  rw [UInt8.toNat_ofNat']; exact Nat.mod_eq_of_lt (by omega)
theorem digit_back (c : UInt8) (h : 48 ≤ c.toNat ∧ c.toNat ≤ 57) : UInt8.ofNat (48 + (c.toNat - 48)) = c := by
  apply UInt8.toNat_inj.1
  rw [digit_nat _ (by omega)]; omega
theorem decF_digits (u : Nat) (h : u ≤ 9223372036854775808) : decF 0 (Lib.decDigits u) = some u := by
  rw [Lib.decDigits]
  split
  · rename_i hu
    show (if _ then none else decF _ []) = _
    rw [digit_nat u hu, if_neg (by omega)]
    show some _ = _
    congr 1; omega
  · rename_i hu
    rw [decF_append, decF_digits (u / 10) (by omega)]
    show (if _ then none else decF _ []) = _
    rw [digit_nat _ (Nat.mod_lt _ (by decide)), if_neg (by omega)]
    show some _ = _
    congr 1; omega
termination_by u
decreasing_by omega
theorem decDigits_ne (u : Nat) : Lib.decDigits u ≠ [] := by
  rw [Lib.decDigits]; split <;> simp
theorem head_app {l r : List UInt8} (h : l ≠ []) : (l ++ r).head? = l.head? := by cases l with | nil => exact absurd rfl h | cons c l => rfl
theorem decDigits_head : ∀ u : Nat, (Lib.decDigits u).head? = some 48 → u = 0 := by
  intro u h
  rw [Lib.decDigits] at h
  split at h
  · rename_i hu
    simp only [List.head?_cons, Option.some.injEq] at h
    have := congrArg UInt8.toNat h
    rw [digit_nat u hu] at this
    have e : (48 : UInt8).toNat = 48 := rfl
    omega
  · rename_i hu
    exfalso
    rw [head_app (decDigits_ne _)] at h
    have := decDigits_head (u / 10) h
    omega
termination_by u => u
decreasing_by omega
theorem decF_back : ∀ (m : Nat) (l : List UInt8) (u : Nat), l.length = m + 1 → decF 0 l = some u → (l.head? ≠ some 48 ∨ m = 0) → l = Lib.decDigits u
  | 0, l, u, hl, h, _ => by
    match l, hl with
    | [c], _ =>
      have h : (if c.toNat < 48 ∨ 57 < c.toNat ∨ 922337203685477580 < 0 then none else some (10 * 0 + (c.toNat - 48))) = some u := h
      split at h
      · cases h
      · rename_i q
        obtain rfl := Option.some.inj h
        rw [Lib.decDigits, dif_pos (by omega), Nat.mul_zero, Nat.zero_add, digit_back c (by omega)]
  | m + 1, l, u, hl, h, hh => by
    have hne : l ≠ [] := by intro e; rw [e] at hl; cases hl
    have hs := List.dropLast_concat_getLast hne
    obtain ⟨r, hr⟩ : ∃ r, l.dropLast = r := ⟨_, rfl⟩
    obtain ⟨c, hc⟩ : ∃ c, l.getLast hne = c := ⟨_, rfl⟩
    rw [hr, hc] at hs
    have hrl : r.length = m + 1 := by rw [← hr, List.length_dropLast]; omega
    have hrn : r ≠ [] := by intro e; rw [e] at hrl; cases hrl
    subst hs
    rw [decF_append] at h
    cases hv : decF 0 r with
    | none => rw [hv] at h; cases h
    | some v =>
      rw [hv] at h
      have h : (if c.toNat < 48 ∨ 57 < c.toNat ∨ 922337203685477580 < v then none else some (10 * v + (c.toNat - 48))) = some u := h
      split at h
      · cases h
      · rename_i q
        obtain rfl := Option.some.inj h
        rw [head_app hrn] at hh
        have hh' : r.head? ≠ some 48 := hh.resolve_right (by omega)
        have e := decF_back m r v hrl hv (.inl hh')
        have hv0 : v ≠ 0 := by
          intro e0; subst e0
          rw [e] at hh'
          exact hh' (by rw [Lib.decDigits, dif_pos (by decide)]; rfl)
        rw [Lib.decDigits, dif_neg (by omega), show (10 * v + (c.toNat - 48)) / 10 = v by omega, show (10 * v + (c.toNat - 48)) % 10 = c.toNat - 48 by omega, digit_back c (by omega), ← e]
theorem decDigits_len (u : Nat) (h : u ≤ 9223372036854775808) : (Lib.decDigits u).length ≤ 19 := by
  have key : ∀ (k u : Nat), u < 10 ^ (k + 1) → (Lib.decDigits u).length ≤ k + 1 := by
    intro k
    induction k with
    | zero => intro u hu; rw [Lib.decDigits, dif_pos (by omega)]; simp
    | succ k ih =>
      intro u hu
      rw [Lib.decDigits]
      split
      · simp
      · have := ih (u / 10) (by rw [Nat.div_lt_iff_lt_mul (by decide), ← Nat.pow_succ]; exact hu)
        simp; omega
  exact key 18 u (by omega)

/-- The document's Number. -/
def numD (l : List UInt8) : Option Int :=
  if l.head? = some 45 then
    (if l.length = 1 ∨ 20 < l.length ∨ l.tail.head? = some 48 then none else (decF 0 l.tail).bind fun n => if n ≤ 9223372036854775808 then some (-(n : Int)) else none)
  else if l.length = 0 ∨ 20 < l.length ∨ (l.head? = some 48 ∧ 1 < l.length) then none else (decF 0 l).bind fun n => if 9223372036854775807 < n then none else some (n : Int)
/-- The program's Number. -/
def numV (l : List UInt8) : Option Int := match Lib.atoiAll l with
  | .ok v => if Lib.itoa v = l then some v else none
  | _ => none

theorem numD_itoa {n : Int} (h0 : -9223372036854775808 ≤ n) (h1 : n ≤ 9223372036854775807) : numD (Lib.itoa n) = some n := by
  unfold numD Lib.itoa
  have hl := decDigits_len n.natAbs (by omega)
  by_cases hn : n < 0
  · rw [if_pos hn, if_pos (show (45 :: Lib.decDigits n.natAbs).head? = some 45 from rfl), if_neg]
    · show (decF 0 (Lib.decDigits n.natAbs)).bind _ = _
      rw [decF_digits _ (by omega)]
      show (if _ then some _ else none) = _
      rw [if_pos (by omega)]; congr 1; omega
    · have hd := decDigits_ne n.natAbs
      have hp := List.length_pos_iff.2 hd
      rintro (h | h | h)
      · rw [List.length_cons] at h; omega
      · rw [List.length_cons] at h; omega
      · have := decDigits_head _ h; omega
  · rw [if_neg hn]
    have e : n.toNat = n.natAbs := by omega
    rw [e]
    have hd := decDigits_ne n.natAbs
    have hp := List.length_pos_iff.2 hd
    have h45 : ¬ (Lib.decDigits n.natAbs).head? = some 45 := by
      intro h
      have := decF_digits n.natAbs (by omega)
      cases q : Lib.decDigits n.natAbs with
      | nil => exact hd q
      | cons c r =>
        rw [q] at h this
        simp only [List.head?_cons, Option.some.injEq] at h
        subst h
        have : (none : Option Nat) = some _ := this
        cases this
    rw [if_neg h45, if_neg]
    · rw [decF_digits _ (by omega)]
      show (if _ then none else some _) = _
      rw [if_neg (by omega)]; congr 1; omega
    · rintro (h | h | ⟨h, h2⟩)
      · omega
      · omega
      · have h0 := decDigits_head _ h
        rw [h0, Lib.decDigits, dif_pos (by decide)] at h2
        simp at h2
theorem numD_back {l : List UInt8} {n : Int} (h : numD l = some n) : l = Lib.itoa n ∧ -9223372036854775808 ≤ n ∧ n ≤ 9223372036854775807 := by
  unfold numD at h
  split at h
  · rename_i h45
    split at h
    · cases h
    · rename_i q
      match l, h45 with
      | c :: r, h45 =>
        obtain rfl : c = 45 := by simpa using h45
        simp only [List.tail_cons] at h q
        simp only [List.length_cons] at q
        cases hd : decF 0 r with
        | none => rw [hd] at h; cases h
        | some u =>
          rw [hd] at h
          have h : (if u ≤ 9223372036854775808 then some (-(u : Int)) else none) = some n := h
          split at h
          · obtain rfl := Option.some.inj h
            have hr := decF_back (r.length - 1) r u (by omega) hd (.inl fun e => q (.inr (.inr e)))
            have hu : u ≠ 0 := by
              intro e; subst e
              rw [Lib.decDigits, dif_pos (by decide)] at hr
              exact q (.inr (.inr (by rw [hr]; rfl)))
            refine ⟨?_, by omega, by omega⟩
            unfold Lib.itoa
            rw [if_pos (by omega), show (-(u : Int)).natAbs = u by omega, ← hr]
          · cases h
  · split at h
    · cases h
    · rename_i q
      cases hd : decF 0 l with
      | none => rw [hd] at h; cases h
      | some u =>
        rw [hd] at h
        have h : (if 9223372036854775807 < u then none else some (u : Int)) = some n := h
        split at h
        · cases h
        · obtain rfl := Option.some.inj h
          have hr := decF_back (l.length - 1) l u (by omega) hd (by
            by_cases e : l.length - 1 = 0
            · exact .inr e
            · exact .inl fun e2 => q (.inr (.inr ⟨e2, by omega⟩)))
          refine ⟨?_, by omega, by omega⟩
          unfold Lib.itoa
          rw [if_neg (by omega), show (u : Int).toNat = u by omega, ← hr]

theorem parse_digits (u : Nat) (h : u ≤ 9223372036854775808) (r : List UInt8) : Lib.parseUint10 0 (Lib.decDigits u ++ r) = Lib.parseUint10 u r := by
  rw [Lib.decDigits]
  split
  · rename_i hu
    show (if _ then _ else _) = _
    rw [digit_nat u hu, if_pos (by omega), if_neg (by omega), if_neg (by omega)]
    congr 1; omega
  · rename_i hu
    rw [List.append_assoc, parse_digits (u / 10) (by omega)]
    show (if _ then _ else _) = _
    rw [digit_nat _ (Nat.mod_lt _ (by decide)), if_pos (by omega), if_neg (by omega), if_neg (by omega)]
    show Lib.parseUint10 _ r = _
    congr 1; omega
termination_by u
decreasing_by omega
theorem atoi_itoa {n : Int} (h0 : -9223372036854775808 ≤ n) (h1 : n ≤ 9223372036854775807) : Lib.atoiAll (Lib.itoa n) = .ok n := by
  have hp : ∀ u, u ≤ 9223372036854775808 → Lib.parseMag (Lib.decDigits u) = .ok u := fun u hu => by
    unfold Lib.parseMag
    rw [if_neg (decDigits_ne u)]
    have := parse_digits u hu []
    rw [List.append_nil] at this
    rw [this]; rfl
  unfold Lib.itoa
  by_cases hn : n < 0
  · rw [if_pos hn]
    show Lib.atoiAll (45 :: Lib.decDigits n.natAbs) = _
    unfold Lib.atoiAll
    simp only
    rw [if_pos (show (45 : UInt8).toNat = 43 ∨ (45 : UInt8).toNat = 45 from .inr rfl)]
    rw [hp _ (by omega)]
    simp only
    rw [if_neg (fun h => h.1 rfl), if_neg (by rintro ⟨_, h⟩; omega), if_pos (show UInt8.toNat 45 = 45 from rfl)]
    congr 1; omega
  · rw [if_neg hn]
    have e : n.toNat = n.natAbs := by omega
    rw [e]
    cases q : Lib.decDigits n.natAbs with
    | nil => exact absurd q (decDigits_ne _)
    | cons c r =>
      have hc : 48 ≤ c.toNat ∧ c.toNat ≤ 57 := by
        have := decF_digits n.natAbs (by omega)
        rw [q] at this
        have h : (if c.toNat < 48 ∨ 57 < c.toNat ∨ 922337203685477580 < 0 then none else decF (10 * 0 + (c.toNat - 48)) r) = some n.natAbs := this
        split at h
        · cases h
        · omega
      unfold Lib.atoiAll
      simp only
      rw [if_neg (by omega), ← q, hp _ (by omega)]
      simp only
      rw [if_neg (by omega), if_neg (by omega), if_neg (by omega)]
      congr 1; omega
theorem numV_itoa {n : Int} (h0 : -9223372036854775808 ≤ n) (h1 : n ≤ 9223372036854775807) : numV (Lib.itoa n) = some n := by
  unfold numV; rw [atoi_itoa h0 h1]; exact if_pos rfl
theorem numV_back {l : List UInt8} {n : Int} (h : numV l = some n) : Lib.itoa n = l ∧ Lib.atoiAll l = .ok n := by
  unfold numV at h
  cases q : Lib.atoiAll l with
  | ok v =>
    rw [q] at h
    have h : (if Lib.itoa v = l then some v else none) = some n := h
    split at h
    · rename_i e; obtain rfl := Option.some.inj h; exact ⟨e, rfl⟩
    · cases h
  | _ => rw [q] at h; cases h
theorem numV_numD (l : List UInt8) : numV l = numD l := by
  cases hd : numD l with
  | some n => obtain ⟨e, h0, h1⟩ := numD_back hd; rw [e]; exact numV_itoa h0 h1
  | none =>
    cases hv : numV l with
    | none => rfl
    | some n =>
      obtain ⟨e, ha⟩ := numV_back hv
      obtain ⟨h0, h1⟩ := Lib.atoiAll_bounds ha
      have := numD_itoa h0 h1
      rw [e, hd] at this
      cases this
end Go.Proofs.YthnhknomjepijaaDoor
