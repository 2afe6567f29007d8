/-
  Small whole numbers as 64-bit floats: sums, products with 0 and -1, the sign turned over, back to a whole number; complex numbers of such parts turned by a quarter.
  Conditions: numbers from -16 to 16.
-/
import Derived.WalkKit
import Derived.WalkLawsBesides
import Derived.Laws.ComplexArith
namespace Go.Proofs.Ytbdanfbfohikdaa
set_option linter.unusedVariables false
set_option linter.unusedSimpArgs false
open Go.RowKit Go.ChangeShapes Go.WideShapes
set_option maxRecDepth 100000

/-- The bits of a whole number as a float. -/
def fl (n : Int) : Nat := FloatKind.f64.nearest n
/-- The zero below zero. -/
def nz : Nat := 9223372036854775808
/-- Bits stand for a whole number. -/
def Fl (x : Nat) (n : Int) : Prop := (x = fl n ∨ n = 0 ∧ x = nz) ∧ -16 ≤ n ∧ n ≤ 16
/-- All ways in which a number is spelt. -/
def spells (n : Int) : List Nat := if n = 0 then [fl 0, nz] else [fl n]
theorem Fl.mem {x : Nat} {n : Int} (h : Fl x n) : x ∈ spells n := by
  unfold spells
  rcases h.1 with h | ⟨h1, h2⟩
  · by_cases c : n = 0
    · subst c; simp [h]
    · rw [if_neg c]; simp [h]
  · rw [if_pos h1]; simp [h2]
theorem Fl.of_mem {x : Nat} {n : Int} (h : x ∈ spells n) (h1 : -16 ≤ n) (h2 : n ≤ 16) : Fl x n := by
  refine ⟨?_, h1, h2⟩
  unfold spells at h
  by_cases c : n = 0
  · subst c; simp at h; exact h.imp id fun h => ⟨rfl, h⟩
  · rw [if_neg c] at h; simp at h; exact .inl h
def okTo (n : Int) (r : Option Nat) : Bool := match r with | some x => (spells n).contains x | none => false
theorem okTo_some {n : Int} {r : Option Nat} (h : okTo n r = true) : ∃ x, r = some x ∧ x ∈ spells n := by
  cases r with
  | none => cases h
  | some x => exact ⟨x, rfl, by simpa [okTo] using h⟩
/-- All that is asked of one number. -/
def chk (n : Int) : Bool := (spells n).all fun x =>
  (floatToIntVal .f64 x .i64 == some n) && okTo 0 (floatBits .mul .f64 x 0) && okTo (-n) (floatBits .mul .f64 x (fl (-1))) && (spells (-n)).contains (Op.negFloat .f64 x)
  && (spells 0).all fun z => okTo (-n) (floatBits .sub .f64 z x) && okTo n (floatBits .add .f64 x z)
theorem chk_all : (List.range 33).all (fun i => chk ((i : Int) - 16)) = true := by kernel_rfl
theorem Fl.chk {x : Nat} {n : Int} (h : Fl x n) : chk n = true := by
  have := List.all_eq_true.1 chk_all (n + 16).toNat (List.mem_range.2 (by have := h.2; omega))
  rwa [show (((n + 16).toNat : Nat) : Int) - 16 = n by have := h.2; omega] at this
structure FlOk (x : Nat) (n : Int) : Prop where
  int : floatToIntVal .f64 x .i64 = some n
  mul0 : ∃ z, floatBits .mul .f64 x 0 = some z ∧ Fl z 0
  mulm : ∃ z, floatBits .mul .f64 x (fl (-1)) = some z ∧ Fl z (-n)
  neg : Fl (Op.negFloat .f64 x) (-n)
  sub0 : ∀ z, Fl z 0 → ∃ r, floatBits .sub .f64 z x = some r ∧ Fl r (-n)
  add0 : ∀ z, Fl z 0 → ∃ r, floatBits .add .f64 x z = some r ∧ Fl r n
theorem Fl.ok {x : Nat} {n : Int} (h : Fl x n) : FlOk x n := by
  have hc := h.chk
  have hm := h.mem
  obtain ⟨_, b1, b2⟩ := h
  unfold Go.Proofs.Ytbdanfbfohikdaa.chk at hc
  have hx := List.all_eq_true.1 hc x hm
  simp only [Bool.and_eq_true] at hx
  obtain ⟨⟨⟨⟨h1, h2⟩, h3⟩, h4⟩, h5⟩ := hx
  refine ⟨by simpa using h1, ?_, ?_, .of_mem (by simpa using h4) (by omega) (by omega), fun z hz => ?_, fun z hz => ?_⟩
  · obtain ⟨z, e, hz⟩ := okTo_some h2
    exact ⟨z, e, .of_mem hz (by omega) (by omega)⟩
  · obtain ⟨z, e, hz⟩ := okTo_some h3
    exact ⟨z, e, .of_mem hz (by omega) (by omega)⟩
  · have := List.all_eq_true.1 h5 z hz.mem
    simp only [Bool.and_eq_true] at this
    obtain ⟨r, e, hr⟩ := okTo_some this.1
    exact ⟨r, e, .of_mem hr (by omega) (by omega)⟩
  · have := List.all_eq_true.1 h5 z hz.mem
    simp only [Bool.and_eq_true] at this
    obtain ⟨r, e, hr⟩ := okTo_some this.2
    exact ⟨r, e, .of_mem hr b1 b2⟩
theorem Fl.fl {n : Int} (h1 : -16 ≤ n) (h2 : n ≤ 16) : Fl (fl n) n := ⟨.inl rfl, h1, h2⟩
/-- A complex number of whole parts, turned by a quarter to the right. -/
theorem Fl.quarter {a b : Nat} {m n : Int} (ha : Fl a m) (hb : Fl b n) : ∃ re im, cMulBits a b 0 (Go.Proofs.Ytbdanfbfohikdaa.fl (-1)) = some (re, im) ∧ Fl re n ∧ Fl im (-m) := by
  obtain ⟨z1, e1, f1⟩ := ha.ok.mul0
  obtain ⟨z2, e2, f2⟩ := hb.ok.mulm
  obtain ⟨z3, e3, f3⟩ := f2.ok.sub0 z1 f1
  obtain ⟨z4, e4, f4⟩ := ha.ok.mulm
  obtain ⟨z5, e5, f5⟩ := hb.ok.mul0
  obtain ⟨z6, e6, f6⟩ := f4.ok.add0 z5 f5
  rw [Int.neg_neg] at f3
  refine ⟨z3, z6, ?_, f3, f6⟩
  unfold cMulBits
  rw [e1, e2, e4, e5]
  simp only [Option.bind_some]
  rw [e3, e6]
  rfl
end Go.Proofs.Ytbdanfbfohikdaa
