/-
  Walks of audit (layer 47), fourth part: the faults' names, known.
  Conditions: none.
-/
import Derived.Test.YtlhnapjglebacaaChecked
import Derived.Test.YtlhnapjglebacaaAuditC
namespace Go.Proofs.Ytlhnapjglebacaa
set_option linter.unusedVariables false
set_option linter.unusedSimpArgs false
open Go.RowKit Go.ChangeShapes Go.WideShapes
set_option maxRecDepth 100000

def faultName (f : Int) : ByteArray :=
  if f = 0 then ⟨#[102, 105, 110, 101]⟩ else if f = 1 then ⟨#[110, 111, 101, 120, 105, 116]⟩ else if f = 2 then ⟨#[118, 101, 114, 100, 105, 99, 116]⟩ else if f = 3 then ⟨#[115, 112, 101, 110, 116]⟩ else if f = 4 then ⟨#[112, 97, 115, 115, 101, 100]⟩
  else if f = 5 then ⟨#[119, 104, 121]⟩ else ⟨#[]⟩

theorem name_cases (f : Int) : (f < 0 ∧ faultName f = ⟨#[]⟩) ∨ (6 ≤ f ∧ faultName f = ⟨#[]⟩) ∨ f = 0 ∨ f = 1 ∨ f = 2 ∨ f = 3 ∨ f = 4 ∨ f = 5 := by
  by_cases h1 : f < 0
  · exact .inl ⟨h1, by unfold faultName; simp [show f ≠ 0 by omega, show f ≠ 1 by omega, show f ≠ 2 by omega, show f ≠ 3 by omega, show f ≠ 4 by omega, show f ≠ 5 by omega]⟩
  by_cases h2 : 6 ≤ f
  · exact .inr (.inl ⟨h2, by unfold faultName; simp [show f ≠ 0 by omega, show f ≠ 1 by omega, show f ≠ 2 by omega, show f ≠ 3 by omega, show f ≠ 4 by omega, show f ≠ 5 by omega]⟩)
  omega

theorem name_any (f : Int) (w : World) (hf : InK .i64 f) :
    Calls Try.prog 25 #[.int .i64 f] w fun e w' => e = .returned (.string (faultName f)) ∧ Below w.heap.size w w' := by
  rw [inK_i64] at hf
  obtain ⟨f1, f2⟩ := hf
  rcases name_cases f with ⟨h, e⟩ | ⟨h, e⟩ | rfl | rfl | rfl | rfl | rfl | rfl
  · have t1 : decide (f < 0) = true := by simpa using h
    rw [e]
    clear e
    go_enter Try.func25, Try.ntmps25
    go_wp2_with fail
    go_ret
    exact ⟨rfl, by go_grown⟩
  · have t1 : decide (f < 0) = false := by simp; omega
    have t2 : decide (6 ≤ f) = true := by simpa using h
    rw [e]
    clear e
    go_enter Try.func25, Try.ntmps25
    go_wp2_with fail
    go_ret
    exact ⟨rfl, by go_grown⟩
  all_goals
    go_enter Try.func25, Try.ntmps25
    go_wp2_with fail
    go_ret
    exact ⟨rfl, by go_grown⟩

theorem known47_any (w : World) : Calls Try.prog 22 #[] w fun e w' => e = .returned (.bool true) ∧ Below w.heap.size w w' := by
  go_enter Try.func22, Try.ntmps22
  go_wp2_with fail
  refine (right_any none 0 0 [] ⟨0, 0, 0, 0, 0, [], 0, 0, 0⟩ none 0 0 _ (Sl.nil _ _ _) (Sl.nil _ _ _)).mono ?_
  rintro e w1 ⟨rfl, h1⟩
  rw [show faultOf [] ⟨0, 0, 0, 0, 0, [], 0, 0, 0⟩ = 1 from rfl]
  go_wp2_with fail
  refine (name_any 4 _ (by decide)).mono ?_
  rintro e w2 ⟨rfl, h2⟩
  rw [show faultName 4 = ⟨#[112, 97, 115, 115, 101, 100]⟩ from rfl]
  have g2 := below_call h1 h2 h1.size
  clear h1 h2
  go_wp2_with fail
  refine (name_any 9 _ (by decide)).mono ?_
  rintro e w3 ⟨rfl, h3⟩
  rw [show faultName 9 = ⟨#[]⟩ from rfl]
  have g3 := below_call g2 h3 g2.size
  clear g2 h3
  go_wp2_with fail
  go_ret
  exact ⟨rfl, g3⟩
end Go.Proofs.Ytlhnapjglebacaa
