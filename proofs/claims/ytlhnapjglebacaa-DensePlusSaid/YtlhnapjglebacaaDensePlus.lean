/-
  THE STATEMENT DensePlus: for every input the law returns true, and each argument reads behind the call as it did before.
  Conditions: none but the given row's own.
-/
import Derived.Test.YtlhnapjglebacaaRows
import Derived.Test.YtlhnapjglebacaaDensePlus0
import Derived.Test.YtlhnapjglebacaaLaw
namespace Go.Proofs.Ytlhnapjglebacaa
set_option linter.unusedVariables false
set_option linter.unusedSimpArgs false
open Go.RowKit Go.ChangeShapes Go.WideShapes Go.Deep Go.ChangeAt

set_option maxRecDepth 100000 in
theorem densePlus_lifted (os : Os) (started : os.Started) (H : Type) (enc : TypeId × Value → H) :
    ReturnsInHanded {} Try.checked os 5 .any (Rows.densePlusSpec.pre6 enc Try.prog Try.f5 Rows.densePlusRow.domain false) (Rows.densePlusSpec.post enc Try.prog Try.f5 false true false false) := by
  refine law_lift (C := Try.checked) (T := 4) (by kernel_rfl) started (by kernel_rfl) Try.func5
    (ChangeSpec.witness6 (enc := enc) (C := Try.checked) false ⟨#[], #[.slice none 0 0, .slice none 0 0, .slice none 0 0, .int .i32 0, .int .i8 0], []⟩ 8 (by kernel_rfl) (by kernel_rfl) (by kernel_rfl) (by kernel_rfl))
    (by kernel_rfl) (by kernel_rfl) rfl Try.underlying4 rfl ?_ ?_
  · intro ds hlen
    match ds, hlen with
    | [d0, d1, d2, d3, d4], _ => exact ⟨rfl, rfl, rfl⟩
  · intro W base args ds p hval hA
    rw [Try.params5] at hA hval
    obtain ⟨v0, vs0, d0, ds0, p0, q0, hargs, rfl, rfl, h0, r0⟩ := trodAll_cons hA
    obtain ⟨v1, vs1, d1, ds1, p1, q1, rfl, rfl, rfl, h1, r1⟩ := trodAll_cons r0
    obtain ⟨v2, vs2, d2, ds2, p2, q2, rfl, rfl, rfl, h2, r2⟩ := trodAll_cons r1
    obtain ⟨v3, vs3, d3, ds3, p3, q3, rfl, rfl, rfl, h3, r3⟩ := trodAll_cons r2
    obtain ⟨v4, vs4, d4, ds4, p4, q4, rfl, rfl, rfl, h4, r4⟩ := trodAll_cons r3
    obtain ⟨rfl, rfl, rfl⟩ := trodAll_nil r4
    obtain rfl : args = #[v0, v1, v2, v3, v4] := by cases args; simp_all
    obtain ⟨A0, n0, cap0, l0, rfl, k0⟩ := arg_slice (t := tInt .i8) Try.underlying29 opens_i8s (hval 0 29 v0 rfl rfl) h0
    obtain ⟨A1, n1, cap1, l1, rfl, k1⟩ := arg_slice (t := tInt .i8) Try.underlying29 opens_i8s (hval 1 29 v1 rfl rfl) h1
    obtain ⟨A2, n2, cap2, l2, rfl, k2⟩ := arg_slice (t := tInt .i8) Try.underlying29 opens_i8s (hval 2 29 v2 rfl rfl) h2
    obtain ⟨n3, rfl, k3⟩ := arg_int Try.underlying21 (hval 3 21 v3 rfl rfl) h3
    obtain ⟨n4, rfl, k4⟩ := arg_int Try.underlying31 (hval 4 31 v4 rfl rfl) h4
    exact densePlus_walk A0 n0 cap0 l0 k0 A1 n1 cap1 l1 k1 A2 n2 cap2 l2 k2 n3 k3 n4 k4 W rfl

theorem densePlus_holds : Rows.DensePlusSaid :=
  OpenClaim.holds_of_wide 5 Try.f5 rfl rfl rfl rfl rfl rfl rfl ⟨rfl, rfl, rfl, rfl, rfl⟩ rfl rfl rfl rfl rfl (by kernel_rfl) Try.func5 (by kernel_rfl)
    (of_decide_eq_true (by kernel_rfl)) (by unfold Func.isWrapper; rw [if_neg (of_decide_eq_false (by kernel_rfl))]; exact ⟨rfl, rfl⟩)
    (fun os started H enc _ => densePlus_lifted os started H enc)
#print axioms densePlus_holds
end Go.Proofs.Ytlhnapjglebacaa
