/-
  THE STATEMENT VerdictNeed: for every input the law returns true, and each argument reads behind the call as it did before.
  Conditions: none but the given row's own.
-/
import Derived.Test.YtlbijkafcododaaRows
import Derived.Test.YtlbijkafcododaaVerdG
import Derived.Test.YtlbijkafcododaaLaw
namespace Go.Proofs.Ytlbijkafcododaa
set_option linter.unusedVariables false
set_option linter.unusedSimpArgs false
open Go.RowKit Go.ChangeShapes Go.WideShapes Go.Deep Go.ChangeAt

set_option maxRecDepth 100000 in
theorem verdictNeed_lifted (os : Os) (started : os.Started) (H : Type) (enc : TypeId × Value → H) :
    ReturnsInHanded {} Try.checked os 12 .any (Rows.verdictNeedSpec.pre6 enc Try.prog Try.f12 Rows.verdictNeedRow.domain false) (Rows.verdictNeedSpec.post enc Try.prog Try.f12 false true false false) := by
  refine law_lift (C := Try.checked) (T := 4) (by kernel_rfl) started (by kernel_rfl) Try.func12
    (ChangeSpec.witness6 (enc := enc) (C := Try.checked) false ⟨#[], #[.agg #[.int .i64 0, .int .i64 0, .int .i64 0, .slice none 0 0], .agg #[.slice none 0 0, .slice none 0 0, .int .i32 0], .int .i64 0, .int .i32 0, .int .u16 0], []⟩ 8 (by kernel_rfl) (by kernel_rfl) (by kernel_rfl) (by kernel_rfl))
    (by kernel_rfl) (by kernel_rfl) rfl Try.underlying4 rfl ?_ ?_
  · intro ds hlen
    match ds, hlen with
    | [d0, d1, d2, d3, d4], _ => exact ⟨rfl, rfl, rfl⟩
  · intro W base args ds p hval hA
    rw [Try.params12] at hA hval
    obtain ⟨v0, vs0, d0, ds0, p0, q0, hargs, rfl, rfl, h0, r0⟩ := trodAll_cons hA
    obtain ⟨v1, vs1, d1, ds1, p1, q1, rfl, rfl, rfl, h1, r1⟩ := trodAll_cons r0
    obtain ⟨v2, vs2, d2, ds2, p2, q2, rfl, rfl, rfl, h2, r2⟩ := trodAll_cons r1
    obtain ⟨v3, vs3, d3, ds3, p3, q3, rfl, rfl, rfl, h3, r3⟩ := trodAll_cons r2
    obtain ⟨v4, vs4, d4, ds4, p4, q4, rfl, rfl, rfl, h4, r4⟩ := trodAll_cons r3
    obtain ⟨rfl, rfl, rfl⟩ := trodAll_nil r4
    obtain rfl : args = #[v0, v1, v2, v3, v4] := by cases args; simp_all
    obtain ⟨cs0, y0, rfl, k0⟩ := arg_struct (t := tTensor) Try.underlying55 opens_tensor (hval 0 55 v0 rfl rfl) h0
    obtain ⟨cs1, y1, rfl, k1⟩ := arg_struct (t := tHd) Try.underlying85 opens_hd (hval 1 85 v1 rfl rfl) h1
    obtain ⟨n2, rfl, k2⟩ := arg_int Try.underlying3 (hval 2 3 v2 rfl rfl) h2
    obtain ⟨n3, rfl, k3⟩ := arg_int Try.underlying21 (hval 3 21 v3 rfl rfl) h3
    obtain ⟨n4, rfl, k4⟩ := arg_int Try.underlying44 (hval 4 44 v4 rfl rfl) h4
    exact verdictNeed_walk cs0 y0 k0 cs1 y1 k1 n2 k2 n3 k3 n4 k4 W rfl

theorem verdictNeed_holds : Rows.VerdictNeedSaid :=
  OpenClaim.holds_of_wide 12 Try.f12 rfl rfl rfl rfl rfl rfl rfl ⟨rfl, rfl, rfl, rfl, rfl⟩ rfl rfl rfl rfl rfl (by kernel_rfl) Try.func12 (by kernel_rfl)
    (of_decide_eq_true (by kernel_rfl)) (by unfold Func.isWrapper; rw [if_neg (of_decide_eq_false (by kernel_rfl))]; exact ⟨rfl, rfl⟩)
    (fun os started H enc _ => verdictNeed_lifted os started H enc)
#print axioms verdictNeed_holds
end Go.Proofs.Ytlbijkafcododaa
