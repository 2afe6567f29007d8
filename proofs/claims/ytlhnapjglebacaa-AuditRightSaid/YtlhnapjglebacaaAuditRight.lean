/-
  THE STATEMENT AuditRight: for every input the law returns true, and each argument reads behind the call as it did before.
  Conditions: none but the given row's own.
-/
import Derived.Test.YtlhnapjglebacaaRows
import Derived.Test.YtlhnapjglebacaaAuditF
import Derived.Test.YtlhnapjglebacaaLaw
namespace Go.Proofs.Ytlhnapjglebacaa
set_option linter.unusedVariables false
set_option linter.unusedSimpArgs false
open Go.RowKit Go.ChangeShapes Go.WideShapes Go.Deep Go.ChangeAt

set_option maxRecDepth 100000 in
theorem auditRight_lifted (os : Os) (started : os.Started) (H : Type) (enc : TypeId × Value → H) :
    ReturnsInHanded {} Try.checked os 6 .any (Rows.auditRightSpec.pre6 enc Try.prog Try.f6 Rows.auditRightRow.domain false) (Rows.auditRightSpec.post enc Try.prog Try.f6 false true false false) := by
  refine law_lift (C := Try.checked) (T := 4) (by kernel_rfl) started (by kernel_rfl) Try.func6
    (ChangeSpec.witness6 (enc := enc) (C := Try.checked) false ⟨#[], #[.slice none 0 0, .agg #[.int .i64 0, .int .i64 0, .int .i64 0, .int .i64 0, .int .i64 0, .slice none 0 0, .int .i64 0, .int .i64 0, .int .i64 0], .int .i64 0], []⟩ 8 (by kernel_rfl) (by kernel_rfl) (by kernel_rfl) (by kernel_rfl))
    (by kernel_rfl) (by kernel_rfl) rfl Try.underlying4 rfl ?_ ?_
  · intro ds hlen
    match ds, hlen with
    | [d0, d1, d2], _ => exact ⟨rfl, rfl, rfl⟩
  · intro W base args ds p hval hA
    rw [Try.params6] at hA hval
    obtain ⟨v0, vs0, d0, ds0, p0, q0, hargs, rfl, rfl, h0, r0⟩ := trodAll_cons hA
    obtain ⟨v1, vs1, d1, ds1, p1, q1, rfl, rfl, rfl, h1, r1⟩ := trodAll_cons r0
    obtain ⟨v2, vs2, d2, ds2, p2, q2, rfl, rfl, rfl, h2, r2⟩ := trodAll_cons r1
    obtain ⟨rfl, rfl, rfl⟩ := trodAll_nil r2
    obtain rfl : args = #[v0, v1, v2] := by cases args; simp_all
    obtain ⟨A0, n0, cap0, l0, rfl, k0⟩ := arg_slice (t := tExit) Try.underlying36 opens_exits (hval 0 36 v0 rfl rfl) h0
    obtain ⟨cs1, y1, rfl, k1⟩ := arg_struct (t := tAns) Try.underlying38 opens_answer (hval 1 38 v1 rfl rfl) h1
    obtain ⟨n2, rfl, k2⟩ := arg_int Try.underlying3 (hval 2 3 v2 rfl rfl) h2
    exact auditRight_walk A0 n0 cap0 l0 k0 cs1 y1 k1 n2 k2 W rfl

theorem auditRight_holds : Rows.AuditRightSaid :=
  OpenClaim.holds_of_wide 6 Try.f6 rfl rfl rfl rfl rfl rfl rfl ⟨rfl, rfl, rfl, rfl, rfl⟩ rfl rfl rfl rfl rfl (by kernel_rfl) Try.func6 (by kernel_rfl)
    (of_decide_eq_true (by kernel_rfl)) (by unfold Func.isWrapper; rw [if_neg (of_decide_eq_false (by kernel_rfl))]; exact ⟨rfl, rfl⟩)
    (fun os started H enc _ => auditRight_lifted os started H enc)
#print axioms auditRight_holds
end Go.Proofs.Ytlhnapjglebacaa
