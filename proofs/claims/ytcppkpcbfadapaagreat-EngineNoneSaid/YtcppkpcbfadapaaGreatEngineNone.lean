/-
  THE STATEMENT EngineNone: for every input the law returns true, and each argument reads behind the call as it did before.
  Conditions: none but the given row's own.
-/
import Derived.Test.YtcppkpcbfadapaaGreatRows
import Derived.Test.YtcppkpcbfadapaaGreatEngF
import Derived.Test.YtcppkpcbfadapaaGreatLaw
namespace Go.Proofs.YtcppkpcbfadapaaGreat
set_option linter.unusedVariables false
set_option linter.unusedSimpArgs false
open Go.RowKit Go.ChangeShapes Go.WideShapes Go.Deep Go.ChangeAt

set_option maxRecDepth 100000 in
theorem engineNone_lifted (os : Os) (started : os.Started) (H : Type) (enc : TypeId × Value → H) :
    ReturnsInHanded {} Tryz.checked os 3 .any (Rows.engineNoneSpec.pre6 enc Tryz.prog Tryz.f3 Rows.engineNoneRow.domain false) (Rows.engineNoneSpec.post enc Tryz.prog Tryz.f3 false true false false) := by
  refine law_lift (C := Tryz.checked) (T := 4) (by kernel_rfl) started (by kernel_rfl) Tryz.func3
    (ChangeSpec.witness6 (enc := enc) (C := Tryz.checked) false ⟨#[], #[.slice none 0 0, .int .i64 0], []⟩ 8 (by kernel_rfl) (by kernel_rfl) (by kernel_rfl) (by kernel_rfl))
    (by kernel_rfl) (by kernel_rfl) rfl Tryz.underlying4 rfl ?_ ?_
  · intro ds hlen
    match ds, hlen with
    | [d0, d1], _ => exact ⟨rfl, rfl, rfl⟩
  · intro W base args ds p hval hA
    rw [Tryz.params3] at hA hval
    obtain ⟨v0, vs0, d0, ds0, p0, q0, hargs, rfl, rfl, h0, r0⟩ := trodAll_cons hA
    obtain ⟨v1, vs1, d1, ds1, p1, q1, rfl, rfl, rfl, h1, r1⟩ := trodAll_cons r0
    obtain ⟨rfl, rfl, rfl⟩ := trodAll_nil r1
    obtain rfl : args = #[v0, v1] := by cases args; simp_all
    obtain ⟨A0, n0, cap0, l0, rfl, k0⟩ := arg_slice (t := tInt .u8) Tryz.underlying22 opens_u8s (hval 0 22 v0 rfl rfl) h0
    obtain ⟨n1, rfl, k1⟩ := arg_int Tryz.underlying3 (hval 1 3 v1 rfl rfl) h1
    exact engineNone_walk A0 n0 cap0 l0 k0 n1 k1 W rfl

theorem band {a b : Bool} (h : a = true) (k : b = true) : (a && b) = true := by rw [h, k]; rfl
set_option maxHeartbeats 4000000 in
theorem engineNone_closed : joinedFacts Tryz.checked.prog 3 Tryz.f3 Rows.engineNoneSpec Rows.engineNoneRow = true := by
  unfold joinedFacts
  simp only [Bool.and_eq_true]
  and_intros
  all_goals (as_aux_lemma => kernel_rfl)

theorem engineNone_holds : Rows.EngineNoneSaid :=
  OpenClaim.holds_of_wide 3 Tryz.f3 rfl rfl rfl rfl rfl rfl rfl ⟨rfl, rfl, rfl, rfl, rfl⟩ rfl rfl rfl rfl rfl (by kernel_rfl) Tryz.func3 engineNone_closed
    (of_decide_eq_true (by kernel_rfl)) (by unfold Func.isWrapper; rw [if_neg (of_decide_eq_false (by kernel_rfl))]; exact ⟨rfl, rfl⟩)
    (fun os started H enc _ => engineNone_lifted os started H enc)
#print axioms engineNone_holds
end Go.Proofs.YtcppkpcbfadapaaGreat
