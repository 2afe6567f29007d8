/-
  THE STATEMENT TuneLeast: for every input the law returns true, and each argument reads behind the call as it did before.
  Conditions: none but the given row's own.
-/
import Derived.Test.YtlhnapjglebacaaRows
import Derived.Test.YtlhnapjglebacaaTuneA
import Derived.Test.YtlhnapjglebacaaLaw
namespace Go.Proofs.Ytlhnapjglebacaa
open Go.RowKit Go.ChangeShapes Go.WideShapes Go.Deep Go.ChangeAt

set_option maxRecDepth 100000 in
theorem tuneLeast_lifted (os : Os) (started : os.Started) (H : Type) (enc : TypeId × Value → H) :
    ReturnsInHanded {} Try.checked os 3 .any (Rows.tuneLeastSpec.pre6 enc Try.prog Try.f3 Rows.tuneLeastRow.domain false) (Rows.tuneLeastSpec.post enc Try.prog Try.f3 false true false false) := by
  refine law_lift (C := Try.checked) (T := 4) (by kernel_rfl) started (by kernel_rfl) Try.func3
    (ChangeSpec.witness6 (enc := enc) (C := Try.checked) false ⟨#[], #[.slice none 0 0], []⟩ 8 (by kernel_rfl) (by kernel_rfl) (by kernel_rfl) (by kernel_rfl))
    (by kernel_rfl) (by kernel_rfl) rfl Try.underlying4 rfl ?_ ?_
  · intro ds hlen
    match ds, hlen with
    | [d0], _ => exact ⟨rfl, rfl, rfl⟩
  · intro W base args ds p hval hA
    rw [Try.params3] at hA hval
    obtain ⟨v0, vs0, d0, ds0, p0, q0, hargs, rfl, rfl, h0, r0⟩ := trodAll_cons hA
    obtain ⟨rfl, rfl, rfl⟩ := trodAll_nil r0
    obtain rfl : args = #[v0] := by cases args; simp_all
    obtain ⟨A0, n0, cap0, l0, rfl, k0⟩ := arg_slice (t := tSeen) Try.underlying22 opens_seens (hval 0 22 v0 rfl rfl) h0
    exact tuneLeast_walk A0 n0 cap0 l0 k0 W rfl

theorem tuneLeast_holds : Rows.TuneLeastSaid :=
  OpenClaim.holds_of_wide 3 Try.f3 rfl rfl rfl rfl rfl rfl rfl ⟨rfl, rfl, rfl, rfl, rfl⟩ rfl rfl rfl rfl rfl (by kernel_rfl) Try.func3 (by kernel_rfl)
    (of_decide_eq_true (by kernel_rfl)) (by unfold Func.isWrapper; rw [if_neg (of_decide_eq_false (by kernel_rfl))]; exact ⟨rfl, rfl⟩)
    (fun os started H enc _ => tuneLeast_lifted os started H enc)
#print axioms tuneLeast_holds
end Go.Proofs.Ytlhnapjglebacaa
