/-
  THE STATEMENT StoreStays: for every input the law returns true, and each argument reads behind the call as it did before.
  Conditions: none but the given row's own.
-/
import Derived.Test.YtlhnapjglebacaaRows
import Derived.Test.YtlhnapjglebacaaStoreAF
import Derived.Test.YtlhnapjglebacaaLaw
namespace Go.Proofs.Ytlhnapjglebacaa
set_option linter.unusedVariables false
set_option linter.unusedSimpArgs false
open Go.RowKit Go.ChangeShapes Go.WideShapes Go.Deep Go.ChangeAt

set_option maxRecDepth 100000 in
theorem storeStays_lifted (os : Os) (started : os.Started) (H : Type) (enc : TypeId × Value → H) :
    ReturnsInHanded {} Try.checked os 12 .any (Rows.storeStaysSpec.pre6 enc Try.prog Try.f12 Rows.storeStaysRow.domain false) (Rows.storeStaysSpec.post enc Try.prog Try.f12 false true false false) := by
  refine law_lift_sized (C := Try.checked) (T := 4) (by kernel_rfl) started (by kernel_rfl) Try.func12
    (ChangeSpec.witness6 (enc := enc) (C := Try.checked) false ⟨#[], #[.slice none 0 0, .slice none 0 0], []⟩ 8 (by kernel_rfl) (by kernel_rfl) (by kernel_rfl) (by kernel_rfl))
    (by kernel_rfl) (by kernel_rfl) rfl Try.underlying4 rfl rfl ?_ ?_
  · intro ds hlen
    match ds, hlen with
    | [d0, d1], _ => exact ⟨rfl, rfl, rfl⟩
  · intro W base args ds p hval hA hw
    rw [Try.params12] at hA hval hw
    obtain ⟨v0, vs0, d0, ds0, p0, q0, hargs, rfl, rfl, h0, r0⟩ := trodAll_cons hA
    obtain ⟨v1, vs1, d1, ds1, p1, q1, rfl, rfl, rfl, h1, r1⟩ := trodAll_cons r0
    obtain ⟨rfl, rfl, rfl⟩ := trodAll_nil r1
    obtain rfl : args = #[v0, v1] := by cases args; simp_all
    obtain ⟨A0, n0, cap0, l0, rfl, k0, s0⟩ := argW_slice (t := tDo) Try.underlying95 opensW_dos (hval 0 95 v0 rfl rfl) h0 (fun m hm => hw m (weightsEach_in (i := 0) rfl rfl m hm))
    obtain ⟨A1, n1, cap1, l1, rfl, k1, s1⟩ := argW_slice (t := tDo) Try.underlying95 opensW_dos (hval 1 95 v1 rfl rfl) h1 (fun m hm => hw m (weightsEach_in (i := 1) rfl rfl m hm))
    exact storeStays_walk A0 n0 cap0 l0 k0 s0 A1 n1 cap1 l1 k1 s1 W rfl

theorem storeStays_holds : Rows.StoreStaysSaid :=
  OpenClaim.holds_of_wide 12 Try.f12 rfl rfl rfl rfl rfl rfl rfl ⟨rfl, rfl, rfl, rfl, rfl⟩ rfl rfl rfl rfl rfl (by kernel_rfl) Try.func12 (by kernel_rfl)
    (of_decide_eq_true (by kernel_rfl)) (by unfold Func.isWrapper; rw [if_neg (of_decide_eq_false (by kernel_rfl))]; exact ⟨rfl, rfl⟩)
    (fun os started H enc _ => storeStays_lifted os started H enc)
#print axioms storeStays_holds
end Go.Proofs.Ytlhnapjglebacaa
