/-
  THE STATEMENT ArenaSound: for every input the law returns true, and each argument reads behind the call as it did before.
  Conditions: none but the given row's own.
-/
import Derived.Test.YtlbijkafcododaaRows
import Derived.Test.YtlbijkafcododaaArJ
import Derived.Test.YtlbijkafcododaaLaw
namespace Go.Proofs.Ytlbijkafcododaa
set_option linter.unusedVariables false
set_option linter.unusedSimpArgs false
open Go.RowKit Go.ChangeShapes Go.WideShapes Go.Deep Go.ChangeAt

set_option maxRecDepth 100000 in
theorem arenaSound_lifted (os : Os) (started : os.Started) (H : Type) (enc : TypeId × Value → H) :
    ReturnsInHanded {} Try.checked os 13 .any (Rows.arenaSoundSpec.pre6 enc Try.prog Try.f13 Rows.arenaSoundRow.domain false) (Rows.arenaSoundSpec.post enc Try.prog Try.f13 false true false false) := by
  refine law_lift (C := Try.checked) (T := 4) (by kernel_rfl) started (by kernel_rfl) Try.func13
    (ChangeSpec.witness6 (enc := enc) (C := Try.checked) false ⟨#[], #[.slice none 0 0, .slice none 0 0, .slice none 0 0], []⟩ 8 (by kernel_rfl) (by kernel_rfl) (by kernel_rfl) (by kernel_rfl))
    (by kernel_rfl) (by kernel_rfl) rfl Try.underlying4 rfl ?_ ?_
  · intro ds hlen
    match ds, hlen with
    | [d0, d1, d2], _ => exact ⟨rfl, rfl, rfl⟩
  · intro W base args ds p hval hA
    rw [Try.params13] at hA hval
    obtain ⟨v0, vs0, d0, ds0, p0, q0, hargs, rfl, rfl, h0, r0⟩ := trodAll_cons hA
    obtain ⟨v1, vs1, d1, ds1, p1, q1, rfl, rfl, rfl, h1, r1⟩ := trodAll_cons r0
    obtain ⟨v2, vs2, d2, ds2, p2, q2, rfl, rfl, rfl, h2, r2⟩ := trodAll_cons r1
    obtain ⟨rfl, rfl, rfl⟩ := trodAll_nil r2
    obtain rfl : args = #[v0, v1, v2] := by cases args; simp_all
    obtain ⟨A0, n0, cap0, l0, rfl, k0⟩ := arg_slice (t := (tInt .i64)) Try.underlying29 (opens_slice Try.underlying29 (by kernel_rfl) (by decide) (opens_int Try.underlying3 (by kernel_rfl))) (hval 0 29 v0 rfl rfl) h0
    obtain ⟨A1, n1, cap1, l1, rfl, k1⟩ := arg_slice (t := (tInt .i64)) Try.underlying29 (opens_slice Try.underlying29 (by kernel_rfl) (by decide) (opens_int Try.underlying3 (by kernel_rfl))) (hval 1 29 v1 rfl rfl) h1
    obtain ⟨A2, n2, cap2, l2, rfl, k2⟩ := arg_slice (t := (tInt .i64)) Try.underlying29 (opens_slice Try.underlying29 (by kernel_rfl) (by decide) (opens_int Try.underlying3 (by kernel_rfl))) (hval 2 29 v2 rfl rfl) h2
    exact arenaSound_walk A0 n0 cap0 l0 k0 A1 n1 cap1 l1 k1 A2 n2 cap2 l2 k2 W rfl

theorem arenaSound_holds : Rows.ArenaSoundSaid :=
  OpenClaim.holds_of_wide 13 Try.f13 rfl rfl rfl rfl rfl rfl rfl ⟨rfl, rfl, rfl, rfl, rfl⟩ rfl rfl rfl rfl rfl (by kernel_rfl) Try.func13 (by kernel_rfl)
    (of_decide_eq_true (by kernel_rfl)) (by unfold Func.isWrapper; rw [if_neg (of_decide_eq_false (by kernel_rfl))]; exact ⟨rfl, rfl⟩)
    (fun os started H enc _ => arenaSound_lifted os started H enc)
#print axioms arenaSound_holds
end Go.Proofs.Ytlbijkafcododaa
