/-
  THE STATEMENT OpBack: for every input the law returns true, and each argument reads behind the call as it did before.
  Conditions: none but the given row's own.
-/
import Derived.Test.YthnhknomjepijaaDoorRows
import Derived.Test.YthnhknomjepijaaDoorOpBA
import Derived.Test.YthnhknomjepijaaDoorOpVS
namespace Go.Proofs.YthnhknomjepijaaDoor
set_option linter.unusedVariables false
set_option linter.unusedSimpArgs false
open Go.RowKit Go.ChangeShapes Go.WideShapes Go.Deep Go.ChangeAt

set_option maxRecDepth 100000 in
theorem opBack_lifted (os : Os) (started : os.Started) (H : Type) (enc : TypeId × Value → H) :
    ReturnsInHanded {} Tryd.checked os 6 .any (fun w args => (Rows.opBackSpec.pre enc Tryd.prog Tryd.f6 [] false w args ∧ laidMetH Tryd.prog laidS w) ∧ sizedMet enc Tryd.prog Tryd.f6 (OpenSpec.ofChange Rows.opBackSpec) false w args) (Rows.opBackSpec.post enc Tryd.prog Tryd.f6 false true false false) := by
  refine law_lift_shaped (C := Tryd.checked) (T := 4) (by kernel_rfl) started (by kernel_rfl) Tryd.func6
    (ChangeSpec.witness_shaped (enc := enc) (C := Tryd.checked) (os := os) (X := fun w _ => laidMetH Tryd.prog laidS w) false (World.laidAll Tryd.prog os laidS) #[.slice none 0 0, .string ByteArray.empty] 8 (World.laidAll_os _ _ _) (World.shaped_of_ZipB (by kernel_rfl) (by kernel_rfl)) (by kernel_rfl) (by kernel_rfl) (by kernel_rfl) (door_metS os _))
    (by kernel_rfl) (by kernel_rfl) rfl Tryd.underlying4 rfl ?_ ?_
  · intro ds hlen
    match ds, hlen with
    | [d0, d1], _ => exact ⟨rfl, rfl, rfl⟩
  · intro W base args ds p hval hA hL hSh
    rw [Tryd.params6] at hA hval
    obtain ⟨v0, vs0, d0, ds0, p0, q0, hargs, rfl, rfl, h0, r0⟩ := trodAll_cons hA
    obtain ⟨v1, vs1, d1, ds1, p1, q1, rfl, rfl, rfl, h1, r1⟩ := trodAll_cons r0
    obtain ⟨rfl, rfl, rfl⟩ := trodAll_nil r1
    obtain rfl : args = #[v0, v1] := by cases args; simp_all
    obtain ⟨A0, n0, cap0, l0, rfl, k0⟩ := arg_slice (t := tOp) Tryd.underlying43 (opens_slice Tryd.underlying43 (by kernel_rfl) (by decide) opens_op) (hval 0 43 v0 rfl rfl) h0
    obtain ⟨s1, rfl, k1⟩ := arg_str Tryd.underlying9 (hval 1 9 v1 rfl rfl) h1
    exact opBack_walk A0 n0 cap0 l0 s1 W k0 (ls_of_laid hL) (lm_of_shape hSh)

theorem opBack_holds : Rows.OpBackSaid :=
  OpenClaim.holds_of_wide 6 Tryd.f6 rfl rfl rfl rfl rfl rfl rfl ⟨rfl, rfl, rfl, rfl, rfl⟩ rfl rfl rfl rfl rfl (by kernel_rfl) Tryd.func6 (by kernel_rfl)
    (of_decide_eq_true (by kernel_rfl)) (by unfold Func.isWrapper; rw [if_neg (of_decide_eq_false (by kernel_rfl))]; exact ⟨rfl, rfl⟩)
    (fun os started H enc _ => opBack_lifted os started H enc)
#print axioms opBack_holds
end Go.Proofs.YthnhknomjepijaaDoor
