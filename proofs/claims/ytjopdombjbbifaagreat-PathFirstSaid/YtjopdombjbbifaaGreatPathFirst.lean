/-
  THE STATEMENT PathFirst: for every input the law returns true, and each argument reads behind the call as it did before.
  Conditions: none but the given row's own.
-/
import Derived.Test.YtjopdombjbbifaaGreatRows
import Derived.Test.YtjopdombjbbifaaGreatPathB
import Derived.Test.YtjopdombjbbifaaGreatLaw
namespace Go.Proofs.YtjopdombjbbifaaGreat
set_option linter.unusedVariables false
set_option linter.unusedSimpArgs false
open Go.RowKit Go.ChangeShapes Go.WideShapes Go.Deep Go.ChangeAt

set_option maxRecDepth 100000 in
theorem pathFirst_lifted (os : Os) (started : os.Started) (H : Type) (enc : TypeId × Value → H) :
    ReturnsInHanded {} Tryz.checked os 3 .any (Rows.pathFirstSpec.pre6 enc Tryz.prog Tryz.f3 Rows.pathFirstRow.domain false) (Rows.pathFirstSpec.post enc Tryz.prog Tryz.f3 false true false false) := by
  refine law_lift (C := Tryz.checked) (T := 4) (by kernel_rfl) started (by kernel_rfl) Tryz.func3
    (ChangeSpec.witness6 (enc := enc) (C := Tryz.checked) false ⟨#[], #[.slice none 0 0, .int .i64 0, .agg #[.int .i64 0, .int .i64 0, .slice none 0 0, .bool false], .bool false, .bool false], []⟩ 8 (by kernel_rfl) (by kernel_rfl) (by kernel_rfl) (by kernel_rfl))
    (by kernel_rfl) (by kernel_rfl) rfl Tryz.underlying4 rfl ?_ ?_
  · intro ds hlen
    match ds, hlen with
    | [d0, d1, d2, d3, d4], _ => exact ⟨rfl, rfl, rfl⟩
  · intro W base args ds p hval hA
    rw [Tryz.params3] at hA hval
    obtain ⟨v0, vs0, d0, ds0, p0, q0, hargs, rfl, rfl, h0, r0⟩ := trodAll_cons hA
    obtain ⟨v1, vs1, d1, ds1, p1, q1, rfl, rfl, rfl, h1, r1⟩ := trodAll_cons r0
    obtain ⟨v2, vs2, d2, ds2, p2, q2, rfl, rfl, rfl, h2, r2⟩ := trodAll_cons r1
    obtain ⟨v3, vs3, d3, ds3, p3, q3, rfl, rfl, rfl, h3, r3⟩ := trodAll_cons r2
    obtain ⟨v4, vs4, d4, ds4, p4, q4, rfl, rfl, rfl, h4, r4⟩ := trodAll_cons r3
    obtain ⟨rfl, rfl, rfl⟩ := trodAll_nil r4
    obtain rfl : args = #[v0, v1, v2, v3, v4] := by cases args; simp_all
    obtain ⟨A0, n0, cap0, l0, rfl, k0⟩ := arg_slice (t := tExit) Tryz.underlying22 opens_exits (hval 0 22 v0 rfl rfl) h0
    obtain ⟨n1, rfl, k1⟩ := arg_int Tryz.underlying3 (hval 1 3 v1 rfl rfl) h1
    obtain ⟨cs2, y2, rfl, k2⟩ := arg_struct (t := tVd) Tryz.underlying25 opens_verdict (hval 2 25 v2 rfl rfl) h2
    obtain ⟨b3, rfl⟩ := arg_bool Tryz.underlying4 (hval 3 4 v3 rfl rfl) h3
    obtain ⟨b4, rfl⟩ := arg_bool Tryz.underlying4 (hval 4 4 v4 rfl rfl) h4
    exact pathFirst_walk A0 n0 cap0 l0 k0 n1 k1 cs2 y2 k2 b3 b4 W rfl

theorem pathFirst_holds : Rows.PathFirstSaid :=
  OpenClaim.holds_of_wide 3 Tryz.f3 rfl rfl rfl rfl rfl rfl rfl ⟨rfl, rfl, rfl, rfl, rfl⟩ rfl rfl rfl rfl rfl (by kernel_rfl) Tryz.func3 (by kernel_rfl)
    (of_decide_eq_true (by kernel_rfl)) (by unfold Func.isWrapper; rw [if_neg (of_decide_eq_false (by kernel_rfl))]; exact ⟨rfl, rfl⟩)
    (fun os started H enc _ => pathFirst_lifted os started H enc)
#print axioms pathFirst_holds
end Go.Proofs.YtjopdombjbbifaaGreat
