/-
  THE STATEMENT WalkStarts: for every input the law returns true, and each argument reads behind the call as it did before.
  Conditions: none but the given row's own.
-/
import Derived.Test.YthjmghjfklkmbaaGreatRows
import Derived.Test.YthjmghjfklkmbaaGreatJ48
set_option linter.unusedVariables false
set_option linter.unusedSimpArgs false
namespace Go.Proofs.YthjmghjfklkmbaaGreat
open Go.RowKit Go.ChangeShapes Go.WideShapes Go.Deep Go.ChangeAt
set_option maxRecDepth 100000 in
theorem walkStarts_lifted (os:Os) (started:os.Started) (H:Type) (enc:TypeId × Value → H) :
  ReturnsInHanded {} Tryz.checked os 3 .any (Rows.walkStartsSpec.pre6 enc Tryz.prog Tryz.f3 Rows.walkStartsRow.domain false) (Rows.walkStartsSpec.post enc Tryz.prog Tryz.f3 false true false false):=by
 refine law_lift (C:=Tryz.checked) (T:=4) (by kernel_rfl) started (by kernel_rfl) Tryz.func3
  (ChangeSpec.witness6 (enc:=enc) (C:=Tryz.checked) false ⟨#[],#[.agg #[.int .i64 0,.int .i64 0,.int .i64 0,.int .i64 0,.slice none 0 0],.agg (tN 0 0 0 none 0 0)],[]⟩ 8 (by kernel_rfl) (by kernel_rfl) (by kernel_rfl) (by kernel_rfl))
  (by kernel_rfl) (by kernel_rfl) rfl Tryz.underlying4 rfl ?_ ?_
 ·intro ds hlen
  match ds,hlen with
  | [d0,d1],_=>exact ⟨rfl,rfl,rfl⟩
 ·intro W base args ds p hval hA
  rw [Tryz.params3] at hA hval
  obtain ⟨v0,vs0,d0,ds0,p0,q0,hargs,rfl,rfl,h0,r0⟩:=trodAll_cons hA
  obtain ⟨v1,vs1,d1,ds1,p1,q1,rfl,rfl,rfl,h1,r1⟩:=trodAll_cons r0
  obtain ⟨rfl,rfl,rfl⟩:=trodAll_nil r1
  obtain rfl:args=#[v0,v1]:=by cases args;simp_all
  obtain ⟨cs0,y0,rfl,k0⟩:=arg_struct (t:=tBun) Tryz.underlying26 opens_bun (hval 0 26 v0 rfl rfl) h0
  obtain ⟨cs1,y1,rfl,k1⟩:=arg_struct (t:=tTensor) Tryz.underlying29 opens_tensor (hval 1 29 v1 rfl rfl) h1
  exact walkStarts_walk cs0 y0 k0 cs1 y1 k1 W rfl
theorem walkStarts_holds:Rows.WalkStartsSaid :=
 OpenClaim.holds_of_wide 3 Tryz.f3 rfl rfl rfl rfl rfl rfl rfl ⟨rfl,rfl,rfl,rfl,rfl⟩ rfl rfl rfl rfl rfl (by kernel_rfl) Tryz.func3 (by kernel_rfl)
  (of_decide_eq_true (by kernel_rfl)) (by unfold Func.isWrapper;rw [if_neg (of_decide_eq_false (by kernel_rfl))];exact ⟨rfl,rfl⟩)
  (fun os started H enc _=>walkStarts_lifted os started H enc)
#print axioms walkStarts_holds
end Go.Proofs.YthjmghjfklkmbaaGreat
