/-
  THE STATEMENT GraphIdle: for every input the law returns true, and each argument reads behind the call as it did before.
  Conditions: none but the given row's own.
-/
import Derived.Test.YtjkmjpjknmghlaaGreatRows
import Derived.Test.YtjkmjpjknmghlaaGreatKA05
set_option linter.unusedVariables false
set_option linter.unusedSimpArgs false
namespace Go.Proofs.YtjkmjpjknmghlaaGreat
open Go.RowKit Go.ChangeShapes Go.WideShapes Go.Deep Go.ChangeAt
set_option maxRecDepth 100000 in
theorem graphIdle_lifted (os:Os) (started:os.Started) (H:Type) (enc:TypeId × Value → H) :
  ReturnsInHanded {} Tryz.checked os 4 .any (Rows.graphIdleSpec.pre6 enc Tryz.prog Tryz.f4 Rows.graphIdleRow.domain false) (Rows.graphIdleSpec.post enc Tryz.prog Tryz.f4 false true false false):=by
 refine law_lift (C:=Tryz.checked) (T:=4) (by kernel_rfl) started (by kernel_rfl) Tryz.func4
  (ChangeSpec.witness6 (enc:=enc) (C:=Tryz.checked) false ⟨#[],#[.slice none 0 0,.agg #[.int .i64 0,.int .i64 0,.int .i64 0,.slice none 0 0]],[]⟩ 8 (by kernel_rfl) (by kernel_rfl) (by kernel_rfl) (by kernel_rfl))
  (by kernel_rfl) (by kernel_rfl) rfl Tryz.underlying4 rfl ?_ ?_
 ·intro ds hlen
  match ds,hlen with
  | [d0,d1],_=>exact ⟨rfl,rfl,rfl⟩
 ·intro W base args ds p hval hA
  rw [Tryz.params4] at hA hval
  obtain ⟨v0,vs0,d0,ds0,p0,q0,hargs,rfl,rfl,h0,r0⟩:=trodAll_cons hA
  obtain ⟨v1,vs1,d1,ds1,p1,q1,rfl,rfl,rfl,h1,r1⟩:=trodAll_cons r0
  obtain ⟨rfl,rfl,rfl⟩:=trodAll_nil r1
  obtain rfl:args=#[v0,v1]:=by cases args;simp_all
  obtain ⟨A0,n0,cap0,l0,rfl,k0⟩:=arg_slice (t:=tNode) Tryz.underlying22 opens_nodes (hval 0 22 v0 rfl rfl) h0
  obtain ⟨cs1,y1,rfl,k1⟩:=arg_struct (t:=tTensor) Tryz.underlying27 opens_tensor (hval 1 27 v1 rfl rfl) h1
  exact graphIdle_walk A0 n0 cap0 l0 k0 cs1 y1 k1 W rfl
theorem graphIdle_holds:Rows.GraphIdleSaid :=
 OpenClaim.holds_of_wide 4 Tryz.f4 rfl rfl rfl rfl rfl rfl rfl ⟨rfl,rfl,rfl,rfl,rfl⟩ rfl rfl rfl rfl rfl (by kernel_rfl) Tryz.func4 (by kernel_rfl)
  (of_decide_eq_true (by kernel_rfl)) (by unfold Func.isWrapper;rw [if_neg (of_decide_eq_false (by kernel_rfl))];exact ⟨rfl,rfl⟩)
  (fun os started H enc _=>graphIdle_lifted os started H enc)
#print axioms graphIdle_holds
end Go.Proofs.YtjkmjpjknmghlaaGreat
