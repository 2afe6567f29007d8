/-
  THE STATEMENT RunShapes: for every input the law returns true, and each argument reads behind the call as it did before.
  Conditions: none but the given row's own.
-/
import Derived.Test.YtlbkekabmpienaaGreatRows
import Derived.Test.YtlbkekabmpienaaGreatKB08
import Derived.Test.YtlbkekabmpienaaGreatJ03
import Derived.Test.YtlbkekabmpienaaGreatJ00
import Derived.Test.YtlbkekabmpienaaGreatJ41
import Derived.Test.YtlbkekabmpienaaGreatKB01
import Derived.Test.YtlbkekabmpienaaGreatKB07
import Derived.Test.YtlbkekabmpienaaGreatJ20
import Derived.Test.YtlbkekabmpienaaGreatJ06
import Derived.Test.YtlbkekabmpienaaGreatJ08
import Derived.Test.YtlbkekabmpienaaGreatKB00
import Derived.Test.YtlbkekabmpienaaGreatKB03
import Derived.Test.YtlbkekabmpienaaGreatKB04
import Derived.Test.YtlbkekabmpienaaGreatKB05
import Derived.Test.YtlbkekabmpienaaGreatKB06
import Derived.Test.YtlbkekabmpienaaGreatJ28
import Derived.Test.YtlbkekabmpienaaGreatJ09
import Derived.Test.YtlbkekabmpienaaGreatJ01
import Derived.Test.YtlbkekabmpienaaGreatJ29
import Derived.Test.YtlbkekabmpienaaGreatJ31
import Derived.Test.YtlbkekabmpienaaGreatJ32
import Derived.Test.YtlbkekabmpienaaGreatJ34
import Derived.Test.YtlbkekabmpienaaGreatJ40
import Derived.Test.YtlbkekabmpienaaGreatJ04
import Derived.Test.YtlbkekabmpienaaGreatJ11
import Derived.Test.YtlbkekabmpienaaGreatJ12
import Derived.Test.YtlbkekabmpienaaGreatKB02
import Derived.Test.YtlbkekabmpienaaGreatJ19
import Derived.Test.YtlbkekabmpienaaGreatJ16
import Derived.Test.YtlbkekabmpienaaGreatJ27
import Derived.Test.YtlbkekabmpienaaGreatJ30
import Derived.Test.YtlbkekabmpienaaGreatJ26
import Derived.Test.YtlbkekabmpienaaGreatJ35
import Derived.Test.YtlbkekabmpienaaGreatJ36
import Derived.Test.YtlbkekabmpienaaGreatJ07
import Derived.Test.YtlbkekabmpienaaGreatJ05
import Derived.Test.YtlbkekabmpienaaGreatJ25
import Derived.Test.YtlbkekabmpienaaGreatJ23
import Derived.Test.YtlbkekabmpienaaGreatJ33
import Derived.Test.YtlbkekabmpienaaGreatJ18
import Derived.Test.YtlbkekabmpienaaGreatJ37
import Derived.Test.YtlbkekabmpienaaGreatJ38
import Derived.Test.YtlbkekabmpienaaGreatJ39
import Derived.Test.YtlbkekabmpienaaGreatJ14
import Derived.Test.YtlbkekabmpienaaGreatJ24
import Derived.Test.YtlbkekabmpienaaGreatJ15
import Derived.Test.YtlbkekabmpienaaGreatJ02
import Derived.Test.YtlbkekabmpienaaGreatJ21
import Derived.Test.YtlbkekabmpienaaGreatJ22
import Derived.Test.YtlbkekabmpienaaGreatJ10
import Derived.Test.YtlbkekabmpienaaGreatJ13
import Derived.Test.YtlbkekabmpienaaGreatJ17
namespace Go.Proofs.YtlbkekabmpienaaGreat
set_option linter.unusedVariables false
set_option linter.unusedSimpArgs false
open Go.RowKit Go.ChangeShapes Go.WideShapes Go.Deep Go.ChangeAt
set_option maxRecDepth 100000 in
theorem runShapes_lifted (os:Os) (started:os.Started) (H:Type) (enc:TypeId × Value → H) :
  ReturnsInHanded {} Tryz.checked os 4 .any (Rows.runShapesSpec.pre6 enc Tryz.prog Tryz.f4 Rows.runShapesRow.domain false) (Rows.runShapesSpec.post enc Tryz.prog Tryz.f4 false true false false):=by
 refine law_lift (C:=Tryz.checked) (T:=4) (by kernel_rfl) started (by kernel_rfl) Tryz.func4
  (ChangeSpec.witness6 (enc:=enc) (C:=Tryz.checked) false ⟨#[],#[.agg #[.int .i64 0,.int .i64 0,.int .i64 0,.int .i64 0,.int .i64 0,.int .i64 0,.int .i64 0,.int .i8 0,.int .i8 0,.slice none 0 0,.slice none 0 0,.int .i32 0,.int .i64 0,.int .i8 0,.int .i32 0,.int .i64 0,.int .i8 0,.int .i8 0,.int .i8 0],.agg #[.int .i64 0,.int .i64 0,.int .i64 0,.slice none 0 0],.agg #[.int .i64 0,.int .i64 0,.int .i64 0,.slice none 0 0]],[]⟩ 8 (by kernel_rfl) (by kernel_rfl) (by kernel_rfl) (by kernel_rfl))
  (by kernel_rfl) (by kernel_rfl) rfl Tryz.underlying4 rfl ?_ ?_
 ·intro ds hlen
  match ds,hlen with
  | [d0,d1,d2],_=>exact ⟨rfl,rfl,rfl⟩
 ·intro W base args ds p hval hA
  rw [Tryz.params4] at hA hval
  obtain ⟨v0,vs0,d0,ds0,p0,q0,hargs,rfl,rfl,h0,r0⟩:=trodAll_cons hA
  obtain ⟨v1,vs1,d1,ds1,p1,q1,rfl,rfl,rfl,h1,r1⟩:=trodAll_cons r0
  obtain ⟨v2,vs2,d2,ds2,p2,q2,rfl,rfl,rfl,h2,r2⟩:=trodAll_cons r1
  obtain ⟨rfl,rfl,rfl⟩:=trodAll_nil r2
  obtain rfl:args=#[v0,v1,v2]:=by cases args;simp_all
  obtain ⟨cs0,y0,rfl,k0⟩:=arg_struct (t:=tNode) Tryz.underlying28 opens_node (hval 0 28 v0 rfl rfl) h0
  obtain ⟨cs1,y1,rfl,k1⟩:=arg_struct (t:=tTensor) Tryz.underlying32 opens_tensor (hval 1 32 v1 rfl rfl) h1
  obtain ⟨cs2,y2,rfl,k2⟩:=arg_struct (t:=tTensor) Tryz.underlying32 opens_tensor (hval 2 32 v2 rfl rfl) h2
  exact runShapes_walk cs0 y0 k0 cs1 y1 k1 cs2 y2 k2 W rfl
theorem runShapes_holds:Rows.RunShapesSaid :=
 OpenClaim.holds_of_wide 4 Tryz.f4 rfl rfl rfl rfl rfl rfl rfl ⟨rfl,rfl,rfl,rfl,rfl⟩ rfl rfl rfl rfl rfl (by kernel_rfl) Tryz.func4 (by kernel_rfl)
  (of_decide_eq_true (by kernel_rfl)) (by unfold Func.isWrapper;rw [if_neg (of_decide_eq_false (by kernel_rfl))];exact ⟨rfl,rfl⟩)
  (fun os started H enc _=>runShapes_lifted os started H enc)
#print axioms runShapes_holds
end Go.Proofs.YtlbkekabmpienaaGreat
