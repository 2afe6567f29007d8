/-
  THE STATEMENT WalkEnds: for every input the law returns true, and each argument reads behind the call as it did before.
  Conditions: none but the given row's own.
-/
import Derived.Test.YtbecbfpoahhpnaaGreatRows
import Derived.Test.YtbecbfpoahhpnaaGreatKB00
set_option linter.unusedVariables false
set_option linter.unusedSimpArgs false
set_option maxRecDepth 100000
set_option maxHeartbeats 16000000
namespace Go.Proofs.YtbecbfpoahhpnaaGreat
open Go.RowKit Go.ChangeShapes Go.WideShapes Go.Deep Go.ChangeAt Go.Proofs.Tryz
set_option maxRecDepth 100000 in
theorem Et (os:Os) (a:os.Started) (H:Type) (enc:TypeId × Value → H) :
  ReturnsInHanded {} Tryz.checked os 3 .any (Rows.walkEndsSpec.pre6 enc prog Tryz.f3 Rows.walkEndsRow.domain false) (Rows.walkEndsSpec.post enc prog Tryz.f3 false true false false):=by
 refine Bi (C:=Tryz.checked) (T:=4) kM a kM func3
  (ChangeSpec.witness6 (enc:=enc) (C:=Tryz.checked) false ⟨#[],#[.agg #[.int .i64 0,.int .i64 0,.int .i64 0,.int .i64 0,.slice none 0 0],.agg (tN 0 0 0 none 0 0)],[]⟩ 8 kM kM kM kM)
  kM kM rfl underlying4 rfl ?_ ?_
 ·intro r i
  match r,i with
  | [m,f],_=>exact ⟨rfl,rfl,rfl⟩
 ·intro W base o r p e d;rw [params3] at d e;obtain ⟨l,j,m,w,A,D,h,rfl,rfl,v,g⟩:=trodAll_cons d;obtain ⟨c,q,f,y,B,E,rfl,rfl,rfl,b,k⟩:=trodAll_cons g;obtain ⟨rfl,rfl,rfl⟩:=trodAll_nil k;obtain rfl:o=#[l,c]:=by cases o;simp_all
  obtain ⟨n,x,rfl,k0⟩:=wj (t:=Ed) underlying26 yZ (e 0 26 l rfl rfl) v;obtain ⟨s,z,rfl,k1⟩:=wj (t:=Ds) underlying29 tU (e 1 29 c rfl rfl) b;exact Eu n x k0 s z k1 W rfl
theorem band {a b:Bool} (h:a=true) (k:b=true):(a && b)=true:=by rw [h,k];rfl
theorem Es:joinedFacts Tryz.checked.prog 3 Tryz.f3 Rows.walkEndsSpec Rows.walkEndsRow=true:=by
 unfold joinedFacts;simp only [Bool.and_eq_true];and_intros;all_goals (as_aux_lemma=>kernel_rfl)
theorem walkEnds_holds:Rows.WalkEndsSaid :=
 OpenClaim.holds_of_wide 3 Tryz.f3 rfl rfl rfl rfl rfl rfl rfl ⟨rfl,rfl,rfl,rfl,rfl⟩ rfl rfl rfl rfl rfl kM func3 Es
  (of_decide_eq_true kM) (by unfold Func.isWrapper;rw [if_neg (of_decide_eq_false kM)];exact ⟨rfl,rfl⟩)
  (fun os e H enc _=>Et os e H enc)
#print axioms walkEnds_holds
end Go.Proofs.YtbecbfpoahhpnaaGreat
