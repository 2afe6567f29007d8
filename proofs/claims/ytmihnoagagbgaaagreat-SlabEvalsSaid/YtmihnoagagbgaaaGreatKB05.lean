/-
  THE STATEMENT SlabEvals: for every input the law returns true, and each argument reads behind the call as it did before.
  Conditions: none but the given row's own.
-/
import Derived.Test.YtmihnoagagbgaaaGreatRows
import Derived.Test.YtmihnoagagbgaaaGreatKB04
set_option linter.unusedVariables false
set_option linter.unusedSimpArgs false
set_option maxRecDepth 100000
set_option maxHeartbeats 16000000
namespace Go.Proofs.YtmihnoagagbgaaaGreat
open Go.RowKit Go.ChangeShapes Go.WideShapes Go.Deep Go.ChangeAt Go.Proofs.Tryz
set_option maxRecDepth 100000
set_option maxHeartbeats 16000000
set_option maxRecDepth 100000 in
theorem uM (os:Os) (started:os.Started) (H:Type) (enc:TypeId × Value → H) :
  ReturnsInHanded {} Tryz.checked os 3 .any (Rows.slabEvalsSpec.pre6 enc prog Tryz.f3 Rows.slabEvalsRow.domain false) (Rows.slabEvalsSpec.post enc prog Tryz.f3 false true false false):=by
 refine sp (C:=Tryz.checked) (T:=4) kM started kM func3
  (ChangeSpec.witness6 (enc:=enc) (C:=Tryz.checked) false ⟨#[],#[.slice none 0 0,.agg (tN 0 0 0 none 0 0)],[]⟩ 8 kM kM kM kM)
  kM kM rfl underlying4 rfl ?_ ?_
 ·intro ds hlen
  match ds,hlen with
  | [d0,d1],_=>exact ⟨rfl,rfl,rfl⟩
 ·intro W base args ds p hval hA
  rw [params3] at hA hval
  obtain ⟨v0,vs0,d0,ds0,p0,q0,hargs,rfl,rfl,h0,r0⟩:=trodAll_cons hA
  obtain ⟨v1,vs1,d1,ds1,p1,q1,rfl,rfl,rfl,h1,r1⟩:=trodAll_cons r0
  obtain ⟨rfl,rfl,rfl⟩:=trodAll_nil r1
  obtain rfl:args=#[v0,v1]:=by cases args;simp_all
  obtain ⟨A0,n0,cap0,l0,rfl,k0⟩:=qA (t:=ee) underlying22 nM (hval 0 22 v0 rfl rfl) h0
  obtain ⟨cs1,y1,rfl,k1⟩:=o6 (t:=dE) underlying27 mm (hval 1 27 v1 rfl rfl) h1
  exact uO A0 n0 cap0 l0 k0 cs1 y1 k1 W rfl
theorem band {a b:Bool} (h:a=true) (k:b=true):(a && b)=true:=by rw [h,k];rfl
theorem uL:joinedFacts Tryz.checked.prog 3 Tryz.f3 Rows.slabEvalsSpec Rows.slabEvalsRow=true:=by
 unfold joinedFacts
 simp only [Bool.and_eq_true]
 and_intros
 all_goals (as_aux_lemma=>kernel_rfl)
theorem slabEvals_holds:Rows.SlabEvalsSaid :=
 OpenClaim.holds_of_wide 3 Tryz.f3 rfl rfl rfl rfl rfl rfl rfl ⟨rfl,rfl,rfl,rfl,rfl⟩ rfl rfl rfl rfl rfl kM func3 uL
  (of_decide_eq_true kM) (by unfold Func.isWrapper;rw [if_neg (of_decide_eq_false kM)];exact ⟨rfl,rfl⟩)
  (fun os started H enc _=>uM os started H enc)
#print axioms slabEvals_holds
end Go.Proofs.YtmihnoagagbgaaaGreat
