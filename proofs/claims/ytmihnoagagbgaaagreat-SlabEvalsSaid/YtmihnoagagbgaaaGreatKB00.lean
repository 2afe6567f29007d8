/-
  A region that draws its order and ends in a forced tail: ahead of the tail's first operation a condition on the world is kept, so that loads may be taken first; from it on nothing is asked.
  A block in one piece of room (layer 29), as plain lists: what is still needed stays where it is.
-/
import Derived.Test.YtmihnoagagbgaaaGreatJ48
set_option linter.unusedVariables false
set_option linter.unusedSimpArgs false
set_option maxRecDepth 100000
set_option maxHeartbeats 16000000
namespace Go.Proofs.YtmihnoagagbgaaaGreat
open Go Tryz
set_option maxRecDepth 100000
set_option maxHeartbeats 16000000
section
variable {P:Program} {ops:Array Oper} {Q:Exit → Act → World → Prop} {md:Region.Mode} {C:World → Prop} {k0:Nat}
/-- The same, behind operations that were taken first. -/
theorem wpAny_enterT {fuel:Nat} {listed:Array Bool} {a:Act} {w:World} (C:World → Prop) (k0:Nat) (hS:C w) (h:C w → aX P md ops Q C k0 fuel listed a w):wpAny P md ops Q fuel listed a w :=
 gW _ _ _ _ (h hS)
end
end Go.Proofs.YtmihnoagagbgaaaGreat
namespace Go.Proofs.YtmihnoagagbgaaaGreat
open Go Go.Proofs.YtmihnoagagbgaaaGreat.Ar Tryz
set_option maxRecDepth 100000
set_option maxHeartbeats 16000000
def uC (l:List af) (x:ae):ae × Int × Int :=
 if x.ok=false then (aj,-1,5) else if ¬ (bh l (x.h,x.v,x.c)).2.2=0 then (aj,(bh l (x.h,x.v,x.c)).2.1,(bh l (x.h,x.v,x.c)).2.2)
 else match gw l x l.length with
  | .on out=>(out.getD l.length aj,(l.length:Int),0)
  | .bad i e=>(aj,(i:Int),e)
end Go.Proofs.YtmihnoagagbgaaaGreat
