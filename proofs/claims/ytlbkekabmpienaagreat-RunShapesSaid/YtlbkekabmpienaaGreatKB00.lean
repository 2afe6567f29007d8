/-
  The shape that a node makes (layers 18, 25): what they are, in numbers.
-/
import Derived.Test.YtlbkekabmpienaaGreatChecked
import Derived.Test.YtlbkekabmpienaaGreatJ06
import Derived.Test.YtlbkekabmpienaaGreatJ03
import Derived.Test.YtlbkekabmpienaaGreatJ08
import Derived.Test.YtlbkekabmpienaaGreatJ05
import Derived.Test.YtlbkekabmpienaaGreatJ00
import Derived.Test.YtlbkekabmpienaaGreatJ04
import Derived.Test.YtlbkekabmpienaaGreatJ02
import Derived.Test.YtlbkekabmpienaaGreatJ01
namespace Go.Proofs.YtlbkekabmpienaaGreat
set_option linter.unusedVariables false
set_option linter.unusedSimpArgs false
open Go.RowKit Go.ChangeShapes Go.WideShapes
set_option maxRecDepth 100000
def denseV (h v c:Int) (d:Node):ShE:=if elems h v c=0 ∨ elems 1 1 d.out=0 then noS 5
 else if ¬ (d.w.length:Int)=d.out*elems h v c ∨ 16384 < d.w.length ∨ ¬ (d.bias.length:Int)=d.out then noS 9 else ((1,1,d.out),0)
def aroundV (h v c p:Int):ShE:=if p < 0 ∨ 4 < p then noS 2 else if elems (h+2*p) (v+2*p) c=0 then noS 5 else ((h+2*p,v+2*p,c),0)
def plainV (k h v c h2 v2 c2 p:Int):ShE:=if elems h v c=0 then noS 5 else if k=6∧([h,v,c] == [h2,v2,c2])=false then noS 5
 else if k=8 then aroundV h v c p else if k=9 then ((1,1,elems h v c),0) else ((h,v,c),0)
/-- The shape that a node makes of two, and the error. -/
def shapeV (h v c h2 v2 c2:Int) (d:Node):ShE:=if d.kind=1 then convV h v c d else if d.kind=2 then depthV h v c d else if d.kind=3 then denseV h v c d
 else if d.kind=4 ∨ d.kind=5 then slideV h v c d.k d.s d.p c else plainV d.kind h v c h2 v2 c2 d.p
theorem elems_bd {h v c:Int} (e:¬ elems h v c=0):1≤h∧h≤16∧1≤v∧v≤16∧1≤c∧c≤1024:=by
 rw [elems_iff] at e
 split at e
 ·omega
 ·exact absurd rfl e
end Go.Proofs.YtlbkekabmpienaaGreat
