/- Two tensors joined (layer 20): the document's Of, the first tensor right. -/
import Derived.Test.YtbecbfpoahhpnaaGreatJ25
set_option linter.unusedVariables false
set_option linter.unusedSimpArgs false
set_option maxRecDepth 100000
set_option maxHeartbeats 16000000
namespace Go.Proofs.YtbecbfpoahhpnaaGreat
open Go.RowKit Go.ChangeShapes Go.WideShapes Fx Tryz
def jg (a b:ae) (d:af):ae × Int:=if b.ok=false then (ak,5) else if ([a.h,a.v,a.c] == [b.h,b.v,b.c])=false then (ak,5) else if aD d.qm d.qs=false then (ak,7) else if aD d.rm d.rs=false then (ak,7)
 else (⟨a.h,a.v,a.c,(List.range a.data.length).map fun i=>dK d (a.data.getD i 0) (b.data.getD i 0)⟩,0)
end Go.Proofs.YtbecbfpoahhpnaaGreat
