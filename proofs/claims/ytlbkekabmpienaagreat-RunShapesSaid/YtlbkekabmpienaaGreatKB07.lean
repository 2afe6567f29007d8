/-
  The shape that a node makes (layers 18, 25): the document's Shape, put together.
-/
import Derived.Test.YtlbkekabmpienaaGreatChecked
import Derived.Test.YtlbkekabmpienaaGreatJ06
import Derived.Test.YtlbkekabmpienaaGreatJ03
import Derived.Test.YtlbkekabmpienaaGreatJ08
import Derived.Test.YtlbkekabmpienaaGreatKB00
import Derived.Test.YtlbkekabmpienaaGreatKB03
import Derived.Test.YtlbkekabmpienaaGreatKB04
import Derived.Test.YtlbkekabmpienaaGreatKB05
import Derived.Test.YtlbkekabmpienaaGreatKB06
import Derived.Test.YtlbkekabmpienaaGreatJ00
import Derived.Test.YtlbkekabmpienaaGreatJ04
import Derived.Test.YtlbkekabmpienaaGreatJ11
import Derived.Test.YtlbkekabmpienaaGreatJ12
import Derived.Test.YtlbkekabmpienaaGreatKB02
import Derived.Test.YtlbkekabmpienaaGreatJ02
import Derived.Test.YtlbkekabmpienaaGreatJ01
namespace Go.Proofs.YtlbkekabmpienaaGreat
set_option linter.unusedVariables false
set_option linter.unusedSimpArgs false
open Go.RowKit Go.ChangeShapes Go.WideShapes
set_option maxRecDepth 100000
theorem rkshape_any (h v c h2 v2 c2:Int) (d:Node) (W:Option Addr) (nw cw:Nat) (B:Option Addr) (nb cb:Nat) (w:World) (i0:InK .i64 h) (i1:InK .i64 v) (i2:InK .i64 c) (hout:InK .i64 d.out) (hp:InK .i64 d.p) (hnw:nw=d.w.length) (hnb:nb=d.bias.length) (mw:nw≤1048576) (mb:nb≤1048576) (hk:1≤d.kind∧d.kind≤9) :
  Calls Tryz.prog 14 #[.agg #[.int .i64 d.kind,.int .i64 d.a,.int .i64 d.b,.int .i64 d.k,.int .i64 d.s,.int .i64 d.p,.int .i64 d.out,.int .i8 d.za,.int .i8 d.zb,.slice W nw cw,.slice B nb cb,.int .i32 d.qm,.int .i64 d.qs,.int .i8 d.qz,.int .i32 d.rm,.int .i64 d.rs,.int .i8 d.rz,.int .i8 d.lo,.int .i8 d.hi],.agg #[.int .i64 h,.int .i64 v,.int .i64 c],.agg #[.int .i64 h2,.int .i64 v2,.int .i64 c2]] w fun e w'=>e=retS (shapeV h v c h2 v2 c2 d)∧Below w.heap.size w w':=by
 rcases (show d.kind=1 ∨ d.kind=2 ∨ d.kind=3 ∨ d.kind=4 ∨ d.kind=5 ∨ d.kind=6 ∨ d.kind=7 ∨ d.kind=8 ∨ d.kind=9 by omega) with e|e|e|e|e|e|e|e|e
 ·exact rkshape_any_1 h v c h2 v2 c2 d W nw cw B nb cb w i0 i1 i2 hout hp hnw hnb mw mb e
 ·exact rkshape_any_2 h v c h2 v2 c2 d W nw cw B nb cb w i0 i1 i2 hout hp hnw hnb mw mb e
 ·exact rkshape_any_3 h v c h2 v2 c2 d W nw cw B nb cb w i0 i1 i2 hout hp hnw hnb mw mb e
 ·exact rkshape_any_4 h v c h2 v2 c2 d W nw cw B nb cb w i0 i1 i2 hout hp hnw hnb mw mb e
 ·exact rkshape_any_5 h v c h2 v2 c2 d W nw cw B nb cb w i0 i1 i2 hout hp hnw hnb mw mb e
 ·exact rkshape_any_6 h v c h2 v2 c2 d W nw cw B nb cb w i0 i1 i2 hout hp hnw hnb mw mb e
 ·exact rkshape_any_7 h v c h2 v2 c2 d W nw cw B nb cb w i0 i1 i2 hout hp hnw hnb mw mb e
 ·exact rkshape_any_8 h v c h2 v2 c2 d W nw cw B nb cb w i0 i1 i2 hout hp hnw hnb mw mb e
 ·exact rkshape_any_9 h v c h2 v2 c2 d W nw cw B nb cb w i0 i1 i2 hout hp hnw hnb mw mb e
end Go.Proofs.YtlbkekabmpienaaGreat
