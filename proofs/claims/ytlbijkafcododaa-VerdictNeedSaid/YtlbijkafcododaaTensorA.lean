/-
  tensor (layer 5): what a right tensor is.
  Conditions: none.
-/
import Derived.Test.YtlbijkafcododaaShapeA
set_option linter.unusedVariables false
set_option linter.unusedSimpArgs false
namespace Go.Proofs.Ytlbijkafcododaa
open Go.RowKit Go.ChangeShapes Go.WideShapes
set_option maxRecDepth 100000

/-- Is a tensor right? -/
def Tensor.ok (t : Tensor) : Bool := decide (0 < elems t.h t.v t.c ∧ elems t.h t.v t.c = t.data.length)

theorem Sl.far {α : Type} {t : Ty α} {w : World} {S : Nat → Prop} {A : Option Addr} {n cap : Nat} {l : List α} (h : Sl t w S A n cap l) (p : Addr) (u : Value) (hp : ∀ b, S b → b ≠ p.block) : Sl t (w.setCell p u) S A n cap l :=
  h.keep fun b hb => Below.heap_setCell w p u b (hp b hb)

end Go.Proofs.Ytlbijkafcododaa
