/-
  An empty row of a call's own.
  Conditions: none.
-/
import Derived.Test.YtcppkpcbfadapaaGreatExtend
import Derived.WalkSpells
import Derived.Lib.SliceRun
namespace Go.Proofs.YtcppkpcbfadapaaGreat
set_option linter.unusedVariables false
set_option linter.unusedSimpArgs false
open Go.RowKit Go.ChangeShapes Go.WideShapes
set_option maxRecDepth 100000

theorem Own.lit0 {W : World} {k : IntKind} {E : TypeId} {base : Nat} (hb : base ≤ W.heap.size) : Own (tInt k) (W.alloc (.cells #[] E)) (fun _ => False) base E (.slice (some ⟨W.heap.size, 0, none⟩) 0 0) 0 [] :=
  ⟨[], ⟨rfl, .inr ⟨_, 0, #[], rfl, hb, heap_alloc_new _ _, Nat.le_refl _, by decide, rfl, rfl⟩⟩, rfl⟩

end Go.Proofs.YtcppkpcbfadapaaGreat
