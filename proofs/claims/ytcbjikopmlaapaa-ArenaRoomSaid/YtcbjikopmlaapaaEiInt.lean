/-
  The elements of an []int.
  Conditions: none.
-/
import Derived.Test.YtcbjikopmlaapaaChecked
import Derived.Test.YtcbjikopmlaapaaOwn
namespace Go.Proofs.Ytcbjikopmlaapaa
open Go.RowKit Go.ChangeShapes Go.WideShapes
theorem ei_int : EI Try.prog 22 3 (.int .i64 0) 1 8 := ⟨Try.underlying22, by kernel_rfl, rfl, by decide⟩
end Go.Proofs.Ytcbjikopmlaapaa
