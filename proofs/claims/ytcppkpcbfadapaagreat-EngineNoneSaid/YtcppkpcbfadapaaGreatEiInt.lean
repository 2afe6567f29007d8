/-
  The elements of an []int.
  Conditions: none.
-/
import Derived.Test.YtcppkpcbfadapaaGreatChecked
import Derived.Test.YtcppkpcbfadapaaGreatOwn
namespace Go.Proofs.YtcppkpcbfadapaaGreat
open Go.RowKit Go.ChangeShapes Go.WideShapes
theorem ei_int : EI Tryz.prog 45 3 (.int .i64 0) 1 8 := ⟨Tryz.underlying45, by kernel_rfl, rfl, by decide⟩
end Go.Proofs.YtcppkpcbfadapaaGreat
