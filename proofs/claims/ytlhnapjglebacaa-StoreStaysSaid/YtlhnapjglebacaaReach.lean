/-
  Tensors and rows of numbers opened together with the form's own reach.
  Conditions: none.
-/
import Derived.Test.YtlhnapjglebacaaChecked
import Derived.Test.YtlhnapjglebacaaNode
import Derived.Test.YtlhnapjglebacaaSized
namespace Go.Proofs.Ytlhnapjglebacaa
set_option linter.unusedVariables false
set_option linter.unusedSimpArgs false
open Go.RowKit Go.ChangeShapes Go.WideShapes
set_option maxRecDepth 100000

theorem reach_num : reachBytes = 140737488351232 := by decide
theorem opensW_i8s : OpensW Try.prog 29 (tSlice (tInt .i8)) (fun l => l.length ≤ 140737488351232) :=
  (opensW_slice Try.underlying29 (by kernel_rfl) (by decide) (opens_int Try.underlying31 (by kernel_rfl)).w).mono fun l h => by
    have h1 := h.1
    rw [show Try.prog.bytesOf 31 = 1 by kernel_rfl, reach_num] at h1
    omega
theorem opensW_i32s : OpensW Try.prog 30 (tSlice (tInt .i32)) (fun l => l.length ≤ 35184372087808) :=
  (opensW_slice Try.underlying30 (by kernel_rfl) (by decide) (opens_int Try.underlying21 (by kernel_rfl)).w).mono fun l h => by
    have h1 := h.1
    rw [show Try.prog.bytesOf 21 = 4 by kernel_rfl, reach_num] at h1
    omega
theorem opensW_tensor : OpensW Try.prog 56 tTensor (fun t => t.data.length ≤ 140737488351232) :=
  opensW_map _ (opensW_struct Try.underlying56 (by kernel_rfl) (opensFromW_cons rfl opens_shape.w (opensFromW_last rfl opensW_i8s))) (fun x h => h.2)
end Go.Proofs.Ytlhnapjglebacaa
