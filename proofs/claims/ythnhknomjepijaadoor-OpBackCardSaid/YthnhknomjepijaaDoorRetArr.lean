/-
  An array is handed back (parted off from CrcC).
-/
import Derived.Test.YthnhknomjepijaaDoorChecked
import Derived.Test.YthnhknomjepijaaDoorRows2
namespace Go.Proofs.YthnhknomjepijaaDoor
set_option linter.unusedVariables false
set_option linter.unusedSimpArgs false
open Go.RowKit Go.ChangeShapes Go.WideShapes
/-- An array is handed back. -/
theorem ret_array {P : Program} {fn : Func} {R : Ending → World → Prop} {a : Act} {w : World} {g : Nat} {e ty el : TypeId} {n : Nat} {cs : Array Value} {p : Tmp} (h : fn.results = #[.cell p ty]) (hb : Blk w g e cs) (hp : a.tmps.getD p undef = .pointer (some ⟨g, 0, none⟩)) (hu : P.underlying ty = some (.array n el)) (hi : (P.info? ty).map (·.size) = some cs.size) (hd : a.defers = [])
    (hR : R (.returned (.agg cs)) w) : bodyPost P fn R .ret a w := by
  refine bodyPost_ret (v := .agg cs) ?_ hd hR
  simp only [results, h]
  have hp' : a.tmps[p]?.getD undef = .pointer (some ⟨g, 0, none⟩) := by simpa using hp
  simp [Sem.run_bind, hp', run_asAddr_ptr, run_loadVar_row w g e ty cs (0, 0) (.array n el) hb.heap hu rfl hi, Result.andThen]
end Go.Proofs.YthnhknomjepijaaDoor
