/-
  Lists alike, element by element.
  Conditions: none.
-/
import Derived.Test.YthnhknomjepijaaDoorRep
namespace Go.Proofs.YthnhknomjepijaaDoor
theorem list_eq_getD {l l' : List Int} {n : Nat} (h1 : l.length = n) (h2 : l'.length = n) (h : ∀ j, j < n → l.getD j 0 = l'.getD j 0) : l = l' := by
  apply List.ext_getElem (by omega)
  intro j ha hb
  have := h j (by omega)
  rw [List.getD_eq_getElem?_getD, List.getD_eq_getElem?_getD, List.getElem?_eq_getElem ha, List.getElem?_eq_getElem hb] at this
  exact this

end Go.Proofs.YthnhknomjepijaaDoor
