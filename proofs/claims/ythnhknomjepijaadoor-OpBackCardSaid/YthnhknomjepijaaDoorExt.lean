/-
  A region that draws its order and whose operations read, or call what only makes memory: one walk of the text's order serves every order (the kit's theorem on quiet regions, at the class 'old memory is as it was').
  Conditions: none (over any program).
-/
import Derived.Test.YthnhknomjepijaaDoorOwn
set_option linter.unusedVariables false
set_option linter.unusedSimpArgs false
namespace Go.Proofs.YthnhknomjepijaaDoor
open Go.RowKit

/-- The worlds in which all that lies in w0 is as it was. -/
def Ext (w0 : World) : Type := { w : World // Below w0.heap.size w0 w }
def Ext.here (w0 : World) : Ext w0 := ⟨w0, Below.refl _ _⟩
instance (w0 : World) : Nonempty (Ext w0) := ⟨Ext.here w0⟩

section
variable {P : Program} {w0 : World}

theorem wp_region_ext {id : Nat} {Q : Exit → Act → World → Prop} {a : Act} {w : World} {l : List Oper} (w0 : World) (hm : P.follows .mixedOrders = true) (hB : Region.lexB .any l.toArray = true) (h0 : Below w0.heap.size w0 w)
    (h : wpQuiet P l.toArray (fun w' => ∃ x : Ext w0, w' = x.1) (fun a' => ∀ w', (∃ x : Ext w0, w' = x.1) → Q .normal a' w') l a) : (Code.region id l.toArray true).wp P Q a w :=
  wp_region_quiet (C := fun w' => ∃ x : Ext w0, w' = x.1) hm hB ⟨⟨w.drew, h0.drew⟩, rfl⟩ (by simpa using h)

theorem calls_ext {f : FuncId} {args : Array Value} {v : Value} (x : Ext w0) (h : Calls P f args x.1 fun e w' => e = .returned v ∧ Below x.1.heap.size x.1 w') :
    Calls P f args x.1 fun e w'' => e = .returned v ∧ ∃ y : Ext w0, w'' = y.1 :=
  h.mono fun e w' ⟨he, hb⟩ => ⟨he, ⟨w', x.2.trans (hb.mono x.2.size)⟩, rfl⟩

theorem ext_cell {p : Addr} {v : Value} (h : w0.cell? p = some v) (x : Ext w0) : x.1.cell? p = some v := (x.2.cell (World.block_lt_of_cell? w0 _ h)).trans h
theorem Blk.ext {g : Nat} {e : TypeId} {cs : Array Value} (h : Blk w0 g e cs) (x : Ext w0) : Blk x.1 g e cs := h.later x.2
end
end Go.Proofs.YthnhknomjepijaaDoor
