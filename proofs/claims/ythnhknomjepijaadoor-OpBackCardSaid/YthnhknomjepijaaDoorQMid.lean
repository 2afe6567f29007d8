/-
  A load of a part of a block, inside a region that draws its order and is walked once (quiet).
  Conditions: none (over any program).
-/
import Derived.Test.YthnhknomjepijaaDoorRows2
import Derived.BigQuiet
set_option linter.unusedVariables false
set_option linter.unusedSimpArgs false
namespace Go.Proofs.YthnhknomjepijaaDoor
open Go Go.RowKit

theorem range_blk {w : World} {g off : Nat} {e : TypeId} {cs : Array Value} {vs : List Value} (hb : Blk w g e cs) (hvs : (cs.toList.drop off).take vs.length = vs) : w.rangeAt g off vs := by
  intro j v hv
  rw [hb.cell]
  rw [← hvs, List.getElem?_take] at hv
  split at hv
  · rw [List.getElem?_drop] at hv
    simpa using hv
  · cases hv
theorem range_cells {w : World} {g base off : Nat} {cs : Array Value} {vs : List Value} (hb : ∀ j v, cs[j]? = some v → w.cell? ⟨g, base + j, none⟩ = some v) (hvs : (cs.toList.drop off).take vs.length = vs) : w.rangeAt g (base + off) vs := by
  intro j v hv
  rw [Nat.add_assoc]
  refine hb _ _ ?_
  rw [← hvs, List.getElem?_take] at hv
  split at hv
  · rw [List.getElem?_drop] at hv
    simpa using hv
  · cases hv

theorem wpQuiet_load_mid {P : Program} {ops : Array Oper} {C : World → Prop} {Q : Act → Prop} {a : Act} {o : Oper} {rest : List Oper} (hw : Region.wanted o (yielded ops a.tmps) = true) (ty : TypeId) (x : Operand) (ho : o.op = .load ty x)
    (b off : Nat) (hx : a.eval x = .pointer (some ⟨b, off, none⟩)) (cs : List Value) (d : TypeDesc) (hC : ∀ w, C w → w.rangeAt b off cs)
    (hu : P.underlying ty = some d) (hd : d.isRow = true) (hi : (P.info? ty).map (·.size) = some cs.length) (h : wpQuiet P ops C Q rest (a.put o.dst (.agg cs.toArray))) : wpQuiet P ops C Q (o :: rest) a :=
  BigFrame.wpQuiet_want hw fun K hK => ⟨.agg cs.toArray, fun w hw' => by
    unfold Oper.quietAt execOp
    simp only [ho, hx, Instr.loadAt, Instr.sureAddr, Sem.run_bind, Sem.run_pure, Result.andThen_ok, run_loadVar_mid w b off ty cs d (hC w hw') hu hd hi]
    exact ⟨rfl, rfl⟩, hK _ h⟩
end Go.Proofs.YthnhknomjepijaaDoor
