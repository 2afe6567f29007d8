/-
  'T{x}' of one struct: a block of its cells (a law for the operation, so that the walk need not run it).
  Conditions: at most 2^24 cells (over any program).
-/
import Derived.Test.YthnhknomjepijaaDoorRows2
set_option linter.unusedVariables false
set_option linter.unusedSimpArgs false
namespace Go.Proofs.YthnhknomjepijaaDoor
open Go Go.RowKit

theorem fold_putAt (off : Nat) : ∀ (l : List Value) (k : Nat) (cs : Array Value), (l.zipIdx k).foldl (fun cs (x : Value × Nat) => cs.setIfInBounds (off + x.2) x.1) cs = putAt cs (off + k) l
  | [], _, _ => rfl
  | v :: r, k, cs => by
    rw [List.zipIdx_cons, List.foldl_cons, fold_putAt off r (k + 1)]
    rfl
theorem fill_one (cells vs : Array Value) (size : Nat) (h1 : vs.size = size) (h2 : cells.size = size) : Instr.fill (fun i => some (i * size, size)) cells [(0, .agg vs)] = some vs := by
  have hv : (Value.agg vs).cells = vs := rfl
  unfold Instr.fill
  simp only [hv, Nat.zero_mul, Nat.zero_add]
  rw [if_neg (by simp; omega)]
  unfold Instr.fill
  have := fold_putAt 0 vs.toList 0 cells
  simp only [Nat.zero_add] at this
  rw [← Array.foldl_toList, Array.toList_zipIdx, this]
  congr 1
  exact putAt_full (by omega)

theorem run_lit1 {P : Program} {T E : TypeId} {z : Value} {size bytes : Nat} (w : World) (ei : EI P T E z size bytes) (vs : Array Value) (hvs : vs.size = size) (hsm : size ≤ 16777216) :
    (Instr.buildSlice T 1 #[(0, .agg vs)]).run P w = .ok (.slice (some ⟨w.heap.size, 0, none⟩) 1 1) (w.alloc (.cells vs E)) := by
  obtain ⟨i, hi, hz0, hz1, hz2⟩ := info_parts ei.hi
  have hp := ei.hp
  have hsz : (sizeOf E).run P w = .ok size w := by simp [sizeOf, typeInfo, hi, hz1]
  have hzv : (zeroValue E).run P w = .ok z w := by simp [zeroValue, typeInfo, hi, hz0]
  have hf := fill_one ((Array.range (1 * size)).map (z.cells[· % z.cells.size]!)) vs size hvs (by simp)
  have hnot : ¬ (1 * size > 2 ^ 24) := by omega
  have hnz : ¬ (1 * size = 0) := by omega
  unfold Instr.buildSlice
  simp only [Sem.run_bind, run_underlying ei.ht w, Result.andThen_ok, hsz, if_neg hnot, if_neg hnz, hzv, Sem.run_pure, hf, newRow, newObj]
  rfl

section
variable {P : Program} {ops : Array Oper} {rest : List Oper} {o : Oper} {a : Act} {w : World} {Q : Exit → Act → World → Prop} {T E : TypeId} {z : Value} {size bytes : Nat}
theorem wpList_lit1 (hgd : o.guard = none) (x : Operand) (ho : o.op = .buildSlice T 1 #[(0, x)]) (ei : EI P T E z size bytes) (vs : Array Value) (hx : a.eval x = .agg vs) (hvs : vs.size = size) (hsm : size ≤ 16777216)
    (h : wpList P ops Q rest (a.put o.dst (.slice (some ⟨w.heap.size, 0, none⟩) 1 1)) (w.alloc (.cells vs E))) : wpList P ops Q (o :: rest) a w := by
  refine wpList_plain hgd fun K hK => ?_
  unfold Oper.wp execOp
  simp only [ho, List.map_toArray, List.map_cons, List.map_nil, hx, Sem.run_bind, run_lit1 w ei vs hvs hsm, Sem.run_pure, Result.andThen_ok]
  exact hK _ _ h
end
end Go.Proofs.YthnhknomjepijaaDoor
