/-
  '!=' of two structs in a region that only reads; a literal slice of several structs (laws for the operations).
  Conditions: none (over any program).
-/
import Derived.Test.YthnhknomjepijaaDoorEqArr
import Derived.Test.YthnhknomjepijaaDoorQMid
import Derived.Test.YthnhknomjepijaaDoorLit1
namespace Go.Proofs.YthnhknomjepijaaDoor
set_option linter.unusedVariables false
set_option linter.unusedSimpArgs false
open Go Go.RowKit

theorem wpQuiet_neq_agg {P : Program} {ops : Array Oper} {C : World → Prop} {Q : Act → Prop} {a : Act} {o : Oper} {rest : List Oper} (hw : Region.wanted o (yielded ops a.tmps) = true) (t u : TypeId) (x y : Operand) (ho : o.op = .binOp .neq t x y u)
    (xs ys : Array Value) (hx : a.eval x = .agg xs) (hy : a.eval y = .agg ys) (hm : P.eqGuardType P.depth t = false) (b : Bool) (hrun : ∀ w, (Op.equalIn 10000 t (.agg xs) (.agg ys)).run P w = .ok b w)
    (h : wpQuiet P ops C Q rest (a.put o.dst (.bool (!b)))) : wpQuiet P ops C Q (o :: rest) a :=
  BigFrame.wpQuiet_want hw fun K hK => ⟨.bool (!b), fun w hw' => by
    unfold Oper.quietAt execOp
    simp only [ho, hx, hy, Sem.run_bind, fun w => run_eqGuard_agg (P := P) w .neq t x y xs ys hm, run_neq_struct, hrun, Result.andThen_ok, Sem.run_pure]
    exact ⟨rfl, rfl⟩, hK _ h⟩

theorem wpList_load_midw {P : Program} {ops : Array Oper} {rest : List Oper} {o : Oper} {a : Act} {w : World} {Q : Exit → Act → World → Prop} (hw : Region.wanted o (yielded ops a.tmps) = true) (ty : TypeId) (x : Operand) (ho : o.op = .load ty x)
    (b off : Nat) (hx : a.eval x = .pointer (some ⟨b, off, none⟩)) (cs : List Value) (d : TypeDesc) (hC : w.rangeAt b off cs)
    (hu : P.underlying ty = some d) (hd : d.isRow = true) (hi : (P.info? ty).map (·.size) = some cs.length) (h : wpList P ops Q rest (a.put o.dst (.agg cs.toArray)) w) : wpList P ops Q (o :: rest) a w := by
  refine BigFrame.wpList_want hw fun K hK => ?_
  unfold Oper.wp execOp
  simp only [ho, hx, Instr.loadAt, Instr.sureAddr, Sem.run_bind, Sem.run_pure, Result.andThen_ok, run_loadVar_mid w b off ty cs d hC hu hd hi]
  exact hK _ _ h

theorem run_lits {P : Program} {T E : TypeId} {z : Value} {size bytes : Nat} (w : World) (ei : EI P T E z size bytes) (n : Nat) (ps : Array (Nat × Value)) (vs : Array Value) (h0 : 0 < n * size) (hsm : n * size ≤ 16777216)
    (hf : Instr.fill (fun i => some (i * size, size)) ((Array.range (n * size)).map (z.cells[· % z.cells.size]!)) ps.toList = some vs) :
    (Instr.buildSlice T n ps).run P w = .ok (.slice (some ⟨w.heap.size, 0, none⟩) n n) (w.alloc (.cells vs E)) := by
  obtain ⟨i, hi, hz0, hz1, hz2⟩ := info_parts ei.hi
  have hsz : (sizeOf E).run P w = .ok size w := by simp [sizeOf, typeInfo, hi, hz1]
  have hzv : (zeroValue E).run P w = .ok z w := by simp [zeroValue, typeInfo, hi, hz0]
  have hnot : ¬ (n * size > 2 ^ 24) := by omega
  have hnz : ¬ (n * size = 0) := by omega
  unfold Instr.buildSlice
  simp only [Sem.run_bind, run_underlying ei.ht w, Result.andThen_ok, hsz, if_neg hnot, if_neg hnz, hzv, Sem.run_pure, hf, newRow, newObj]
  rfl

section
variable {P : Program} {ops : Array Oper} {rest : List Oper} {o : Oper} {a : Act} {w : World} {Q : Exit → Act → World → Prop} {T E : TypeId} {z : Value} {size bytes : Nat}
theorem rangeAt_later {w w' : World} {b off : Nat} {cs : List Value} (h : w.rangeAt b off cs) (hb : Below w.heap.size w w') : w'.rangeAt b off cs := fun j v hv => (hb.cell (World.block_lt_of_cell? w _ (h j v hv))).trans (h j v hv)
theorem wpList_lit2 (hgd : o.guard = none) (x y : Operand) (ho : o.op = .buildSlice T 2 #[(0, x), (1, y)]) (ei : EI P T E z size bytes) (u v : Value) (hx : a.eval x = u) (hy : a.eval y = v) (vs : Array Value) (h0 : 0 < 2 * size) (hsm : 2 * size ≤ 16777216)
    (hf : Instr.fill (fun i => some (i * size, size)) ((Array.range (2 * size)).map (z.cells[· % z.cells.size]!)) [(0, u), (1, v)] = some vs)
    (h : wpList P ops Q rest (a.put o.dst (.slice (some ⟨w.heap.size, 0, none⟩) 2 2)) (w.alloc (.cells vs E))) : wpList P ops Q (o :: rest) a w := by
  refine wpList_plain hgd fun K hK => ?_
  unfold Oper.wp execOp
  simp only [ho, List.map_toArray, List.map_cons, List.map_nil, hx, hy, Sem.run_bind, run_lits w ei 2 #[(0, u), (1, v)] vs h0 hsm hf, Sem.run_pure, Result.andThen_ok]
  exact hK _ _ h
end
end Go.Proofs.YthnhknomjepijaaDoor
