/-
  '!=' of two structs in a region that only reads; a literal slice of several structs (laws for the operations).
  Conditions: none (over any program).
  Four bytes of a number of 32 digits (layer 8): octet.Put32, the document's Put32.
  Conditions: numbers below 2^32.
-/
import Derived.Test.YtanglfmolnfjeaaJ16
import Derived.Test.YtanglfmolnfjeaaJ18
import Derived.Test.YtanglfmolnfjeaaChecked
import Derived.Test.YtanglfmolnfjeaaJ08
namespace Go.Proofs.Ytanglfmolnfjeaa
set_option linter.unusedVariables false
set_option linter.unusedSimpArgs false
open Go Go.RowKit

theorem wpQuiet_neq_agg {P : Program} {ops : Array Oper} {C : World → Prop} {Q : Act → Prop} {a : Act} {o : Oper} {rest : List Oper} (hw : Region.wanted o (yielded ops a.tmps) = true) (t u : TypeId) (x y : Operand) (ho : o.op = .binOp .neq t x y u)
    (xs ys : Array Value) (hx : a.eval x = .agg xs) (hy : a.eval y = .agg ys) (hm : P.eqGuardType P.depth t = false) (b : Bool) (hrun : ∀ w, (Op.equalIn 10000 t (.agg xs) (.agg ys)).run P w = .ok b w)
    (h : wpQuiet P ops C Q rest (a.put o.dst (.bool (!b)))) : wpQuiet P ops C Q (o :: rest) a :=
  BigFrame.wpQuiet_want hw fun K hK => ⟨.bool (!b), fun w hw' => by
    unfold Oper.quietAt execOp
    simp only [ho, hx, hy, Sem.run_bind, fun w => run_eqGuard_agg (P := P) w .neq t x y xs ys hm, run_neq_struct, hrun, Result.andThen_ok, Sem.run_pure]
    exact ⟨rfl, rfl⟩, hK _ h⟩

theorem wpList_load_midw {P : Program} {ops : Array Oper} {rest : List Oper} {o : Oper} {a : Act} {w : World} {Q : Exit → Act → World → Prop} (hw : Region.wanted o (yielded ops a.tmps) = true) (ty : TypeId) (x : Operand) (ho : o.op = .load ty x)
    (b off : Nat) (hx : a.eval x = .pointer (some ⟨b, off, none⟩)) (cs : List Value) (d : TypeDesc) (hC : w.rangeAt b off cs)
    (hu : P.underlying ty = some d) (hd : d.isRow = true) (hi : (P.info? ty).map (·.size) = some cs.length) (h : wpList P ops Q rest (a.put o.dst (.agg cs.toArray)) w) : wpList P ops Q (o :: rest) a w := by
  refine BigFrame.wpList_want hw fun K hK => ?_
  unfold Oper.wp execOp
  simp only [ho, hx, Instr.loadAt, Instr.sureAddr, Sem.run_bind, Sem.run_pure, Result.andThen_ok, run_loadVar_mid w b off ty cs d hC hu hd hi]
  exact hK _ _ h

theorem run_lits {P : Program} {T E : TypeId} {z : Value} {size bytes : Nat} (w : World) (ei : EI P T E z size bytes) (n : Nat) (ps : Array (Nat × Value)) (vs : Array Value) (h0 : 0 < n * size) (hsm : n * size ≤ 16777216)
    (hf : Instr.fill (fun i => some (i * size, size)) ((Array.range (n * size)).map (z.cells[· % z.cells.size]!)) ps.toList = some vs) :
    (Instr.buildSlice T n ps).run P w = .ok (.slice (some ⟨w.heap.size, 0, none⟩) n n) (w.alloc (.cells vs E)) := by
  obtain ⟨i, hi, hz0, hz1, hz2⟩ := info_parts ei.hi
  have hsz : (sizeOf E).run P w = .ok size w := by simp [sizeOf, typeInfo, hi, hz1]
  have hzv : (zeroValue E).run P w = .ok z w := by simp [zeroValue, typeInfo, hi, hz0]
  have hnot : ¬ (n * size > 2 ^ 24) := by omega
  have hnz : ¬ (n * size = 0) := by omega
  unfold Instr.buildSlice
  simp only [Sem.run_bind, run_underlying ei.ht w, Result.andThen_ok, hsz, if_neg hnot, if_neg hnz, hzv, Sem.run_pure, hf, newRow, newObj]
  rfl

section
variable {P : Program} {ops : Array Oper} {rest : List Oper} {o : Oper} {a : Act} {w : World} {Q : Exit → Act → World → Prop} {T E : TypeId} {z : Value} {size bytes : Nat}
theorem rangeAt_later {w w' : World} {b off : Nat} {cs : List Value} (h : w.rangeAt b off cs) (hb : Below w.heap.size w w') : w'.rangeAt b off cs := fun j v hv => (hb.cell (World.block_lt_of_cell? w _ (h j v hv))).trans (h j v hv)
theorem wpList_lit2 (hgd : o.guard = none) (x y : Operand) (ho : o.op = .buildSlice T 2 #[(0, x), (1, y)]) (ei : EI P T E z size bytes) (u v : Value) (hx : a.eval x = u) (hy : a.eval y = v) (vs : Array Value) (h0 : 0 < 2 * size) (hsm : 2 * size ≤ 16777216)
    (hf : Instr.fill (fun i => some (i * size, size)) ((Array.range (2 * size)).map (z.cells[· % z.cells.size]!)) [(0, u), (1, v)] = some vs)
    (h : wpList P ops Q rest (a.put o.dst (.slice (some ⟨w.heap.size, 0, none⟩) 2 2)) (w.alloc (.cells vs E))) : wpList P ops Q (o :: rest) a w := by
  refine wpList_plain hgd fun K hK => ?_
  unfold Oper.wp execOp
  simp only [ho, List.map_toArray, List.map_cons, List.map_nil, hx, hy, Sem.run_bind, run_lits w ei 2 #[(0, u), (1, v)] vs h0 hsm hf, Sem.run_pure, Result.andThen_ok]
  exact hK _ _ h
end
end Go.Proofs.Ytanglfmolnfjeaa
namespace Go.Proofs.Ytanglfmolnfjeaa
set_option linter.unusedVariables false
set_option linter.unusedSimpArgs false
open Go.RowKit Go.ChangeShapes Go.WideShapes
set_option maxRecDepth 100000
set_option maxHeartbeats 4000000

theorem wpList_lit4 {P : Program} {ops : Array Oper} {rest : List Oper} {o : Oper} {a : Act} {w : World} {Q : Exit → Act → World → Prop} {T E : TypeId} {z : Value} {size bytes : Nat} (hgd : o.guard = none) (x0 x1 x2 x3 : Operand) (ho : o.op = .buildSlice T 4 #[(0, x0), (1, x1), (2, x2), (3, x3)]) (ei : EI P T E z size bytes)
    (v0 v1 v2 v3 : Value) (h0 : a.eval x0 = v0) (h1 : a.eval x1 = v1) (h2 : a.eval x2 = v2) (h3 : a.eval x3 = v3) (vs : Array Value) (hp : 0 < 4 * size) (hsm : 4 * size ≤ 16777216)
    (hf : Instr.fill (fun i => some (i * size, size)) ((Array.range (4 * size)).map (z.cells[· % z.cells.size]!)) [(0, v0), (1, v1), (2, v2), (3, v3)] = some vs)
    (h : wpList P ops Q rest (a.put o.dst (.slice (some ⟨w.heap.size, 0, none⟩) 4 4)) (w.alloc (.cells vs E))) : wpList P ops Q (o :: rest) a w := by
  refine wpList_plain hgd fun K hK => ?_
  unfold Oper.wp execOp
  simp only [ho, List.map_toArray, List.map_cons, List.map_nil, h0, h1, h2, h3, Sem.run_bind, run_lits w ei 4 #[(0, v0), (1, v1), (2, v2), (3, v3)] vs hp hsm hf, Sem.run_pure, Result.andThen_ok]
  exact hK _ _ h

def put32V (n : Nat) : List Int := (List.range 4).map fun i => ((n / 256 ^ i % 256 : Nat) : Int)
theorem put32V_eq (n : Nat) : put32V n = [((n % 256 : Nat) : Int), ((n / 256 % 256 : Nat) : Int), ((n / 65536 % 256 : Nat) : Int), ((n / 16777216 % 256 : Nat) : Int)] := by
  show [((n / 256 ^ 0 % 256 : Nat) : Int), ((n / 256 ^ 1 % 256 : Nat) : Int), ((n / 256 ^ 2 % 256 : Nat) : Int), ((n / 256 ^ 3 % 256 : Nat) : Int)] = _
  simp

theorem rput32_any (n : Nat) (w : World) (hn : n < 4294967296) : Calls Try.prog 30 #[.int .u32 n] w (RetSl (tInt .u8) w (put32V n)) := by
  have PV := Lib.hid (put32V_eq n)
  have Q3 := Lib.hid (show (n : Int) / 16777216 = ((n / 16777216 % 256 : Nat) : Int) by omega)
  go_enter Try.func30, Try.ntmps30
  go_wp2_with (refine wpList_lit4 rfl (.tmp 4) (.tmp 7) (.tmp 10) (.tmp 13) rfl ei_u8 (.int .u8 ((n : Int) % 256)) (.int .u8 ((n : Int) / 256 % 256)) (.int .u8 ((n : Int) / 65536 % 256)) (.int .u8 ((n : Int) / 16777216)) rfl rfl rfl rfl #[.int .u8 ((n : Int) % 256), .int .u8 ((n : Int) / 256 % 256), .int .u8 ((n : Int) / 65536 % 256), .int .u8 ((n : Int) / 16777216)] (by decide) (by decide) rfl ?_)
  go_ret
  rw [PV.out]
  refine ⟨some ⟨w.heap.size, 0, none⟩, 4, 4, rfl, Sl.lit _ (heap_now _ _ _ rfl) ?_ ?_ ⟨Nat.le_refl _, by simp⟩ rfl rfl (by simp [maxLen]), (Below.refl _ _).alloc (Nat.le_refl _) _⟩
  · simp only [List.map_cons, List.map_nil]
    rw [Q3.out]
    simp
  · intro x hx
    rw [inK_u8]
    simp at hx
    omega
end Go.Proofs.Ytanglfmolnfjeaa
