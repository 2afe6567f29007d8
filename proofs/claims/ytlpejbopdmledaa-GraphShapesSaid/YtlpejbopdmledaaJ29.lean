/-
  The shapes of all values of nodes (layer 27), in numbers: node by node.
  Conditions: none.
  'T{x}' of one struct: a block of its cells (a law for the operation, so that the walk need not run it).
  Conditions: at most 2^24 cells (over any program).
-/
import Derived.Test.YtlpejbopdmledaaJ28
import Derived.Test.YtlpejbopdmledaaJ05
namespace Go.Proofs.Ytlpejbopdmledaa
set_option linter.unusedVariables false
set_option linter.unusedSimpArgs false
open Go.RowKit Go.ChangeShapes Go.WideShapes

/-- A shape that may be. -/
structure GoodS (x : Sh3) : Prop where
  h : 1 ≤ x.1 ∧ x.1 ≤ 1024
  v : 1 ≤ x.2.1 ∧ x.2.1 ≤ 1024
  c : 1 ≤ x.2.2 ∧ x.2.2 ≤ 1024
theorem GoodS.of {h v c : Int} (e : ¬ elems h v c = 0) : GoodS (h, v, c) := by
  have := elems_bd e
  exact ⟨by simp only; omega, by simp only; omega, by simp only; omega⟩
theorem slideV_good {h v c k s p o : Int} (e : (slideV h v c k s p o).2 = 0) : GoodS (slideV h v c k s p o).1 := by
  unfold slideV at *
  by_cases c1 : elems h v c = 0
  · rw [if_pos c1] at e; cases e
  rw [if_neg c1] at e ⊢
  by_cases c2 : (stepsV h k s p).2 ≠ 0
  · rw [if_pos c2] at e; exact absurd e c2
  rw [if_neg c2] at e ⊢
  by_cases c3 : (stepsV v k s p).2 ≠ 0
  · rw [if_pos c3] at e; exact absurd e c3
  rw [if_neg c3] at e ⊢
  by_cases c4 : elems (stepsV h k s p).1 (stepsV v k s p).1 o = 0
  · rw [if_pos c4] at e; cases e
  rw [if_neg c4]
  exact .of c4
theorem fitV_good {x : ShE} {want out : Int} {d : Node} (hx : x.2 = 0 → GoodS x.1) (e : (fitV x want out d).2 = 0) : GoodS (fitV x want out d).1 := by
  unfold fitV at *
  by_cases c1 : x.2 ≠ 0
  · rw [if_pos c1] at e; exact absurd e c1
  rw [if_neg c1] at e ⊢
  by_cases c2 : ¬ (d.w.length : Int) = want ∨ 16384 < d.w.length ∨ ¬ (d.bias.length : Int) = out
  · rw [if_pos c2] at e; cases e
  rw [if_neg c2] at e ⊢
  exact hx e
theorem denseV_good {h v c : Int} {d : Node} (e : (denseV h v c d).2 = 0) : GoodS (denseV h v c d).1 := by
  unfold denseV at *
  by_cases c1 : elems h v c = 0 ∨ elems 1 1 d.out = 0
  · rw [if_pos c1] at e; cases e
  rw [if_neg c1] at e ⊢
  by_cases c2 : ¬ (d.w.length : Int) = d.out * elems h v c ∨ 16384 < d.w.length ∨ ¬ (d.bias.length : Int) = d.out
  · rw [if_pos c2] at e; cases e
  rw [if_neg c2]
  exact .of (fun h => c1 (.inr h))
theorem aroundV_good {h v c p : Int} (e : (aroundV h v c p).2 = 0) : GoodS (aroundV h v c p).1 := by
  unfold aroundV at *
  by_cases c1 : p < 0 ∨ 4 < p
  · rw [if_pos c1] at e; cases e
  rw [if_neg c1] at e ⊢
  by_cases c2 : elems (h + 2 * p) (v + 2 * p) c = 0
  · rw [if_pos c2] at e; cases e
  rw [if_neg c2]
  exact .of c2
theorem plainV_good {k h v c h2 v2 c2 p : Int} (e : (plainV k h v c h2 v2 c2 p).2 = 0) : GoodS (plainV k h v c h2 v2 c2 p).1 := by
  unfold plainV at *
  by_cases c1 : elems h v c = 0
  · rw [if_pos c1] at e; cases e
  rw [if_neg c1] at e ⊢
  by_cases q : k = 6 ∧ ([h, v, c] == [h2, v2, c2]) = false
  · rw [if_pos q] at e; cases e
  rw [if_neg q] at e ⊢
  by_cases k8 : k = 8
  · rw [if_pos k8] at e ⊢; exact aroundV_good e
  rw [if_neg k8] at e ⊢
  by_cases k9 : k = 9
  · rw [if_pos k9]
    have := elems_range h v c
    exact ⟨by simp only; omega, by simp only; omega, by simp only; omega⟩
  rw [if_neg k9]
  exact .of c1
theorem shapeV_good {h v c h2 v2 c2 : Int} {d : Node} (e : (shapeV h v c h2 v2 c2 d).2 = 0) : GoodS (shapeV h v c h2 v2 c2 d).1 := by
  unfold shapeV at *
  by_cases k1 : d.kind = 1
  · rw [if_pos k1] at e ⊢; exact fitV_good slideV_good e
  rw [if_neg k1] at e ⊢
  by_cases k2 : d.kind = 2
  · rw [if_pos k2] at e ⊢; exact fitV_good slideV_good e
  rw [if_neg k2] at e ⊢
  by_cases k3 : d.kind = 3
  · rw [if_pos k3] at e ⊢; exact denseV_good e
  rw [if_neg k3] at e ⊢
  by_cases k4 : d.kind = 4 ∨ d.kind = 5
  · rw [if_pos k4] at e ⊢; exact slideV_good e
  rw [if_neg k4] at e ⊢
  exact plainV_good e
theorem nextV_good {d : Node} {l : List Sh3} (e : (nextV d l).2 = 0) : GoodS (nextV d l).1 := by
  unfold nextV at *
  by_cases c1 : checkV d ≠ 0
  · rw [if_pos c1] at e; exact absurd e c1
  rw [if_neg c1] at e ⊢
  by_cases c2 : thereV d l.length = false
  · rw [if_pos c2] at e; cases e
  rw [if_neg c2] at e ⊢
  exact shapeV_good e
theorem GoodS.rep {w : World} {S : Nat → Prop} {x y z : Int} (h : GoodS (x, y, z)) : tShape.rep w S [.int .i64 x, .int .i64 y, .int .i64 z] (x, y, z) := by
  have h1 := h.h
  have h2 := h.v
  have h3 := h.c
  simp only at h1 h2 h3
  exact ⟨_, _, rfl, ⟨rfl, by rw [inK_i64]; simp only; omega⟩, _, _, rfl, ⟨rfl, by rw [inK_i64]; simp only; omega⟩, rfl, by rw [inK_i64]; simp only; omega⟩

/-- The first nodes: the shapes so far, or which node is wrong, and why. -/
inductive Run where
  | on (out : List Sh3)
  | bad (i : Nat) (e : Int)
def noNode : Node := ⟨0, 0, 0, 0, 0, 0, 0, 0, 0, [], [], 0, 0, 0, 0, 0, 0, 0, 0⟩
def runS (l : List Node) (s : Sh3) : Nat → Run
  | 0 => .on [s]
  | k + 1 => match runS l s k with
    | .on out => if (nextV (l.getD k noNode) out).2 ≠ 0 then .bad k (nextV (l.getD k noNode) out).2 else .on (out ++ [(nextV (l.getD k noNode) out).1])
    | .bad i e => .bad i e
def endS (n : Nat) : Run → List Sh3 × Int × Int
  | .on out => (out, (n : Int), 0)
  | .bad i e => ([], (i : Int), e)
def shapesV (l : List Node) (s : Sh3) : List Sh3 × Int × Int :=
  if elems s.1 s.2.1 s.2.2 = 0 then ([], -1, 5) else if l.length = 0 then ([], -1, 12) else if 8 < l.length then ([], -1, 4)
  else endS l.length (runS l s l.length)
theorem runS_bad {l : List Node} {s : Sh3} {k i : Nat} {e : Int} (h : runS l s k = .bad i e) : ∀ m, k ≤ m → runS l s m = .bad i e := by
  intro m hm
  induction m with
  | zero => obtain rfl : k = 0 := by omega
            exact h
  | succ m ih =>
    by_cases hk : k = m + 1
    · subst hk; exact h
    · have := ih (by omega)
      show (match runS l s m with | .on out => _ | .bad i e => _) = _
      rw [this]
theorem runS_next {l : List Node} {s : Sh3} {k : Nat} {out : List Sh3} {d : Node} (h : runS l s k = .on out) (hd : l[k]? = some d) :
    runS l s (k + 1) = if (nextV d out).2 ≠ 0 then .bad k (nextV d out).2 else .on (out ++ [(nextV d out).1]) := by
  have e : l.getD k noNode = d := by rw [List.getD_eq_getElem?_getD, hd]; rfl
  show (match runS l s k with | .on out => _ | .bad i e => _) = _
  rw [h]
  simp only [e]
end Go.Proofs.Ytlpejbopdmledaa
set_option linter.unusedVariables false
set_option linter.unusedSimpArgs false
namespace Go.Proofs.Ytlpejbopdmledaa
open Go Go.RowKit

theorem fold_putAt (off : Nat) : ∀ (l : List Value) (k : Nat) (cs : Array Value), (l.zipIdx k).foldl (fun cs (x : Value × Nat) => cs.setIfInBounds (off + x.2) x.1) cs = putAt cs (off + k) l
  | [], _, _ => rfl
  | v :: r, k, cs => by
    rw [List.zipIdx_cons, List.foldl_cons, fold_putAt off r (k + 1)]
    rfl
theorem fill_one (cells vs : Array Value) (size : Nat) (h1 : vs.size = size) (h2 : cells.size = size) : Instr.fill (fun i => some (i * size, size)) cells [(0, .agg vs)] = some vs := by
  have hv : (Value.agg vs).cells = vs := rfl
  unfold Instr.fill
  simp only [hv, Nat.zero_mul, Nat.zero_add]
  rw [if_neg (by simp; omega)]
  unfold Instr.fill
  have := fold_putAt 0 vs.toList 0 cells
  simp only [Nat.zero_add] at this
  rw [← Array.foldl_toList, Array.toList_zipIdx, this]
  congr 1
  exact putAt_full (by omega)

theorem run_lit1 {P : Program} {T E : TypeId} {z : Value} {size bytes : Nat} (w : World) (ei : EI P T E z size bytes) (vs : Array Value) (hvs : vs.size = size) (hsm : size ≤ 16777216) :
    (Instr.buildSlice T 1 #[(0, .agg vs)]).run P w = .ok (.slice (some ⟨w.heap.size, 0, none⟩) 1 1) (w.alloc (.cells vs E)) := by
  obtain ⟨i, hi, hz0, hz1, hz2⟩ := info_parts ei.hi
  have hp := ei.hp
  have hsz : (sizeOf E).run P w = .ok size w := by simp [sizeOf, typeInfo, hi, hz1]
  have hzv : (zeroValue E).run P w = .ok z w := by simp [zeroValue, typeInfo, hi, hz0]
  have hf := fill_one ((Array.range (1 * size)).map (z.cells[· % z.cells.size]!)) vs size hvs (by simp)
  have hnot : ¬ (1 * size > 2 ^ 24) := by omega
  have hnz : ¬ (1 * size = 0) := by omega
  unfold Instr.buildSlice
  simp only [Sem.run_bind, run_underlying ei.ht w, Result.andThen_ok, hsz, if_neg hnot, if_neg hnz, hzv, Sem.run_pure, hf, newRow, newObj]
  rfl

section
variable {P : Program} {ops : Array Oper} {rest : List Oper} {o : Oper} {a : Act} {w : World} {Q : Exit → Act → World → Prop} {T E : TypeId} {z : Value} {size bytes : Nat}
theorem wpList_lit1 (hgd : o.guard = none) (x : Operand) (ho : o.op = .buildSlice T 1 #[(0, x)]) (ei : EI P T E z size bytes) (vs : Array Value) (hx : a.eval x = .agg vs) (hvs : vs.size = size) (hsm : size ≤ 16777216)
    (h : wpList P ops Q rest (a.put o.dst (.slice (some ⟨w.heap.size, 0, none⟩) 1 1)) (w.alloc (.cells vs E))) : wpList P ops Q (o :: rest) a w := by
  refine wpList_plain hgd fun K hK => ?_
  unfold Oper.wp execOp
  simp only [ho, List.map_toArray, List.map_cons, List.map_nil, hx, Sem.run_bind, run_lit1 w ei vs hvs hsm, Sem.run_pure, Result.andThen_ok]
  exact hK _ _ h
end
end Go.Proofs.Ytlpejbopdmledaa
