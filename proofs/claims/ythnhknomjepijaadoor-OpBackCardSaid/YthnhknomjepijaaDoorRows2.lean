/-
  Whole parts of a struct's block, loaded and stored at once: the world behind a store is opaque.
  Conditions: none (over any program).
-/
import Derived.Test.YthnhknomjepijaaDoorOwn
import Derived.Deep.MidRow
set_option linter.unusedVariables false
set_option linter.unusedSimpArgs false
namespace Go.Proofs.YthnhknomjepijaaDoor
open Go Go.RowKit

def putAt (cs : Array Value) : Nat → List Value → Array Value
  | _, [] => cs
  | o, v :: r => putAt (cs.setIfInBounds o v) (o + 1) r
theorem putAt_size : ∀ (vs : List Value) (o : Nat) (cs : Array Value), (putAt cs o vs).size = cs.size
  | [], _, _ => rfl
  | v :: r, o, cs => by unfold putAt; rw [putAt_size r]; simp

theorem putAt_get : ∀ (vs : List Value) (o : Nat) (cs : Array Value) (i : Nat), (putAt cs o vs)[i]? = if o ≤ i ∧ i < o + vs.length ∧ i < cs.size then vs[i - o]? else cs[i]?
  | [], o, cs, i => by rw [if_neg (show ¬ (o ≤ i ∧ i < o + ([] : List Value).length ∧ i < cs.size) by simp; omega)]; rfl
  | v :: r, o, cs, i => by
    unfold putAt
    rw [putAt_get r (o + 1), Array.getElem?_setIfInBounds]
    simp only [Array.size_setIfInBounds, List.length_cons]
    by_cases h1 : i = o
    · subst h1
      rw [if_neg (by omega), if_pos rfl]
      by_cases h2 : i < cs.size
      · rw [if_pos h2, if_pos (by omega)]; simp
      · rw [if_neg h2, if_neg (by omega)]; simp; omega
    · by_cases h2 : o ≤ i ∧ i < o + (r.length + 1) ∧ i < cs.size
      · rw [if_pos (show o + 1 ≤ i ∧ i < o + 1 + r.length ∧ i < cs.size by omega), if_pos h2, show i - o = (i - (o + 1)) + 1 by omega, List.getElem?_cons_succ]
      · rw [if_neg (show ¬ (o + 1 ≤ i ∧ i < o + 1 + r.length ∧ i < cs.size) by omega), if_neg (show ¬ o = i from fun e => h1 e.symm), if_neg h2]

theorem putAt_list {vs : List Value} {o : Nat} {cs cs' : Array Value} (h : o + vs.length ≤ cs.size) (hcs : cs'.toList = cs.toList.take o ++ vs ++ cs.toList.drop (o + vs.length)) : putAt cs o vs = cs' := by
  apply Array.ext_getElem?
  intro i
  rw [putAt_get, ← Array.getElem?_toList (xs := cs'), hcs]
  by_cases h1 : i < o
  · rw [if_neg (by omega), List.append_assoc, List.getElem?_append_left (by simp; omega), List.getElem?_take, if_pos h1]; simp
  · by_cases h2 : i < o + vs.length
    · rw [if_pos (by omega), List.append_assoc, List.getElem?_append_right (by simp; omega), List.getElem?_append_left (by simp; omega)]
      congr 1
      simp
      omega
    · rw [if_neg (by omega), List.getElem?_append_right (by simp; omega), List.getElem?_drop, ← Array.getElem?_toList]
      congr 1
      simp
      omega

theorem putAt_full {vs cs : Array Value} (h : cs.size = vs.size) : putAt cs 0 vs.toList = vs := by
  apply Array.ext_getElem?
  intro i
  rw [putAt_get]
  by_cases hi : i < vs.size
  · rw [if_pos (by simp; omega)]; simp
  · rw [if_neg (by simp; omega), Array.getElem?_eq_none (by omega), Array.getElem?_eq_none (by omega)]

theorem Blk.setCells {g : Nat} {e : TypeId} : ∀ (vs : List Value) (o : Nat) (w : World) (cs : Array Value), Blk w g e cs → Blk (w.setCells g o vs) g e (putAt cs o vs)
  | [], _, _, _, h => h
  | v :: r, o, w, cs, h => Blk.setCells r (o + 1) _ _ (h.set_ o v)

theorem grown_setCells {g : Nat} : ∀ (vs : List Value) (o : Nat) (w : World), w.grownBy (w.setCells g o vs) (some g)
  | [], _, w => ⟨rfl, rfl, rfl, Nat.le_refl _, fun _ _ _ => rfl⟩
  | v :: r, o, w => by
    have h1 : w.grownBy (w.setCell ⟨g, o, none⟩ v) (some g) :=
      have b0 : Below 0 w (w.setCell ⟨g, o, none⟩ v) := (Below.refl 0 w).setCell (Nat.zero_le _) v
      ⟨b0.os, b0.tape, b0.output, b0.size, fun k hk hne => Below.heap_setCell w ⟨g, o, none⟩ v k (fun e => hne (by rw [e]))⟩
    have h2 := grown_setCells (g := g) r (o + 1) (w.setCell ⟨g, o, none⟩ v)
    exact ⟨h2.os.trans h1.os, h2.tape.trans h1.tape, h2.output.trans h1.output, Nat.le_trans h1.size h2.size, fun k hk hne => (h2.block k (Nat.lt_of_lt_of_le hk h1.size) hne).trans (h1.block k hk hne)⟩

section
variable {P : Program} {ops : Array Oper} {rest : List Oper} {op : Oper} {a : Act} {w : World} {Q : Exit → Act → World → Prop}

/-- A part of a block is stored. -/
theorem wpList_store_blk (hgd : op.guard = none) (ty : TypeId) (x y : Operand) (ho : op.op = .store ty x y) (g off : Nat) (vs : Array Value) (hx : a.eval x = .pointer (some ⟨g, off, none⟩)) (hy : a.eval y = .agg vs)
    (e : TypeId) (cs cs' : Array Value) (hb : Blk w g e cs) (hfit : off + vs.size ≤ cs.size) (hi : (P.info? ty).map (·.size) = some vs.size) (h1 : vs.all (·.oneCell') = true) (hcs : cs'.toList = cs.toList.take off ++ vs.toList ++ cs.toList.drop (off + vs.size))
    (h : ∀ w', Blk w' g e cs' → w.grownBy w' (some g) → wpList P ops Q rest (a.put op.dst undef) w') : wpList P ops Q (op :: rest) a w := by
  have hcs := putAt_list (vs := vs.toList) (o := off) (cs := cs) (cs' := cs') (by simpa using hfit) (by simpa using hcs)
  subst hcs
  refine wpList_store_mid hgd ty x y ho g off vs hx hy (fun j hj => ⟨?_, hb.frozen _⟩) hi h1 (h _ (Blk.setCells _ _ _ _ hb) (grown_setCells _ _ _))
  rw [hb.cell]
  simp
  omega

/-- The same, inside a region that draws its order. -/
theorem oper_store_blk {K : Act → World → Prop} (ty : TypeId) (x y : Operand) (ho : op.op = .store ty x y) (g off : Nat) (vs : Array Value) (hx : a.eval x = .pointer (some ⟨g, off, none⟩)) (hy : a.eval y = .agg vs)
    (e : TypeId) (cs cs' : Array Value) (hb : Blk w g e cs) (hfit : off + vs.size ≤ cs.size) (hi : (P.info? ty).map (·.size) = some vs.size) (h1 : vs.all (·.oneCell') = true) (hcs : cs'.toList = cs.toList.take off ++ vs.toList ++ cs.toList.drop (off + vs.size))
    (h : ∀ w', Blk w' g e cs' → w.grownBy w' (some g) → K (a.put op.dst undef) w') : op.wp P a w K Q := by
  have hcs := putAt_list (vs := vs.toList) (o := off) (cs := cs) (cs' := cs') (by simpa using hfit) (by simpa using hcs)
  subst hcs
  refine wp_store_mid ty x y ho g off vs hx hy (fun j hj => ⟨?_, hb.frozen _⟩) hi h1 (h _ (Blk.setCells _ _ _ _ hb) (grown_setCells _ _ _))
  rw [hb.cell]
  simp
  omega

/-- One number is stored, inside a region that draws its order. -/
theorem oper_store_int {K : Act → World → Prop} (ty : TypeId) (x y : Operand) (ho : op.op = .store ty x y) (g off : Nat) (k : IntKind) (n : Int) (hx : a.eval x = .pointer (some ⟨g, off, none⟩)) (hy : a.eval y = .int k n)
    (e : TypeId) (cs cs' : Array Value) (hb : Blk w g e cs) (hfit : off < cs.size) (hi : (P.info? ty).map (·.size) = some 1) (hcs : cs'.toList = cs.toList.take off ++ [.int k n] ++ cs.toList.drop (off + 1))
    (h : ∀ w', Blk w' g e cs' → w.grownBy w' (some g) → K (a.put op.dst undef) w') : op.wp P a w K Q := by
  have hcs := putAt_list (vs := [Value.int k n]) (o := off) (cs := cs) (cs' := cs') (by simp; omega) (by simpa using hcs)
  subst hcs
  have hrun : (storeVar ty ⟨g, off, none⟩ (.int k n)).run P w = .ok () (w.setCells g off [.int k n]) := by
    have := run_storeCells_cells (P := P) g off [Value.int k n] 0 w (fun j hj => by simp at hj; subst hj; rw [hb.cell]; simp; omega) (fun j hj => hb.frozen _) (fun v hv => by simp at hv; subst hv; rfl)
    cases hq : P.info? ty with
    | none => simp [hq] at hi
    | some i =>
      have hs : i.size = 1 := by simpa [hq] using hi
      simp only [Nat.add_zero] at this
      simp [storeVar, sizeOf, typeInfo, hq, Value.cells, hs, this]
  unfold Oper.wp execOp
  simp only [ho, hx, hy, Instr.storeAt, Instr.sureAddr, Sem.run_bind, Sem.run_pure, Result.andThen_ok, hrun]
  exact h _ (Blk.setCells _ _ _ _ hb) (grown_setCells _ _ _)

/-- The whole of a block is stored. -/
theorem wpList_store_all (hgd : op.guard = none) (ty : TypeId) (x y : Operand) (ho : op.op = .store ty x y) (g : Nat) (vs : Array Value) (hx : a.eval x = .pointer (some ⟨g, 0, none⟩)) (hy : a.eval y = .agg vs)
    (e : TypeId) (cs : Array Value) (hb : Blk w g e cs) (hfit : cs.size = vs.size) (hi : (P.info? ty).map (·.size) = some vs.size) (h1 : vs.all (·.oneCell') = true)
    (h : ∀ w', Blk w' g e vs → w.grownBy w' (some g) → wpList P ops Q rest (a.put op.dst undef) w') : wpList P ops Q (op :: rest) a w :=
  wpList_store_blk hgd ty x y ho g 0 vs hx hy e cs vs hb (by omega) hi h1 (by simp [hfit]) h

/-- A part of a block is loaded. -/
theorem wpList_load_blk (hgd : op.guard = none) (ty : TypeId) (x : Operand) (ho : op.op = .load ty x) (g off : Nat) (hx : a.eval x = .pointer (some ⟨g, off, none⟩)) (e : TypeId) (cs vs : Array Value) (d : TypeDesc) (hb : Blk w g e cs)
    (hu : P.underlying ty = some d) (hd : d.isRow = true) (hi : (P.info? ty).map (·.size) = some vs.size) (hvs : (cs.toList.drop off).take vs.size = vs.toList)
    (h : wpList P ops Q rest (a.put op.dst (.agg vs)) w) : wpList P ops Q (op :: rest) a w := by
  refine wpList_load_mid hgd ty x ho g off hx vs.toList d (fun j v hv => ?_) hu hd (by simpa using hi) (by simpa using h)
  rw [hb.cell]
  rw [← hvs, List.getElem?_take] at hv
  split at hv
  · rw [List.getElem?_drop] at hv
    simpa using hv
  · cases hv

/-- In a region that draws its order: the load of a part of a block may be taken first where the condition gives the block. -/
theorem yieldsIf_load_blk {S : World → Prop} (hw : Region.wanted op (yielded ops a.tmps) = true) (ty : TypeId) (x : Operand) (ho : op.op = .load ty x) (g off : Nat) (hx : a.eval x = .pointer (some ⟨g, off, none⟩)) (e : TypeId) (cs vs : Array Value) (d : TypeDesc)
    (hS : ∀ w, S w → Blk w g e cs) (hu : P.underlying ty = some d) (hd : d.isRow = true) (hi : (P.info? ty).map (·.size) = some vs.size) (hvs : (cs.toList.drop off).take vs.size = vs.toList) : YieldsIf P ops S op (.agg vs) a := by
  have := yieldsIf_load_mid (P := P) (ops := ops) (S := S) (op := op) (a := a) hw ty x ho g off hx vs.toList d (fun w hs j v hv => by
    rw [(hS w hs).cell]
    rw [← hvs, List.getElem?_take] at hv
    split at hv
    · rw [List.getElem?_drop] at hv
      simpa using hv
    · cases hv) hu hd (by simpa using hi)
  simpa using this
end
end Go.Proofs.YthnhknomjepijaaDoor
