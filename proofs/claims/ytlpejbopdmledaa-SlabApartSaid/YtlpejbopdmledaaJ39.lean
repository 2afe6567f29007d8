/-
  A block's plan (layer 29), in numbers: shapes, sizes, who is needed until when, places; what a node takes and makes does not meet.
  Conditions: none.
  '!=' of two structs in a region that only reads; a literal slice of several structs (laws for the operations).
  Conditions: none (over any program).
-/
import Derived.Test.YtlpejbopdmledaaJ36
import Derived.Test.YtlpejbopdmledaaJ38
import Derived.Test.YtlpejbopdmledaaJ15
import Derived.Test.YtlpejbopdmledaaJ26
import Derived.Test.YtlpejbopdmledaaJ28
namespace Go.Proofs.Ytlpejbopdmledaa
set_option linter.unusedVariables false
set_option linter.unusedSimpArgs false
open Go.Proofs.Ytlpejbopdmledaa.Ar

theorem nextV_good' {d : Node} {l : List Sh3} (e : (nextV d l).2 = 0) : thereV d l.length = true := by
  unfold nextV at e
  by_cases c1 : checkV d ≠ 0
  · rw [if_pos c1] at e; exact absurd e c1
  rw [if_neg c1] at e
  by_cases c2 : thereV d l.length = false
  · rw [if_pos c2] at e; cases e
  simpa using c2
/-- What a run that goes on tells. -/
structure RunOk (l : List Node) (k : Nat) (out : List Sh3) : Prop where
  len : out.length = k + 1
  there : ∀ i, i < k → thereV (l.getD i noNode) ((i : Int) + 1) = true
theorem runS_ok {l : List Node} {s : Sh3} (k : Nat) : ∀ {out : List Sh3}, runS l s k = .on out → RunOk l k out := by
  induction k with
  | zero => intro out h; cases h; exact ⟨rfl, fun i hi => absurd hi (Nat.not_lt_zero _)⟩
  | succ k ih =>
    intro out h
    unfold runS at h
    cases hr : runS l s k with
    | bad i e => rw [hr] at h; cases h
    | on o =>
      rw [hr] at h
      have hk := ih hr
      simp only at h
      by_cases c : (nextV (l.getD k noNode) o).2 = 0
      · rw [if_neg (by simpa using c)] at h
        cases h
        have ht := nextV_good' c
        refine ⟨by simp [hk.len], fun i hi => ?_⟩
        by_cases hik : i < k
        · exact hk.there i hik
        · obtain rfl : i = k := by omega
          rw [hk.len] at ht
          simpa using ht
      · rw [if_pos c] at h; cases h
theorem runS_err {l : List Node} {s : Sh3} (k : Nat) : ∀ {i : Nat} {e : Int}, runS l s k = .bad i e → e ≠ 0 := by
  induction k with
  | zero => intro i e h; cases h
  | succ k ih =>
    intro i e h
    unfold runS at h
    cases hr : runS l s k with
    | bad i' e' => rw [hr] at h; cases h; exact ih hr
    | on o =>
      rw [hr] at h
      simp only at h
      by_cases c : (nextV (l.getD k noNode) o).2 = 0
      · rw [if_neg (by simpa using c)] at h; cases h
      · rw [if_pos c] at h; cases h; exact c
/-- Shapes that are all right. -/
structure ShapesOk (l : List Node) (s : Sh3) (sl : List Sh3) (p : Int) : Prop where
  len : sl.length = l.length + 1
  at_ : p = (l.length : Int)
  few : l.length ≤ 8
  there : ∀ i, i < l.length → thereV (l.getD i noNode) ((i : Int) + 1) = true
theorem shapesV_ok {l : List Node} {s : Sh3} {sl : List Sh3} {p : Int} (h : shapesV l s = (sl, p, 0)) : ShapesOk l s sl p := by
  unfold shapesV at h
  by_cases c1 : elems s.1 s.2.1 s.2.2 = 0
  · rw [if_pos c1] at h; simp at h
  rw [if_neg c1] at h
  by_cases c2 : l.length = 0
  · rw [if_pos c2] at h; simp at h
  rw [if_neg c2] at h
  by_cases c3 : 8 < l.length
  · rw [if_pos c3] at h; simp at h
  rw [if_neg c3] at h
  cases hr : runS l s l.length with
  | on out =>
    rw [hr] at h
    simp only [endS, Prod.mk.injEq] at h
    obtain ⟨rfl, rfl, _⟩ := h
    have := runS_ok _ hr
    exact ⟨this.len, rfl, by omega, this.there⟩
  | bad i e =>
    rw [hr] at h
    simp only [endS, Prod.mk.injEq] at h
    exact absurd h.2.2 (runS_err _ hr)
theorem shapesV_err {l : List Node} {s : Sh3} {sl : List Sh3} {p e : Int} (h : shapesV l s = (sl, p, e)) (he : e ≠ 0) : sl = [] := by
  unfold shapesV at h
  by_cases c1 : elems s.1 s.2.1 s.2.2 = 0
  · rw [if_pos c1] at h; cases h; rfl
  rw [if_neg c1] at h
  by_cases c2 : l.length = 0
  · rw [if_pos c2] at h; cases h; rfl
  rw [if_neg c2] at h
  by_cases c3 : 8 < l.length
  · rw [if_pos c3] at h; cases h; rfl
  rw [if_neg c3] at h
  cases hr : runS l s l.length with
  | on out =>
    rw [hr] at h
    simp only [endS, Prod.mk.injEq] at h
    exact absurd h.2.2.symm he
  | bad i e =>
    rw [hr] at h
    simp only [endS, Prod.mk.injEq] at h
    exact h.1.symm

def sizesV (sl : List Sh3) : List Int := sl.map fun x => elems x.1 x.2.1 x.2.2
theorem sizesV_length (sl : List Sh3) : (sizesV sl).length = sl.length := by simp [sizesV]
theorem sizesV_get (sl : List Sh3) (i : Nat) (h : i < sl.length) : (sizesV sl).getD i 0 = elems (sl.getD i (0, 0, 0)).1 (sl.getD i (0, 0, 0)).2.1 (sl.getD i (0, 0, 0)).2.2 := by
  unfold sizesV
  rw [List.getD_eq_getElem?_getD, List.getElem?_map, List.getD_eq_getElem?_getD, List.getElem?_eq_getElem h]
  rfl
theorem sizesV_bd (sl : List Sh3) (i : Nat) : 0 ≤ (sizesV sl).getD i 0 ∧ (sizesV sl).getD i 0 ≤ 1024 := by
  by_cases h : i < sl.length
  · rw [sizesV_get sl i h]; exact elems_range _ _ _
  · rw [List.getD_eq_getElem?_getD, List.getElem?_eq_none (by rw [sizesV_length]; omega)]; decide
theorem sizesV_take (sl : List Sh3) (k : Nat) (h : k < sl.length) : sizesV (sl.take (k + 1)) = sizesV (sl.take k) ++ [elems (sl.getD k (0, 0, 0)).1 (sl.getD k (0, 0, 0)).2.1 (sl.getD k (0, 0, 0)).2.2] := by
  rw [take_snoc sl k (sl.getD k (0, 0, 0)) (by rw [List.getD_eq_getElem?_getD, List.getElem?_eq_getElem h]; rfl)]
  simp [sizesV]
theorem plan_may {l : List Node} {s : Sh3} {sl : List Sh3} {p : Int} (h : ShapesOk l s sl p) : mayOk (sizesV sl) (lastsV l) := by
  refine ⟨by rw [sizesV_length, lastsV_length, h.len], by rw [sizesV_length, h.len]; have := h.few; omega, fun i hi => ?_⟩
  have := sizesV_bd sl i
  omega
/-- A plan: shapes, places, room; which node is wrong, and why. -/
def planV (l : List Node) (s : Sh3) : (List Sh3 × List Int × Int) × Int × Int :=
  if (shapesV l s).2.2 ≠ 0 then (([], [], 0), (shapesV l s).2.1, (shapesV l s).2.2)
  else (((shapesV l s).1, atTo (sizesV (shapesV l s).1) (lastsV l) (l.length + 1), roomTo (sizesV (shapesV l s).1) (lastsV l) (l.length + 1)), (l.length : Int), 0)

/-- Node i's value is needed at least till it is taken. -/
theorem lastTo_grows {l : List Node} {v : Int} {i : Nat} {d : Node} (hd : l[i]? = some d) (ht : takesB d i v = true) (k : Nat) (hk : i < k) (hl : k ≤ l.length) : (i : Int) + 1 ≤ lastTo l v k := by
  induction k with
  | zero => omega
  | succ k ih =>
    unfold lastTo
    by_cases q : takesB (l.getD k noNode) k v = true
    · rw [if_pos q]; omega
    · rw [if_neg q]
      by_cases hik : i < k
      · exact ih hik (by omega)
      · obtain rfl : i = k := by omega
        rw [List.getD_eq_getElem?_getD, hd] at q
        exact absurd ht q
/-- The places of what a node takes and of what it makes. -/
theorem plan_apart {l : List Node} {s : Sh3} {sl : List Sh3} {p : Int} (h : ShapesOk l s sl p) {i v : Nat} {d : Node} (hd : l[i]? = some d) (hv : (v : Int) = d.a ∨ (v : Int) = secondV d) (hvi : v ≤ i)
    (c : (atTo (sizesV sl) (lastsV l) (l.length + 1)).getD v 0 < (atTo (sizesV sl) (lastsV l) (l.length + 1)).getD (i + 1) 0 + (sizesV sl).getD (i + 1) 0)
    (c' : (atTo (sizesV sl) (lastsV l) (l.length + 1)).getD (i + 1) 0 < (atTo (sizesV sl) (lastsV l) (l.length + 1)).getD v 0 + (sizesV sl).getD v 0) (hz : (sizesV sl).getD (i + 1) 0 ≠ 0) (hz' : (sizesV sl).getD v 0 ≠ 0) : False := by
  have hi : i < l.length := (List.getElem?_eq_some_iff.1 hd).1
  have hs := sound_at (plan_may h)
  rw [sizesV_length, h.len] at hs
  obtain ⟨_, _, hr⟩ := hs
  rw [atTo_len] at hr
  have hp := (hr (i + 1) (by omega)).2.2 v (by omega)
  unfold pairOk at hp
  have ht : togI ((lastsV l).getD v 0) v (i + 1) = true := by
    have hth := h.there i hi
    rw [List.getD_eq_getElem?_getD, hd] at hth
    have hb : takesB d i (v : Int) = true := by
      unfold takesB
      rw [show thereV d ((i : Int) + 1) = true from hth]
      rcases hv with e | e <;> simp [e]
    have hg := lastTo_grows hd hb l.length hi (Nat.le_refl _)
    rw [lastsV_get l v (by omega)]
    unfold togI lastV
    rw [if_neg (by omega)]
    simp only [decide_eq_true_eq]
    have := Int.le_max_left (lastTo l (v : Int) l.length) (v : Int)
    omega
  rw [ht] at hp
  rcases hp with h | h | h | h | h
  · omega
  · omega
  · exact hz h
  · exact hz' h
  · cases h
theorem plan_in {l : List Node} {sl : List Sh3} (k : Nat) (hk : k ≤ l.length) : (atTo (sizesV sl) (lastsV l) (l.length + 1)).getD k 0 + (sizesV sl).getD k 0 ≤ roomTo (sizesV sl) (lastsV l) (l.length + 1) :=
  in_room (l.length + 1) k (by omega)
theorem plan_bd {l : List Node} {s : Sh3} {sl : List Sh3} {p : Int} (h : ShapesOk l s sl p) (k : Nat) (hk : k ≤ l.length) : 0 ≤ (atTo (sizesV sl) (lastsV l) (l.length + 1)).getD k 0 ∧ (atTo (sizesV sl) (lastsV l) (l.length + 1)).getD k 0 + (sizesV sl).getD k 0 ≤ 1073741824 := by
  have hm := plan_may h
  have hs : ∀ j, j < l.length + 1 → 0 ≤ (sizesV sl).getD j 0 ∧ (sizesV sl).getD j 0 ≤ 1048576 := fun j _ => by have := sizesV_bd sl j; omega
  exact (good_at hs (l.length + 1) (Nat.le_refl _)).small (n := l.length + 1) (Nat.le_refl _) (by have := h.few; omega) hs k (by omega)
theorem room_bd {l : List Node} {s : Sh3} {sl : List Sh3} {p : Int} (h : ShapesOk l s sl p) : 0 ≤ roomTo (sizesV sl) (lastsV l) (l.length + 1) ∧ roomTo (sizesV sl) (lastsV l) (l.length + 1) ≤ 1073741824 := by
  have hs : ∀ j, j < l.length + 1 → 0 ≤ (sizesV sl).getD j 0 ∧ (sizesV sl).getD j 0 ≤ 1048576 := fun j _ => by have := sizesV_bd sl j; omega
  have h1 := room_sum (un := lastsV l) hs (l.length + 1) (Nat.le_refl _)
  have h2 := sumTo_bd hs (l.length + 1) (Nat.le_refl _)
  have := h.few
  omega
end Go.Proofs.Ytlpejbopdmledaa
namespace Go.Proofs.Ytlpejbopdmledaa
set_option linter.unusedVariables false
set_option linter.unusedSimpArgs false
open Go Go.RowKit

theorem wpQuiet_neq_agg {P : Program} {ops : Array Oper} {C : World → Prop} {Q : Act → Prop} {a : Act} {o : Oper} {rest : List Oper} (hw : Region.wanted o (yielded ops a.tmps) = true) (t u : TypeId) (x y : Operand) (ho : o.op = .binOp .neq t x y u)
    (xs ys : Array Value) (hx : a.eval x = .agg xs) (hy : a.eval y = .agg ys) (hm : P.eqGuardType P.depth t = false) (b : Bool) (hrun : ∀ w, (Op.equalIn 10000 t (.agg xs) (.agg ys)).run P w = .ok b w)
    (h : wpQuiet P ops C Q rest (a.put o.dst (.bool (!b)))) : wpQuiet P ops C Q (o :: rest) a :=
  BigFrame.wpQuiet_want hw fun K hK => ⟨.bool (!b), fun w hw' => by
    unfold Oper.quietAt execOp
    simp only [ho, hx, hy, Sem.run_bind, fun w => run_eqGuard_agg (P := P) w .neq t x y xs ys hm, run_neq_struct, hrun, Result.andThen_ok, Sem.run_pure]
    exact ⟨rfl, rfl⟩, hK _ h⟩

theorem wpList_load_midw {P : Program} {ops : Array Oper} {rest : List Oper} {o : Oper} {a : Act} {w : World} {Q : Exit → Act → World → Prop} (hw : Region.wanted o (yielded ops a.tmps) = true) (ty : TypeId) (x : Operand) (ho : o.op = .load ty x)
    (b off : Nat) (hx : a.eval x = .pointer (some ⟨b, off, none⟩)) (cs : List Value) (d : TypeDesc) (hC : w.rangeAt b off cs)
    (hu : P.underlying ty = some d) (hd : d.isRow = true) (hi : (P.info? ty).map (·.size) = some cs.length) (h : wpList P ops Q rest (a.put o.dst (.agg cs.toArray)) w) : wpList P ops Q (o :: rest) a w := by
  refine BigFrame.wpList_want hw fun K hK => ?_
  unfold Oper.wp execOp
  simp only [ho, hx, Instr.loadAt, Instr.sureAddr, Sem.run_bind, Sem.run_pure, Result.andThen_ok, run_loadVar_mid w b off ty cs d hC hu hd hi]
  exact hK _ _ h

theorem run_lits {P : Program} {T E : TypeId} {z : Value} {size bytes : Nat} (w : World) (ei : EI P T E z size bytes) (n : Nat) (ps : Array (Nat × Value)) (vs : Array Value) (h0 : 0 < n * size) (hsm : n * size ≤ 16777216)
    (hf : Instr.fill (fun i => some (i * size, size)) ((Array.range (n * size)).map (z.cells[· % z.cells.size]!)) ps.toList = some vs) :
    (Instr.buildSlice T n ps).run P w = .ok (.slice (some ⟨w.heap.size, 0, none⟩) n n) (w.alloc (.cells vs E)) := by
  obtain ⟨i, hi, hz0, hz1, hz2⟩ := info_parts ei.hi
  have hsz : (sizeOf E).run P w = .ok size w := by simp [sizeOf, typeInfo, hi, hz1]
  have hzv : (zeroValue E).run P w = .ok z w := by simp [zeroValue, typeInfo, hi, hz0]
  have hnot : ¬ (n * size > 2 ^ 24) := by omega
  have hnz : ¬ (n * size = 0) := by omega
  unfold Instr.buildSlice
  simp only [Sem.run_bind, run_underlying ei.ht w, Result.andThen_ok, hsz, if_neg hnot, if_neg hnz, hzv, Sem.run_pure, hf, newRow, newObj]
  rfl

section
variable {P : Program} {ops : Array Oper} {rest : List Oper} {o : Oper} {a : Act} {w : World} {Q : Exit → Act → World → Prop} {T E : TypeId} {z : Value} {size bytes : Nat}
theorem rangeAt_later {w w' : World} {b off : Nat} {cs : List Value} (h : w.rangeAt b off cs) (hb : Below w.heap.size w w') : w'.rangeAt b off cs := fun j v hv => (hb.cell (World.block_lt_of_cell? w _ (h j v hv))).trans (h j v hv)
theorem wpList_lit2 (hgd : o.guard = none) (x y : Operand) (ho : o.op = .buildSlice T 2 #[(0, x), (1, y)]) (ei : EI P T E z size bytes) (u v : Value) (hx : a.eval x = u) (hy : a.eval y = v) (vs : Array Value) (h0 : 0 < 2 * size) (hsm : 2 * size ≤ 16777216)
    (hf : Instr.fill (fun i => some (i * size, size)) ((Array.range (2 * size)).map (z.cells[· % z.cells.size]!)) [(0, u), (1, v)] = some vs)
    (h : wpList P ops Q rest (a.put o.dst (.slice (some ⟨w.heap.size, 0, none⟩) 2 2)) (w.alloc (.cells vs E))) : wpList P ops Q (o :: rest) a w := by
  refine wpList_plain hgd fun K hK => ?_
  unfold Oper.wp execOp
  simp only [ho, List.map_toArray, List.map_cons, List.map_nil, hx, hy, Sem.run_bind, run_lits w ei 2 #[(0, u), (1, v)] vs h0 hsm hf, Sem.run_pure, Result.andThen_ok]
  exact hK _ _ h
end
end Go.Proofs.Ytlpejbopdmledaa
