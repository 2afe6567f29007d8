/-
  The shapes of all values of nodes (layer 27), in numbers: node by node.
  Conditions: none.
  'T{x}' of one struct: a block of its cells (a law for the operation, so that the walk need not run it).
  Conditions: at most 2^24 cells (over any program).
  The shapes of all values (layer 27): graph.Shapes.
  Conditions: at most 1000 weights and 100 biases a node.
-/
import Derived.Test.YtlpejbopdmledaaJ27
import Derived.Test.YtlpejbopdmledaaJ05
import Derived.Test.YtlpejbopdmledaaChecked
namespace Go.Proofs.Ytlpejbopdmledaa
set_option linter.unusedVariables false
set_option linter.unusedSimpArgs false
open Go.RowKit Go.ChangeShapes Go.WideShapes

/-- A shape that may be. -/
structure GoodS (x : Sh3) : Prop where
  h : 1 ≤ x.1 ∧ x.1 ≤ 1024
  v : 1 ≤ x.2.1 ∧ x.2.1 ≤ 1024
  c : 1 ≤ x.2.2 ∧ x.2.2 ≤ 1024
theorem GoodS.of {h v c : Int} (e : ¬ elems h v c = 0) : GoodS (h, v, c) := by
  have := elems_bd e
  exact ⟨by simp only; omega, by simp only; omega, by simp only; omega⟩
theorem slideV_good {h v c k s p o : Int} (e : (slideV h v c k s p o).2 = 0) : GoodS (slideV h v c k s p o).1 := by
  unfold slideV at *
  by_cases c1 : elems h v c = 0
  · rw [if_pos c1] at e; cases e
  rw [if_neg c1] at e ⊢
  by_cases c2 : (stepsV h k s p).2 ≠ 0
  · rw [if_pos c2] at e; exact absurd e c2
  rw [if_neg c2] at e ⊢
  by_cases c3 : (stepsV v k s p).2 ≠ 0
  · rw [if_pos c3] at e; exact absurd e c3
  rw [if_neg c3] at e ⊢
  by_cases c4 : elems (stepsV h k s p).1 (stepsV v k s p).1 o = 0
  · rw [if_pos c4] at e; cases e
  rw [if_neg c4]
  exact .of c4
theorem fitV_good {x : ShE} {want out : Int} {d : Node} (hx : x.2 = 0 → GoodS x.1) (e : (fitV x want out d).2 = 0) : GoodS (fitV x want out d).1 := by
  unfold fitV at *
  by_cases c1 : x.2 ≠ 0
  · rw [if_pos c1] at e; exact absurd e c1
  rw [if_neg c1] at e ⊢
  by_cases c2 : ¬ (d.w.length : Int) = want ∨ 16384 < d.w.length ∨ ¬ (d.bias.length : Int) = out
  · rw [if_pos c2] at e; cases e
  rw [if_neg c2] at e ⊢
  exact hx e
theorem denseV_good {h v c : Int} {d : Node} (e : (denseV h v c d).2 = 0) : GoodS (denseV h v c d).1 := by
  unfold denseV at *
  by_cases c1 : elems h v c = 0 ∨ elems 1 1 d.out = 0
  · rw [if_pos c1] at e; cases e
  rw [if_neg c1] at e ⊢
  by_cases c2 : ¬ (d.w.length : Int) = d.out * elems h v c ∨ 16384 < d.w.length ∨ ¬ (d.bias.length : Int) = d.out
  · rw [if_pos c2] at e; cases e
  rw [if_neg c2]
  exact .of (fun h => c1 (.inr h))
theorem aroundV_good {h v c p : Int} (e : (aroundV h v c p).2 = 0) : GoodS (aroundV h v c p).1 := by
  unfold aroundV at *
  by_cases c1 : p < 0 ∨ 4 < p
  · rw [if_pos c1] at e; cases e
  rw [if_neg c1] at e ⊢
  by_cases c2 : elems (h + 2 * p) (v + 2 * p) c = 0
  · rw [if_pos c2] at e; cases e
  rw [if_neg c2]
  exact .of c2
theorem plainV_good {k h v c h2 v2 c2 p : Int} (e : (plainV k h v c h2 v2 c2 p).2 = 0) : GoodS (plainV k h v c h2 v2 c2 p).1 := by
  unfold plainV at *
  by_cases c1 : elems h v c = 0
  · rw [if_pos c1] at e; cases e
  rw [if_neg c1] at e ⊢
  by_cases q : k = 6 ∧ ([h, v, c] == [h2, v2, c2]) = false
  · rw [if_pos q] at e; cases e
  rw [if_neg q] at e ⊢
  by_cases k8 : k = 8
  · rw [if_pos k8] at e ⊢; exact aroundV_good e
  rw [if_neg k8] at e ⊢
  by_cases k9 : k = 9
  · rw [if_pos k9]
    have := elems_range h v c
    exact ⟨by simp only; omega, by simp only; omega, by simp only; omega⟩
  rw [if_neg k9]
  exact .of c1
theorem shapeV_good {h v c h2 v2 c2 : Int} {d : Node} (e : (shapeV h v c h2 v2 c2 d).2 = 0) : GoodS (shapeV h v c h2 v2 c2 d).1 := by
  unfold shapeV at *
  by_cases k1 : d.kind = 1
  · rw [if_pos k1] at e ⊢; exact fitV_good slideV_good e
  rw [if_neg k1] at e ⊢
  by_cases k2 : d.kind = 2
  · rw [if_pos k2] at e ⊢; exact fitV_good slideV_good e
  rw [if_neg k2] at e ⊢
  by_cases k3 : d.kind = 3
  · rw [if_pos k3] at e ⊢; exact denseV_good e
  rw [if_neg k3] at e ⊢
  by_cases k4 : d.kind = 4 ∨ d.kind = 5
  · rw [if_pos k4] at e ⊢; exact slideV_good e
  rw [if_neg k4] at e ⊢
  exact plainV_good e
theorem nextV_good {d : Node} {l : List Sh3} (e : (nextV d l).2 = 0) : GoodS (nextV d l).1 := by
  unfold nextV at *
  by_cases c1 : checkV d ≠ 0
  · rw [if_pos c1] at e; exact absurd e c1
  rw [if_neg c1] at e ⊢
  by_cases c2 : thereV d l.length = false
  · rw [if_pos c2] at e; cases e
  rw [if_neg c2] at e ⊢
  exact shapeV_good e
theorem GoodS.rep {w : World} {S : Nat → Prop} {x y z : Int} (h : GoodS (x, y, z)) : tShape.rep w S [.int .i64 x, .int .i64 y, .int .i64 z] (x, y, z) := by
  have h1 := h.h
  have h2 := h.v
  have h3 := h.c
  simp only at h1 h2 h3
  exact ⟨_, _, rfl, ⟨rfl, by rw [inK_i64]; simp only; omega⟩, _, _, rfl, ⟨rfl, by rw [inK_i64]; simp only; omega⟩, rfl, by rw [inK_i64]; simp only; omega⟩

/-- The first nodes: the shapes so far, or which node is wrong, and why. -/
inductive Run where
  | on (out : List Sh3)
  | bad (i : Nat) (e : Int)
def noNode : Node := ⟨0, 0, 0, 0, 0, 0, 0, 0, 0, [], [], 0, 0, 0, 0, 0, 0, 0, 0⟩
def runS (l : List Node) (s : Sh3) : Nat → Run
  | 0 => .on [s]
  | k + 1 => match runS l s k with
    | .on out => if (nextV (l.getD k noNode) out).2 ≠ 0 then .bad k (nextV (l.getD k noNode) out).2 else .on (out ++ [(nextV (l.getD k noNode) out).1])
    | .bad i e => .bad i e
def endS (n : Nat) : Run → List Sh3 × Int × Int
  | .on out => (out, (n : Int), 0)
  | .bad i e => ([], (i : Int), e)
def shapesV (l : List Node) (s : Sh3) : List Sh3 × Int × Int :=
  if elems s.1 s.2.1 s.2.2 = 0 then ([], -1, 5) else if l.length = 0 then ([], -1, 12) else if 8 < l.length then ([], -1, 4)
  else endS l.length (runS l s l.length)
theorem runS_bad {l : List Node} {s : Sh3} {k i : Nat} {e : Int} (h : runS l s k = .bad i e) : ∀ m, k ≤ m → runS l s m = .bad i e := by
  intro m hm
  induction m with
  | zero => obtain rfl : k = 0 := by omega
            exact h
  | succ m ih =>
    by_cases hk : k = m + 1
    · subst hk; exact h
    · have := ih (by omega)
      show (match runS l s m with | .on out => _ | .bad i e => _) = _
      rw [this]
theorem runS_next {l : List Node} {s : Sh3} {k : Nat} {out : List Sh3} {d : Node} (h : runS l s k = .on out) (hd : l[k]? = some d) :
    runS l s (k + 1) = if (nextV d out).2 ≠ 0 then .bad k (nextV d out).2 else .on (out ++ [(nextV d out).1]) := by
  have e : l.getD k noNode = d := by rw [List.getD_eq_getElem?_getD, hd]; rfl
  show (match runS l s k with | .on out => _ | .bad i e => _) = _
  rw [h]
  simp only [e]
end Go.Proofs.Ytlpejbopdmledaa
set_option linter.unusedVariables false
set_option linter.unusedSimpArgs false
namespace Go.Proofs.Ytlpejbopdmledaa
open Go Go.RowKit

theorem fold_putAt (off : Nat) : ∀ (l : List Value) (k : Nat) (cs : Array Value), (l.zipIdx k).foldl (fun cs (x : Value × Nat) => cs.setIfInBounds (off + x.2) x.1) cs = putAt cs (off + k) l
  | [], _, _ => rfl
  | v :: r, k, cs => by
    rw [List.zipIdx_cons, List.foldl_cons, fold_putAt off r (k + 1)]
    rfl
theorem fill_one (cells vs : Array Value) (size : Nat) (h1 : vs.size = size) (h2 : cells.size = size) : Instr.fill (fun i => some (i * size, size)) cells [(0, .agg vs)] = some vs := by
  have hv : (Value.agg vs).cells = vs := rfl
  unfold Instr.fill
  simp only [hv, Nat.zero_mul, Nat.zero_add]
  rw [if_neg (by simp; omega)]
  unfold Instr.fill
  have := fold_putAt 0 vs.toList 0 cells
  simp only [Nat.zero_add] at this
  rw [← Array.foldl_toList, Array.toList_zipIdx, this]
  congr 1
  exact putAt_full (by omega)

theorem run_lit1 {P : Program} {T E : TypeId} {z : Value} {size bytes : Nat} (w : World) (ei : EI P T E z size bytes) (vs : Array Value) (hvs : vs.size = size) (hsm : size ≤ 16777216) :
    (Instr.buildSlice T 1 #[(0, .agg vs)]).run P w = .ok (.slice (some ⟨w.heap.size, 0, none⟩) 1 1) (w.alloc (.cells vs E)) := by
  obtain ⟨i, hi, hz0, hz1, hz2⟩ := info_parts ei.hi
  have hp := ei.hp
  have hsz : (sizeOf E).run P w = .ok size w := by simp [sizeOf, typeInfo, hi, hz1]
  have hzv : (zeroValue E).run P w = .ok z w := by simp [zeroValue, typeInfo, hi, hz0]
  have hf := fill_one ((Array.range (1 * size)).map (z.cells[· % z.cells.size]!)) vs size hvs (by simp)
  have hnot : ¬ (1 * size > 2 ^ 24) := by omega
  have hnz : ¬ (1 * size = 0) := by omega
  unfold Instr.buildSlice
  simp only [Sem.run_bind, run_underlying ei.ht w, Result.andThen_ok, hsz, if_neg hnot, if_neg hnz, hzv, Sem.run_pure, hf, newRow, newObj]
  rfl

section
variable {P : Program} {ops : Array Oper} {rest : List Oper} {o : Oper} {a : Act} {w : World} {Q : Exit → Act → World → Prop} {T E : TypeId} {z : Value} {size bytes : Nat}
theorem wpList_lit1 (hgd : o.guard = none) (x : Operand) (ho : o.op = .buildSlice T 1 #[(0, x)]) (ei : EI P T E z size bytes) (vs : Array Value) (hx : a.eval x = .agg vs) (hvs : vs.size = size) (hsm : size ≤ 16777216)
    (h : wpList P ops Q rest (a.put o.dst (.slice (some ⟨w.heap.size, 0, none⟩) 1 1)) (w.alloc (.cells vs E))) : wpList P ops Q (o :: rest) a w := by
  refine wpList_plain hgd fun K hK => ?_
  unfold Oper.wp execOp
  simp only [ho, List.map_toArray, List.map_cons, List.map_nil, hx, Sem.run_bind, run_lit1 w ei vs hvs hsm, Sem.run_pure, Result.andThen_ok]
  exact hK _ _ h
end
end Go.Proofs.Ytlpejbopdmledaa
namespace Go.Proofs.Ytlpejbopdmledaa
set_option linter.unusedVariables false
set_option linter.unusedSimpArgs false
open Go.RowKit Go.ChangeShapes Go.WideShapes
set_option maxRecDepth 100000

theorem tNode_size : tNode.size = 19 := rfl
theorem Sl.node_at {w : World} {S : Nat → Prop} {A : Option Addr} {n cap : Nat} {l : List Node} (h : Sl tNode w S A n cap l) (i : Nat) (hi : i < n) :
    ∃ d b off W nw cw B nb cb, l[i]? = some d ∧ A = some ⟨b, off, none⟩ ∧ S b ∧ b < w.heap.size ∧ NodeIn d ∧ Sl (tInt .i8) w S W nw cw d.w ∧ Sl (tInt .i32) w S B nb cb d.bias ∧ w.rangeAt b (off + i * 19) [.int .i64 d.kind, .int .i64 d.a, .int .i64 d.b, .int .i64 d.k, .int .i64 d.s, .int .i64 d.p, .int .i64 d.out, .int .i8 d.za, .int .i8 d.zb, .slice W nw cw, .slice B nb cb, .int .i32 d.qm, .int .i64 d.qs, .int .i8 d.qz, .int .i32 d.rm, .int .i64 d.rs, .int .i8 d.rz, .int .i8 d.lo, .int .i8 d.hi] := by
  obtain ⟨d, b, off, xs, hx, hA, hS, hb, hr, hl, hc⟩ := h.cells i hi (by decide)
  obtain ⟨W, nw, cw, B, nb, cb, rfl, hd, h1, h2⟩ := node_open hr
  rw [tNode_size] at hc
  exact ⟨d, b, off, W, nw, cw, B, nb, cb, hx, hA, hS, hb, hd, h1, h2, fun j v hv => by have := hc j v hv; rwa [← Nat.add_assoc] at this⟩

theorem ei_shape : EI Try.prog 30 24 (.agg #[.int .i64 0, .int .i64 0, .int .i64 0]) 3 24 := ⟨Try.underlying30, by kernel_rfl, rfl, by decide⟩
theorem Own.one {α : Type} {t : Ty α} {W : World} {S : Nat → Prop} {E : TypeId} {base : Nat} {cs : Array Value} {x : α} (hb : base ≤ W.heap.size) (hr : t.rep (W.alloc (.cells cs E)) S cs.toList x) :
    Own t (W.alloc (.cells cs E)) S base E (.slice (some ⟨W.heap.size, 0, none⟩) 1 1) 1 [x] :=
  have hl := t.len hr
  ⟨cs.toList, ⟨by simp [hl], .inr ⟨_, 1, cs, rfl, hb, heap_alloc_new _ _, Nat.le_refl _, by decide, by simpa using hl, by rw [List.take_of_length_le (by omega)]⟩⟩, RowsOf.one hr⟩

def RetShapes (x : List Sh3 × Int × Int) (w : World) (e : Ending) (w' : World) : Prop :=
  ∃ A m cap, e = .returned (.tuple #[.slice A m cap, .int .i64 x.2.1, .int .i64 x.2.2]) ∧ Sl tShape w' (bin w.heap.size w'.heap.size) A m cap x.1 ∧ Below w.heap.size w w'
theorem RetShapes.none {i e : Int} {w w' : World} (hb : Below w.heap.size w w') : RetShapes ([], i, e) w (.returned (.tuple #[.slice none 0 0, .int .i64 i, .int .i64 e])) w' :=
  ⟨Option.none, 0, 0, rfl, Sl.nil _ _ _, hb⟩

set_option maxHeartbeats 16000000 in
theorem shapes_any (A : Option Addr) (n cap : Nat) (l : List Node) (h v c : Int) (w : World) (hs : Sl tNode w (blo w.heap.size) A n cap l) (i0 : InK .i64 h) (i1 : InK .i64 v) (i2 : InK .i64 c) (hf : ∀ d ∈ l, d.w.length ≤ 1000 ∧ d.bias.length ≤ 100) :
    Calls Try.prog 8 #[.slice A n cap, .agg #[.int .i64 h, .int .i64 v, .int .i64 c]] w (RetShapes (shapesV l (h, v, c)) w) := by
  have hn := hs.n_eq
  obtain ⟨r, hr⟩ : ∃ r, shapesV l (h, v, c) = r := ⟨_, rfl⟩
  rw [hr]
  unfold shapesV at hr
  simp only [hn] at hr
  have RI := Lib.hid (fun w => shapeRight_any h c v w i0 i1 i2)
  have m0 := (elems_range h v c).1
  have GS := Lib.hid (GoodS.of (h := h) (v := v) (c := c))
  obtain ⟨m, hm⟩ : ∃ m, elems h v c = m := ⟨_, rfl⟩
  rw [hm] at hr RI m0 GS
  have VV := Lib.hid hr.symm
  have H := Lib.hid hs
  have HF := Lib.hid hf
  have hmax : n ≤ 9223372036854775807 := Nat.le_trans hs.cap_le hs.max_le
  clear hr hm hs hf i0 i1 i2 hn
  have FR := Lib.hid (Far.refl w)
  obtain ⟨w1, hw_w1⟩ : ∃ nw_, w.alloc (.cells #[.int .i64 h, .int .i64 v, .int .i64 c] 24) = nw_ := ⟨_, rfl⟩
  have k_w1 : Below w.heap.size w w1 := by rw [← hw_w1]; exact (Below.refl _ _).alloc (Nat.le_refl _) _
  replace FR := Lib.hid (FR.out.fut k_w1)
  have BA := Lib.hid (show Blk w1 w.heap.size 24 #[.int .i64 h, .int .i64 v, .int .i64 c] by rw [← hw_w1]; exact Blk.now _ _ _ _ rfl)
  clear k_w1
  have l1 : w.heap.size < w1.heap.size := by rw [← hw_w1]; simp
  by_cases c1 : m = 0
  · have t1 : decide (0 < m) = false := by simp; omega
    have R := Lib.hid (show r = ([], -1, 5) by rw [VV.out, if_pos c1])
    clear c1 VV
    go_enter Try.func8, Try.ntmps8
    go_wp2_with (refine wpList_load_row rfl 24 (.tmp 3) rfl w.heap.size rfl _ _ (0, 0) _ BA.out.heap Try.underlying24 rfl (by kernel_rfl) ?_)
    clear hw_w1
    refine (RI.out _).mono ?_
    rintro e w2 ⟨rfl, hb⟩
    replace FR := Lib.hid (FR.out.fut hb)
    replace BA := Lib.hid (BA.out.fut hb)
    clear hb
    go_wp2_with fail
    go_ret3
    rw [R.out]
    exact RetShapes.none FR.out.out
  have t1 : decide (0 < m) = true := by simp; omega
  have good := Lib.hid (GS.out c1)
  by_cases c2 : n = 0
  · have t2 : ((n : Int) == 0) = true := by simp; omega
    have R := Lib.hid (show r = ([], -1, 12) by rw [VV.out, if_neg c1, if_pos c2])
    clear c1 c2 VV
    go_enter Try.func8, Try.ntmps8
    go_wp2_with (refine wpList_load_row rfl 24 (.tmp 3) rfl w.heap.size rfl _ _ (0, 0) _ BA.out.heap Try.underlying24 rfl (by kernel_rfl) ?_)
    clear hw_w1
    refine (RI.out _).mono ?_
    rintro e w2 ⟨rfl, hb⟩
    replace FR := Lib.hid (FR.out.fut hb)
    replace BA := Lib.hid (BA.out.fut hb)
    clear hb
    go_wp2_with fail
    go_ret3
    rw [R.out]
    exact RetShapes.none FR.out.out
  have t2 : ((n : Int) == 0) = false := by simp; omega
  by_cases c3 : 8 < n
  · have t3 : decide (8 < (n : Int)) = true := by simp; omega
    have R := Lib.hid (show r = ([], -1, 4) by rw [VV.out, if_neg c1, if_neg c2, if_pos c3])
    clear c1 c2 c3 VV
    go_enter Try.func8, Try.ntmps8
    go_wp2_with (refine wpList_load_row rfl 24 (.tmp 3) rfl w.heap.size rfl _ _ (0, 0) _ BA.out.heap Try.underlying24 rfl (by kernel_rfl) ?_)
    clear hw_w1
    refine (RI.out _).mono ?_
    rintro e w2 ⟨rfl, hb⟩
    replace FR := Lib.hid (FR.out.fut hb)
    replace BA := Lib.hid (BA.out.fut hb)
    clear hb
    go_wp2_with fail
    go_ret3
    rw [R.out]
    exact RetShapes.none FR.out.out
  have t3 : decide (8 < (n : Int)) = false := by simp; omega
  have hn8 : n ≤ 8 := by omega
  have V2 := Lib.hid (show r = endS n (runS l (h, v, c) n) by rw [VV.out, if_neg c1, if_neg c2, if_neg c3])
  clear c1 c2 c3 VV GS
  go_enter Try.func8, Try.ntmps8
  go_wp2_with (refine wpList_load_row rfl 24 (.tmp 3) rfl w.heap.size rfl _ _ (0, 0) _ BA.out.heap Try.underlying24 rfl (by kernel_rfl) ?_)
  clear hw_w1
  refine (RI.out _).mono ?_
  rintro e w2 ⟨rfl, hb⟩
  replace FR := Lib.hid (FR.out.fut hb)
  replace BA := Lib.hid (BA.out.fut hb)
  clear hb
  clear RI
  go_wp2_with (first
    | (refine wpList_load_row rfl 24 (.tmp 3) rfl w.heap.size rfl _ _ (0, 0) _ BA.out.heap Try.underlying24 rfl (by kernel_rfl) ?_)
    | (refine wpList_lit1 rfl (.tmp 24) rfl ei_shape #[.int .i64 h, .int .i64 v, .int .i64 c] rfl rfl (by decide) ?_))
  have z2 := FR.out.size
  go_loopw [7, 28] (fun u i wr => ∃ (k : Nat) (out : List Sh3), k ≤ n ∧ i = .int .i64 k ∧ runS l (h, v, c) k = .on out ∧ Own tShape wr (fun _ => False) w.heap.size 24 u (k + 1) out ∧ Below w.heap.size w wr) (fun _ i _ => n - (intOf i).toNat)
  case atStart => exact ⟨0, [(h, v, c)], Nat.zero_le _, rfl, rfl, Own.one z2 good.out.rep, FR.out.out.alloc z2 _⟩
  case round =>
    clear FR BA z2 t1 t2 t3
    obtain ⟨k, out, hk, rfl, hrun, hown, hb⟩ := hrel
    have HB := Lib.hid hb
    have ON := Lib.hid hown
    have HR := Lib.hid hrun
    obtain ⟨A1, c1, rfl, sl⟩ := hown.sl (S' := bin w.heap.size wr.heap.size) (by decide) (fun b h1 h2 => ⟨h1, h2⟩) (fun _ h => h.elim)
    have SL := Lib.hid sl
    clear hb hown hrun sl
    by_cases hlt : k < n
    · have p1 : (k : Int) < (n : Int) := by omega
      obtain ⟨d, b0, off, W, nw, cw, B, nb, cb, hd, rfl, _, _, hin, hw8, hw32, hrg⟩ := (H.out.below HB.out (fun _ h => h)).node_at k hlt
      have hsz := HF.out d (List.mem_of_getElem? hd)
      have hnx := runS_next HR.out hd
      have q8 := hw8.n_eq
      have q32 := hw32.n_eq
      have RG := Lib.hid hrg
      have HIN := Lib.hid hin
      have HW := Lib.hid (hw8.more (blo_more HB.out.size))
      have HW32 := Lib.hid (hw32.more (blo_more HB.out.size))
      have NG := Lib.hid (nextV_good (d := d) (l := out))
      obtain ⟨⟨⟨x1, x2, x3⟩, xe⟩, hx⟩ : ∃ x, nextV d out = x := ⟨_, rfl⟩
      rw [hx] at hnx NG
      simp only at hnx
      have NX := Lib.hid hnx
      have HX := Lib.hid hx
      clear hd hin hw8 hw32 hrg hnx hx
      have zr := HB.out.size
      go_wp2_with (first
        | (refine wpList_load_mid rfl 53 (.tmp 31) rfl b0 (off + k * 19) rfl _ _ RG.out Try.underlying53 rfl (by kernel_rfl) ?_)
        | (refine wpList_store_all rfl 53 (.tmp 9) (.tmp 32) rfl wr.heap.size #[.int .i64 d.kind, .int .i64 d.a, .int .i64 d.b, .int .i64 d.k, .int .i64 d.s, .int .i64 d.p, .int .i64 d.out, .int .i8 d.za, .int .i8 d.zb, .slice W nw cw, .slice B nb cb, .int .i32 d.qm, .int .i64 d.qs, .int .i8 d.qz, .int .i32 d.rm, .int .i64 d.rs, .int .i8 d.rz, .int .i8 d.lo, .int .i8 d.hi] rfl rfl _ _ (Blk.now _ _ _ _ rfl) rfl (by kernel_rfl) (by simp [Value.oneCell']) ?_; intro w7 B7 g7; have G7 := Lib.hid (show Below wr.heap.size wr w7 from ((Below.refl _ _).alloc (Nat.le_refl _) _).grown g7 (by simp) (fun k h => by have := Option.some.inj h; omega)); have BD := Lib.hid B7; clear B7 g7)
        | (refine wpList_load_row rfl 53 (.tmp 9) rfl wr.heap.size rfl _ _ (0, 0) _ BD.out.heap Try.underlying53 rfl (by kernel_rfl) ?_))
      have z7 := G7.out.size
      refine (next_any d W nw cw B nb cb A1 (k + 1) c1 out w7 HIN.out (HW.out.later G7.out (Nat.le_refl _)) (HW32.out.later G7.out (Nat.le_refl _)) (by omega) (by omega) ((SL.out.more bin_blo).later G7.out (Nat.le_refl _))).mono ?_
      rintro e w8 ⟨he, hb⟩
      rw [HX.out] at he
      simp only [retS] at he
      subst he
      have G8 := Lib.hid (below_later hb G7.out)
      have O8 := Lib.hid ((ON.out.below G7.out (Nat.le_refl _) (fun _ h => h.elim)).below hb (Nat.le_refl _) (fun _ h => h.elim))
      have z8 := hb.size
      clear hb HX
      by_cases hxe : xe = 0
      · subst hxe
        have t4 : ((0 : Int) != 0) = false := rfl
        have gx := Lib.hid (NG.out rfl)
        rw [if_neg (by decide)] at NX
        clear NG
        go_wp2_with (first
          | (refine wpList_store_all rfl 24 (.tmp 10) (.tmp 37) rfl w8.heap.size #[.int .i64 x1, .int .i64 x2, .int .i64 x3] rfl rfl _ _ (Blk.now _ _ _ _ rfl) rfl (by kernel_rfl) (by simp [Value.oneCell']) ?_; intro w9 B9 g9; have G9 := Lib.hid (show Below w8.heap.size w8 w9 from ((Below.refl _ _).alloc (Nat.le_refl _) _).grown g9 (by simp) (fun k h => by have := Option.some.inj h; omega)); have BX := Lib.hid B9; clear B9 g9)
          | (refine wpList_load_row rfl 24 (.tmp 10) rfl w8.heap.size rfl _ _ (0, 0) _ BX.out.heap Try.underlying24 rfl (by kernel_rfl) ?_)
          | (refine wpList_lit1 rfl (.tmp 44) rfl ei_shape #[.int .i64 x1, .int .i64 x2, .int .i64 x3] rfl rfl (by decide) ?_)
          | (at_builtin; refine wpList_push (W := w9) (cs := #[.int .i64 x1, .int .i64 x2, .int .i64 x3]) (E := 24) (t := tShape) (S := fun _ => False) (base := w.heap.size) rfl (.tmp 43) (.tmp 45) rfl ei_shape rfl (O8.out.below G9.out (Nat.le_refl _) (fun _ h => h.elim)) 1 rfl (x1, x2, x3) gx.out.rep (by unfold maxLen; omega) (by omega) (by have := G9.out.size; omega) (fun _ h => h.elim) ?_; intro v' wz ownz gz atz))
        have bz := (below_later G9.out (below_later G8.out HB.out)).grown gz (by have := G9.out.size; omega) (fun j hj => (O8.out.lt j hj).1)
        exact ⟨⟨k + 1, out ++ [(x1, x2, x3)], by omega, by go_num, NX.out, ownz, bz⟩, by simp [intOf]; omega⟩
      · have t4 : (xe != 0) = true := by simpa using hxe
        rw [if_pos hxe] at NX
        have R := Lib.hid (show r = ([], (k : Int), xe) by rw [V2.out, runS_bad NX.out n (by omega)]; rfl)
        clear hxe NG NX V2
        go_wp2_with (refine wpList_store_all rfl 24 (.tmp 10) (.tmp 37) rfl w8.heap.size #[.int .i64 x1, .int .i64 x2, .int .i64 x3] rfl rfl _ _ (Blk.now _ _ _ _ rfl) rfl (by kernel_rfl) (by simp [Value.oneCell']) ?_; intro w9 B9 g9; have G9 := Lib.hid (show Below w8.heap.size w8 w9 from ((Below.refl _ _).alloc (Nat.le_refl _) _).grown g9 (by simp) (fun k h => by have := Option.some.inj h; omega)); clear B9 g9)
        go_ret3
        rw [R.out]
        exact RetShapes.none (below_later G9.out (below_later G8.out HB.out))
    · obtain rfl : k = n := by omega
      have R := Lib.hid (show r = (out, (k : Int), 0) by rw [V2.out, HR.out]; rfl)
      clear hlt hk V2
      go_wp2_with fail
      go_ret3
      rw [R.out]
      exact ⟨A1, _, c1, rfl, SL.out, HB.out⟩
end Go.Proofs.Ytlpejbopdmledaa
