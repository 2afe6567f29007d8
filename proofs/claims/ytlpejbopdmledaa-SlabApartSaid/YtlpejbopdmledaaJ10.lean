/-
  A region that draws its order and ends in a forced tail: ahead of the tail's first operation a condition on the world is kept, so that loads may be taken first; from it on nothing is asked.
  Conditions: none (over any program).
  One cell of a known block is stored, the world behind it opaque; facts taken over a store into another block.
  Conditions: none (over any program).
  A node that is handed back (layer 25).
  Conditions: none.
-/
import Derived.Test.YtlpejbopdmledaaJ01
import Derived.OrdersHeld
import Derived.StillTail
import Derived.Deep.RegionHeld3
import Derived.Test.YtlpejbopdmledaaJ05
import Derived.Test.YtlpejbopdmledaaJ02
set_option linter.unusedVariables false
set_option linter.unusedSimpArgs false
namespace Go.Proofs.Ytlpejbopdmledaa
open Go

section
variable {P : Program} {ops : Array Oper} {Q : Exit → Act → World → Prop} {md : Region.Mode} {C : World → Prop} {k0 : Nat}

def wpAnyT (P : Program) (md : Region.Mode) (ops : Array Oper) (Q : Exit → Act → World → Prop) (C : World → Prop) (k0 : Nat) : Nat → Array Bool → Act → World → Prop
  | 0, listed, a, w => Region.ready md ops listed = [] ∧ Q .normal a w
  | fuel + 1, listed, a, w =>
    (Region.ready md ops listed = [] → Q .normal a w) ∧
    ∀ i ∈ Region.ready md ops listed, wpOp P ops Q i (fun a' w' => if i = k0 then wpAny P md ops Q fuel (listed.setIfInBounds i true) a' w' else C w' ∧ wpAnyT P md ops Q C k0 fuel (listed.setIfInBounds i true) a' w') a w

theorem wpAny_of_T : ∀ (fuel : Nat) (listed : Array Bool) (a : Act) (w : World), wpAnyT P md ops Q C k0 fuel listed a w → wpAny P md ops Q fuel listed a w
  | 0, _, _, _, h => h
  | fuel + 1, _, _, _, h => ⟨h.1, fun i hi => wpOp_mono (fun a' w' h' => by
      by_cases e : i = k0
      · rw [if_pos e] at h'; exact h'
      · rw [if_neg e] at h'; exact wpAny_of_T fuel _ a' w' h'.2) (h.2 i hi)⟩

theorem wpAnyT_first {i : Nat} {oi : Oper} {v : Value} (hi : ops[i]? = some oi) (hsel : ∀ (j : Nat) (o : Oper) cs b, ops[j]? = some o → o.op ≠ .select cs b)
    (hQ : ∀ c a w, Q (.panic c) (a.put oi.dst v) w → Q (.panic c) a w) (hw : Region.waitsFor md ops k0 i = true) (hne : i ≠ k0) :
    ∀ (fuel : Nat) (listed : Array Bool) (a : Act) (w : World),
      (∀ j oj, ops[j]? = some oj → j ≠ i → listed.getD j true = false → (∀ e ∈ oj.after, Region.binds md e = true → e.on ≠ i) → oi.apart ops oj = true) →
      i ∈ Region.ready md ops listed → YieldsIf P ops C oi v a → C w →
      wpAnyT P md ops Q C k0 fuel (listed.setIfInBounds i true) (a.put oi.dst v) w → wpAnyT P md ops Q C k0 (fuel + 1) listed a w := by
  obtain ⟨ok0, hok0, ek, hek, hbk, hon⟩ := Region.waitsFor_spec hw
  intro fuel
  induction fuel with
  | zero =>
    intro listed a w _ hr hy hS H
    refine ⟨fun h => (by rw [h] at hr; cases hr), fun j hj => ?_⟩
    by_cases hji : j = i
    · subst hji
      rw [show (fun a' w' => if j = k0 then wpAny P md ops Q 0 (listed.setIfInBounds j true) a' w' else C w' ∧ wpAnyT P md ops Q C k0 0 (listed.setIfInBounds j true) a' w') = (fun a' w' => C w' ∧ wpAnyT P md ops Q C k0 0 (listed.setIfInBounds j true) a' w') from by funext a' w'; rw [if_neg hne]]
      exact hy.wpOp hi hS ⟨hS, H⟩
    · have := ready_mono hj hji
      rw [H.1] at this
      cases this
  | succ fuel ih =>
    intro listed a w hfree hr hy hS H
    refine ⟨fun h => (by rw [h] at hr; cases hr), fun j hj => ?_⟩
    by_cases hji : j = i
    · subst hji
      rw [show (fun a' w' => if j = k0 then wpAny P md ops Q (fuel + 1) (listed.setIfInBounds j true) a' w' else C w' ∧ wpAnyT P md ops Q C k0 (fuel + 1) (listed.setIfInBounds j true) a' w') = (fun a' w' => C w' ∧ wpAnyT P md ops Q C k0 (fuel + 1) (listed.setIfInBounds j true) a' w') from by funext a' w'; rw [if_neg hne]]
      exact hy.wpOp hi hS ⟨hS, H⟩
    · obtain ⟨hjun, oj, hoj, hall⟩ := mem_ready.1 hj
      have hnot : ∀ e ∈ oj.after, Region.binds md e = true → e.on ≠ i := fun e he hb heq => by
        have h1 := hall e he hb
        have h0 := (mem_ready.1 hr).1
        rw [heq] at h1
        rcases Nat.lt_or_ge i listed.size with h' | h'
        · simp [h'] at h0 h1; rw [h0] at h1; cases h1
        · simp [Array.getElem?_eq_none h'] at h1
      have hjk : j ≠ k0 := fun e => by
        subst e
        have : ok0 = oj := Option.some.inj (hok0.symm.trans hoj)
        subst this
        exact hnot ek hek hbk hon
      have h1 := H.2 j (ready_mono hj hji)
      rw [show (fun a' w' => if j = k0 then wpAny P md ops Q fuel ((listed.setIfInBounds i true).setIfInBounds j true) a' w' else C w' ∧ wpAnyT P md ops Q C k0 fuel ((listed.setIfInBounds i true).setIfInBounds j true) a' w') = (fun a' w' => C w' ∧ wpAnyT P md ops Q C k0 fuel ((listed.setIfInBounds i true).setIfInBounds j true) a' w') from by funext a' w'; rw [if_neg hjk]] at h1
      rw [show (fun a' w' => if j = k0 then wpAny P md ops Q (fuel + 1) (listed.setIfInBounds j true) a' w' else C w' ∧ wpAnyT P md ops Q C k0 (fuel + 1) (listed.setIfInBounds j true) a' w') = (fun a' w' => C w' ∧ wpAnyT P md ops Q C k0 (fuel + 1) (listed.setIfInBounds j true) a' w') from by funext a' w'; rw [if_neg hjk]]
      have h2 := wpOp_putIf hoj (hfree j oj hoj hji hjun hnot) (fun cs b => hsel i oi cs b hi) (fun cs b => hsel j oj cs b hoj) hQ hy h1
      have hfree' : ∀ k ok, ops[k]? = some ok → k ≠ i → (listed.setIfInBounds j true).getD k true = false →
          (∀ e ∈ ok.after, Region.binds md e = true → e.on ≠ i) → oi.apart ops ok = true := fun k ok hk hki hun hno => by
        refine hfree k ok hk hki ?_ hno
        by_cases hjk : j = k
        · subst hjk; exact hjun
        · rw [getD_set_ne true hjk] at hun; exact hun
      refine wpOp_mono (fun a' w' h3 => ⟨h3.2.1, ih (listed.setIfInBounds j true) a' w' hfree' (ready_mono hr (Ne.symm hji)) h3.1 h3.2.1 ?_⟩) h2
      rw [Array.setIfInBounds_comm _ _ hji]
      exact h3.2.2

/-- Take number i first: k0 waits for it, and it yields v in every world that meets C. -/
theorem wpAnyT_take {i : Nat} {oi : Oper} {v : Value} {fuel : Nat} {listed : Array Bool} {a : Act} {w : World} (hi : ops[i]? = some oi)
    (hs : Region.noSelect ops = true) (hf : Region.free md ops listed i = true) (hr : (Region.ready md ops listed).contains i = true) (hw : Region.waitsFor md ops k0 i = true) (hne : (i == k0) = false)
    (hQ : ∀ c a w, Q (.panic c) (a.put oi.dst v) w → Q (.panic c) a w) (hy : YieldsIf P ops C oi v a) (hS : C w)
    (h : wpAnyT P md ops Q C k0 fuel (listed.setIfInBounds i true) (a.put oi.dst v) w) : wpAnyT P md ops Q C k0 (fuel + 1) listed a w :=
  wpAnyT_first hi (Region.noSelect_spec hs) hQ hw (by simpa using hne) fuel listed a w (Region.free_spec hi hf) (by simpa using hr) hy hS h

/-- Number i, not the tail's, is the only one that may come up: behind it C is shown anew. -/
theorem wpAnyT_one {i : Nat} {o : Oper} {fuel : Nat} {listed : Array Bool} {a : Act} {w : World} (hr : Region.ready md ops listed = [i]) (hne : (i == k0) = false) (ho : ops[i]? = some o)
    (h : ∀ K' : Act → World → Prop, Shut (∀ a w, C w → (C w → wpAnyT P md ops Q C k0 fuel (listed.setIfInBounds i true) a w) → K' a w) → if Region.wanted o (yielded ops a.tmps) = true then Oper.wp P o a w K' Q else K' (a.put o.dst undef) w) :
    wpAnyT P md ops Q C k0 (fuel + 1) listed a w := by
  refine ⟨fun h0 => (by rw [hr] at h0; cases h0), fun j hj => ?_⟩
  rw [hr] at hj
  obtain rfl : j = i := by simpa using hj
  refine wpOp_step ho (fun K' hK => h K' (fun a w hS hW => hK a w ?_))
  rw [if_neg (by simpa using hne)]
  exact ⟨hS, hW hS⟩

/-- The tail: its operations come one behind the other. -/
theorem wpAnyT_tail {l : List Oper} {fuel : Nat} {listed : Array Bool} {a : Act} {w : World} (t : List Oper) (o : Oper) (ht : (l.drop k0) = o :: t) (hf : fuel = t.length + 1) (hB : Region.seqB md l.toArray fuel k0 listed = true)
    (h : wpList P l.toArray Q (o :: t) a w) : wpAnyT P md l.toArray Q C k0 fuel listed a w := by
  subst hf
  have H := wpAny_of_seq (md := md) (o :: t) k0 listed a w (fun j => by rw [← ht]; simp [List.getElem?_drop]) hB h
  have hr : Region.ready md l.toArray listed = [k0] := by
    simp only [Region.seqB, Bool.and_eq_true, decide_eq_true_eq] at hB
    exact hB.1
  refine ⟨fun h0 => (by rw [hr] at h0; cases h0), fun j hj => ?_⟩
  have hj' := hj
  rw [hr] at hj'
  obtain rfl : j = k0 := by simpa using hj'
  refine wpOp_mono (fun a' w' h' => ?_) (H.2 j hj)
  rw [if_pos rfl]
  exact h'

theorem wp_region_T {id : Nat} {a : Act} {w : World} (C : World → Prop) (k0 : Nat) (hm : P.follows .mixedOrders = true) (hS : C w.drew)
    (h : C w.drew → wpAnyT P .any ops Q C k0 ops.size (Array.replicate ops.size false) a w.drew) : (Code.region id ops true).wp P Q a w :=
  wp_region_any hm (wpAny_of_T _ _ _ _ (h hS))

/-- The same, behind operations that were taken first. -/
theorem wpAny_enterT {fuel : Nat} {listed : Array Bool} {a : Act} {w : World} (C : World → Prop) (k0 : Nat) (hS : C w) (h : C w → wpAnyT P md ops Q C k0 fuel listed a w) : wpAny P md ops Q fuel listed a w :=
  wpAny_of_T _ _ _ _ (h hS)
end
end Go.Proofs.Ytlpejbopdmledaa
set_option linter.unusedVariables false
set_option linter.unusedSimpArgs false
namespace Go.Proofs.Ytlpejbopdmledaa
open Go Go.RowKit

theorem Blk.away {w w' : World} {g m : Nat} {e : TypeId} {cs : Array Value} (h : Blk w g e cs) (hg : w.grownBy w' (some m)) (hne : g < m ∨ m < g) : Blk w' g e cs :=
  ⟨(hg.block g h.lt (fun e => by have := Option.some.inj e; omega)).trans h.heap⟩
theorem Far.away {w0 w w' : World} {m : Nat} (h : Far w0 w) (hg : w.grownBy w' (some m)) (hm : w0.heap.size ≤ m) : Far w0 w' :=
  ⟨h.out.grown hg h.out.size (fun k hk => by have := Option.some.inj hk; omega)⟩
theorem New.away {w0 : World} {α : Type} {t : Ty α} {w w' : World} {A : Option Addr} {n cap m : Nat} {l : List α} (h : New w0 t w A n cap l) (hg : w.grownBy w' (some m)) (hm : m < w0.heap.size) : New w0 t w' A n cap l :=
  ⟨(h.out.keep fun b hb => hg.block b hb.2 (fun e => by have := Option.some.inj e; have := hb.1; omega)).more fun b hb => ⟨hb.1, Nat.lt_of_lt_of_le hb.2 hg.size⟩⟩
theorem Sl.away {α : Type} {t : Ty α} {w w' : World} {n0 m : Nat} {A : Option Addr} {n cap : Nat} {l : List α} (h : Sl t w (blo n0) A n cap l) (hg : w.grownBy w' (some m)) (hm : n0 ≤ m) (hn : n0 ≤ w.heap.size) : Sl t w' (blo n0) A n cap l :=
  h.keep fun b hb => hg.block b (Nat.lt_of_lt_of_le hb hn) (fun e => by have := Option.some.inj e; have : b < n0 := hb; omega)
/-- A slice of what was there when the call began. -/
structure Old (w0 : World) {α : Type} (t : Ty α) (w : World) (A : Option Addr) (n cap : Nat) (l : List α) : Prop where
  out : Sl t w (blo w0.heap.size) A n cap l
  le : w0.heap.size ≤ w.heap.size
section
variable {w0 w w' : World} {α : Type} {t : Ty α} {A : Option Addr} {n cap m : Nat} {l : List α}
theorem Old.now (h : Sl t w (blo w.heap.size) A n cap l) : Old w t w A n cap l := ⟨h, Nat.le_refl _⟩
theorem Old.fut (h : Old w0 t w A n cap l) (hb : Below w.heap.size w w') : Old w0 t w' A n cap l := ⟨h.out.below hb (fun b hb => Nat.lt_of_lt_of_le hb h.le), Nat.le_trans h.le hb.size⟩
theorem Old.away (h : Old w0 t w A n cap l) (hg : w.grownBy w' (some m)) (hm : w0.heap.size ≤ m) : Old w0 t w' A n cap l :=
  ⟨h.out.keep fun b hb => hg.block b (Nat.lt_of_lt_of_le hb h.le) (fun e => by have := Option.some.inj e; have : b < w0.heap.size := hb; omega), Nat.le_trans h.le hg.size⟩
theorem Old.all (h : Old w0 t w A n cap l) : Sl t w (blo w.heap.size) A n cap l := h.out.more (blo_more h.le)
theorem Old.draw (h : Old w0 t w A n cap l) : Old w0 t w.drew A n cap l := ⟨h.out.keep fun b hb => rfl, h.le⟩
end
theorem Blk.draw {w : World} {g : Nat} {e : TypeId} {cs : Array Value} (h : Blk w g e cs) : Blk w.drew g e cs := h.drew
theorem Far.draw {w0 w : World} (h : Far w0 w) : Far w0 w.drew := ⟨h.out.drew⟩
theorem New.draw {w0 : World} {α : Type} {t : Ty α} {w : World} {A : Option Addr} {n cap : Nat} {l : List α} (h : New w0 t w A n cap l) : New w0 t w.drew A n cap l := ⟨h.out.keep fun b hb => rfl⟩

section
variable {P : Program} {ops : Array Oper} {rest : List Oper} {op : Oper} {a : Act} {w : World} {Q : Exit → Act → World → Prop}

/-- One value of one cell is stored. -/
theorem wpList_store_one (hgd : op.guard = none) (ty : TypeId) (x y : Operand) (ho : op.op = .store ty x y) (g off : Nat) (v : Value) (hx : a.eval x = .pointer (some ⟨g, off, none⟩)) (hy : a.eval y = v) (hv : v.cells = #[v]) (h1 : v.oneCell' = true)
    (e : TypeId) (cs cs' : Array Value) (hb : Blk w g e cs) (hfit : off < cs.size) (hi : (P.info? ty).map (·.size) = some 1) (hcs : cs'.toList = cs.toList.take off ++ [v] ++ cs.toList.drop (off + 1))
    (h : ∀ w', Blk w' g e cs' → w.grownBy w' (some g) → wpList P ops Q rest (a.put op.dst undef) w') : wpList P ops Q (op :: rest) a w := by
  have hcs := putAt_list (vs := [v]) (o := off) (cs := cs) (cs' := cs') (by simp; omega) (by simpa using hcs)
  subst hcs
  have hrun : (storeVar ty ⟨g, off, none⟩ v).run P w = .ok () (w.setCells g off [v]) := by
    have := run_storeCells_cells (P := P) g off [v] 0 w (fun j hj => by simp at hj; subst hj; rw [hb.cell]; simp; omega) (fun j hj => hb.frozen _) (fun u hu => by simp at hu; subst hu; exact h1)
    cases hq : P.info? ty with
    | none => simp [hq] at hi
    | some i =>
      have hs : i.size = 1 := by simpa [hq] using hi
      simp only [Nat.add_zero] at this
      simp [storeVar, sizeOf, typeInfo, hq, hv, hs, this]
  refine wpList_plain hgd fun K hK => ?_
  unfold Oper.wp execOp
  simp only [ho, hx, hy, Instr.storeAt, Instr.sureAddr, Sem.run_bind, Sem.run_pure, Result.andThen_ok, hrun]
  exact hK _ _ (h _ (Blk.setCells _ _ _ _ hb) (grown_setCells _ _ _))

/-- The same, inside a region that draws its order. -/
theorem oper_store_one {K : Act → World → Prop} (ty : TypeId) (x y : Operand) (ho : op.op = .store ty x y) (g off : Nat) (v : Value) (hx : a.eval x = .pointer (some ⟨g, off, none⟩)) (hy : a.eval y = v) (hv : v.cells = #[v]) (h1 : v.oneCell' = true)
    (e : TypeId) (cs cs' : Array Value) (hb : Blk w g e cs) (hfit : off < cs.size) (hi : (P.info? ty).map (·.size) = some 1) (hcs : cs'.toList = cs.toList.take off ++ [v] ++ cs.toList.drop (off + 1))
    (h : ∀ w', Blk w' g e cs' → w.grownBy w' (some g) → K (a.put op.dst undef) w') : op.wp P a w K Q := by
  have hcs := putAt_list (vs := [v]) (o := off) (cs := cs) (cs' := cs') (by simp; omega) (by simpa using hcs)
  subst hcs
  have hrun : (storeVar ty ⟨g, off, none⟩ v).run P w = .ok () (w.setCells g off [v]) := by
    have := run_storeCells_cells (P := P) g off [v] 0 w (fun j hj => by simp at hj; subst hj; rw [hb.cell]; simp; omega) (fun j hj => hb.frozen _) (fun u hu => by simp at hu; subst hu; exact h1)
    cases hq : P.info? ty with
    | none => simp [hq] at hi
    | some i =>
      have hs : i.size = 1 := by simpa [hq] using hi
      simp only [Nat.add_zero] at this
      simp [storeVar, sizeOf, typeInfo, hq, hv, hs, this]
  unfold Oper.wp execOp
  simp only [ho, hx, hy, Instr.storeAt, Instr.sureAddr, Sem.run_bind, Sem.run_pure, Result.andThen_ok, hrun]
  exact h _ (Blk.setCells _ _ _ _ hb) (grown_setCells _ _ _)
end
end Go.Proofs.Ytlpejbopdmledaa
namespace Go.Proofs.Ytlpejbopdmledaa
set_option linter.unusedVariables false
set_option linter.unusedSimpArgs false
open Go.RowKit Go.ChangeShapes Go.WideShapes

/-- A node is handed back, its numbers in new memory. -/
def RetNode (d : Node) (w : World) (e : Ending) (w' : World) : Prop :=
  ∃ (W : Option Addr) (nw cw : Nat) (B : Option Addr) (nb cb : Nat), e = .returned (.agg #[Value.int .i64 d.kind, Value.int .i64 d.a, Value.int .i64 d.b, Value.int .i64 d.k, Value.int .i64 d.s, Value.int .i64 d.p, Value.int .i64 d.out, Value.int .i8 d.za, Value.int .i8 d.zb, Value.slice W nw cw, Value.slice B nb cb, Value.int .i32 d.qm, Value.int .i64 d.qs, Value.int .i8 d.qz, Value.int .i32 d.rm, Value.int .i64 d.rs, Value.int .i8 d.rz, Value.int .i8 d.lo, Value.int .i8 d.hi]) ∧ Sl (tInt .i8) w' (bin w.heap.size w'.heap.size) W nw cw d.w ∧ Sl (tInt .i32) w' (bin w.heap.size w'.heap.size) B nb cb d.bias ∧ Below w.heap.size w w'
end Go.Proofs.Ytlpejbopdmledaa
