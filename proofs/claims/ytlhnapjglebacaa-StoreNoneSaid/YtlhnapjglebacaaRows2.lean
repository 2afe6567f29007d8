/-
  Whole parts of a struct's block, loaded and stored at once: the world behind a store is opaque.
  Conditions: none (over any program).
-/
import Derived.Test.YtlhnapjglebacaaOwn
import Derived.Deep.MidRow
set_option linter.unusedVariables false
set_option linter.unusedSimpArgs false
namespace Go.Proofs.Ytlhnapjglebacaa
open Go Go.RowKit

def putAt (cs : Array Value) : Nat → List Value → Array Value
  | _, [] => cs
  | o, v :: r => putAt (cs.setIfInBounds o v) (o + 1) r
theorem putAt_size : ∀ (vs : List Value) (o : Nat) (cs : Array Value), (putAt cs o vs).size = cs.size
  | [], _, _ => rfl
  | v :: r, o, cs => by unfold putAt; rw [putAt_size r]; simp

theorem putAt_get : ∀ (vs : List Value) (o : Nat) (cs : Array Value) (i : Nat), (putAt cs o vs)[i]? = if o ≤ i ∧ i < o + vs.length ∧ i < cs.size then vs[i - o]? else cs[i]?
  | [], o, cs, i => by rw [if_neg (show ¬ (o ≤ i ∧ i < o + ([] : List Value).length ∧ i < cs.size) by simp; omega)]; rfl
  | v :: r, o, cs, i => by
    unfold putAt
    rw [putAt_get r (o + 1), Array.getElem?_setIfInBounds]
    simp only [Array.size_setIfInBounds, List.length_cons]
    by_cases h1 : i = o
    · subst h1
      rw [if_neg (by omega), if_pos rfl]
      by_cases h2 : i < cs.size
      · rw [if_pos h2, if_pos (by omega)]; simp
      · rw [if_neg h2, if_neg (by omega)]; simp; omega
    · by_cases h2 : o ≤ i ∧ i < o + (r.length + 1) ∧ i < cs.size
      · rw [if_pos (show o + 1 ≤ i ∧ i < o + 1 + r.length ∧ i < cs.size by omega), if_pos h2, show i - o = (i - (o + 1)) + 1 by omega, List.getElem?_cons_succ]
      · rw [if_neg (show ¬ (o + 1 ≤ i ∧ i < o + 1 + r.length ∧ i < cs.size) by omega), if_neg (show ¬ o = i from fun e => h1 e.symm), if_neg h2]

theorem putAt_full {vs cs : Array Value} (h : cs.size = vs.size) : putAt cs 0 vs.toList = vs := by
  apply Array.ext_getElem?
  intro i
  rw [putAt_get]
  by_cases hi : i < vs.size
  · rw [if_pos (by simp; omega)]; simp
  · rw [if_neg (by simp; omega), Array.getElem?_eq_none (by omega), Array.getElem?_eq_none (by omega)]

theorem Blk.setCells {g : Nat} {e : TypeId} : ∀ (vs : List Value) (o : Nat) (w : World) (cs : Array Value), Blk w g e cs → Blk (w.setCells g o vs) g e (putAt cs o vs)
  | [], _, _, _, h => h
  | v :: r, o, w, cs, h => Blk.setCells r (o + 1) _ _ (h.set_ o v)

theorem grown_setCells {g : Nat} : ∀ (vs : List Value) (o : Nat) (w : World), w.grownBy (w.setCells g o vs) (some g)
  | [], _, w => ⟨rfl, rfl, rfl, Nat.le_refl _, fun _ _ _ => rfl⟩
  | v :: r, o, w => by
    have h1 : w.grownBy (w.setCell ⟨g, o, none⟩ v) (some g) :=
      have b0 : Below 0 w (w.setCell ⟨g, o, none⟩ v) := (Below.refl 0 w).setCell (Nat.zero_le _) v
      ⟨b0.os, b0.tape, b0.output, b0.size, fun k hk hne => Below.heap_setCell w ⟨g, o, none⟩ v k (fun e => hne (by rw [e]))⟩
    have h2 := grown_setCells (g := g) r (o + 1) (w.setCell ⟨g, o, none⟩ v)
    exact ⟨h2.os.trans h1.os, h2.tape.trans h1.tape, h2.output.trans h1.output, Nat.le_trans h1.size h2.size, fun k hk hne => (h2.block k (Nat.lt_of_lt_of_le hk h1.size) hne).trans (h1.block k hk hne)⟩

section
variable {P : Program} {ops : Array Oper} {rest : List Oper} {op : Oper} {a : Act} {w : World} {Q : Exit → Act → World → Prop}

/-- A part of a block is stored. -/
theorem wpList_store_blk (hgd : op.guard = none) (ty : TypeId) (x y : Operand) (ho : op.op = .store ty x y) (g off : Nat) (vs : Array Value) (hx : a.eval x = .pointer (some ⟨g, off, none⟩)) (hy : a.eval y = .agg vs)
    (e : TypeId) (cs cs' : Array Value) (hb : Blk w g e cs) (hfit : off + vs.size ≤ cs.size) (hi : (P.info? ty).map (·.size) = some vs.size) (h1 : vs.all (·.oneCell') = true) (hcs : putAt cs off vs.toList = cs')
    (h : ∀ w', Blk w' g e cs' → w.grownBy w' (some g) → wpList P ops Q rest (a.put op.dst undef) w') : wpList P ops Q (op :: rest) a w := by
  subst hcs
  refine wpList_store_mid hgd ty x y ho g off vs hx hy (fun j hj => ⟨?_, hb.frozen _⟩) hi h1 (h _ (Blk.setCells _ _ _ _ hb) (grown_setCells _ _ _))
  rw [hb.cell]
  simp
  omega

/-- The whole of a block is stored. -/
theorem wpList_store_all (hgd : op.guard = none) (ty : TypeId) (x y : Operand) (ho : op.op = .store ty x y) (g : Nat) (vs : Array Value) (hx : a.eval x = .pointer (some ⟨g, 0, none⟩)) (hy : a.eval y = .agg vs)
    (e : TypeId) (cs : Array Value) (hb : Blk w g e cs) (hfit : cs.size = vs.size) (hi : (P.info? ty).map (·.size) = some vs.size) (h1 : vs.all (·.oneCell') = true)
    (h : ∀ w', Blk w' g e vs → w.grownBy w' (some g) → wpList P ops Q rest (a.put op.dst undef) w') : wpList P ops Q (op :: rest) a w :=
  wpList_store_blk hgd ty x y ho g 0 vs hx hy e cs vs hb (by omega) hi h1 (putAt_full hfit) h

/-- A part of a block is loaded. -/
theorem wpList_load_blk (hgd : op.guard = none) (ty : TypeId) (x : Operand) (ho : op.op = .load ty x) (g off : Nat) (hx : a.eval x = .pointer (some ⟨g, off, none⟩)) (e : TypeId) (cs vs : Array Value) (d : TypeDesc) (hb : Blk w g e cs)
    (hu : P.underlying ty = some d) (hd : d.isRow = true) (hi : (P.info? ty).map (·.size) = some vs.size) (hvs : (cs.toList.drop off).take vs.size = vs.toList)
    (h : wpList P ops Q rest (a.put op.dst (.agg vs)) w) : wpList P ops Q (op :: rest) a w := by
  refine wpList_load_mid hgd ty x ho g off hx vs.toList d (fun j v hv => ?_) hu hd (by simpa using hi) (by simpa using h)
  rw [hb.cell]
  rw [← hvs, List.getElem?_take] at hv
  split at hv
  · rw [List.getElem?_drop] at hv
    simpa using hv
  · cases hv

end
end Go.Proofs.Ytlhnapjglebacaa
