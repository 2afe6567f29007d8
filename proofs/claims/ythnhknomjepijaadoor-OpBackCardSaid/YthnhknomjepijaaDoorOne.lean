/-
  One cell of a known block is stored, the world behind it opaque; facts taken over a store into another block.
  Conditions: none (over any program).
-/
import Derived.Test.YthnhknomjepijaaDoorRows2
import Derived.Test.YthnhknomjepijaaDoorFut
set_option linter.unusedVariables false
set_option linter.unusedSimpArgs false
namespace Go.Proofs.YthnhknomjepijaaDoor
open Go Go.RowKit

theorem Blk.away {w w' : World} {g m : Nat} {e : TypeId} {cs : Array Value} (h : Blk w g e cs) (hg : w.grownBy w' (some m)) (hne : g < m ∨ m < g) : Blk w' g e cs :=
  ⟨(hg.block g h.lt (fun e => by have := Option.some.inj e; omega)).trans h.heap⟩
theorem Far.away {w0 w w' : World} {m : Nat} (h : Far w0 w) (hg : w.grownBy w' (some m)) (hm : w0.heap.size ≤ m) : Far w0 w' :=
  ⟨h.out.grown hg h.out.size (fun k hk => by have := Option.some.inj hk; omega)⟩
theorem New.away {w0 : World} {α : Type} {t : Ty α} {w w' : World} {A : Option Addr} {n cap m : Nat} {l : List α} (h : New w0 t w A n cap l) (hg : w.grownBy w' (some m)) (hm : m < w0.heap.size) : New w0 t w' A n cap l :=
  ⟨(h.out.keep fun b hb => hg.block b hb.2 (fun e => by have := Option.some.inj e; have := hb.1; omega)).more fun b hb => ⟨hb.1, Nat.lt_of_lt_of_le hb.2 hg.size⟩⟩
theorem Sl.away {α : Type} {t : Ty α} {w w' : World} {n0 m : Nat} {A : Option Addr} {n cap : Nat} {l : List α} (h : Sl t w (blo n0) A n cap l) (hg : w.grownBy w' (some m)) (hm : n0 ≤ m) (hn : n0 ≤ w.heap.size) : Sl t w' (blo n0) A n cap l :=
  h.keep fun b hb => hg.block b (Nat.lt_of_lt_of_le hb hn) (fun e => by have := Option.some.inj e; have : b < n0 := hb; omega)
/-- A slice of what was there when the call began. -/
structure Old (w0 : World) {α : Type} (t : Ty α) (w : World) (A : Option Addr) (n cap : Nat) (l : List α) : Prop where
  out : Sl t w (blo w0.heap.size) A n cap l
  le : w0.heap.size ≤ w.heap.size
section
variable {w0 w w' : World} {α : Type} {t : Ty α} {A : Option Addr} {n cap m : Nat} {l : List α}
theorem Old.now (h : Sl t w (blo w.heap.size) A n cap l) : Old w t w A n cap l := ⟨h, Nat.le_refl _⟩
theorem Old.fut (h : Old w0 t w A n cap l) (hb : Below w.heap.size w w') : Old w0 t w' A n cap l := ⟨h.out.below hb (fun b hb => Nat.lt_of_lt_of_le hb h.le), Nat.le_trans h.le hb.size⟩
theorem Old.away (h : Old w0 t w A n cap l) (hg : w.grownBy w' (some m)) (hm : w0.heap.size ≤ m) : Old w0 t w' A n cap l :=
  ⟨h.out.keep fun b hb => hg.block b (Nat.lt_of_lt_of_le hb h.le) (fun e => by have := Option.some.inj e; have : b < w0.heap.size := hb; omega), Nat.le_trans h.le hg.size⟩
theorem Old.all (h : Old w0 t w A n cap l) : Sl t w (blo w.heap.size) A n cap l := h.out.more (blo_more h.le)
theorem Old.draw (h : Old w0 t w A n cap l) : Old w0 t w.drew A n cap l := ⟨h.out.keep fun b hb => rfl, h.le⟩
end
theorem Blk.draw {w : World} {g : Nat} {e : TypeId} {cs : Array Value} (h : Blk w g e cs) : Blk w.drew g e cs := h.drew
theorem Far.draw {w0 w : World} (h : Far w0 w) : Far w0 w.drew := ⟨h.out.drew⟩
theorem New.draw {w0 : World} {α : Type} {t : Ty α} {w : World} {A : Option Addr} {n cap : Nat} {l : List α} (h : New w0 t w A n cap l) : New w0 t w.drew A n cap l := ⟨h.out.keep fun b hb => rfl⟩

section
variable {P : Program} {ops : Array Oper} {rest : List Oper} {op : Oper} {a : Act} {w : World} {Q : Exit → Act → World → Prop}

/-- One value of one cell is stored. -/
theorem wpList_store_one (hgd : op.guard = none) (ty : TypeId) (x y : Operand) (ho : op.op = .store ty x y) (g off : Nat) (v : Value) (hx : a.eval x = .pointer (some ⟨g, off, none⟩)) (hy : a.eval y = v) (hv : v.cells = #[v]) (h1 : v.oneCell' = true)
    (e : TypeId) (cs cs' : Array Value) (hb : Blk w g e cs) (hfit : off < cs.size) (hi : (P.info? ty).map (·.size) = some 1) (hcs : cs'.toList = cs.toList.take off ++ [v] ++ cs.toList.drop (off + 1))
    (h : ∀ w', Blk w' g e cs' → w.grownBy w' (some g) → wpList P ops Q rest (a.put op.dst undef) w') : wpList P ops Q (op :: rest) a w := by
  have hcs := putAt_list (vs := [v]) (o := off) (cs := cs) (cs' := cs') (by simp; omega) (by simpa using hcs)
  subst hcs
  have hrun : (storeVar ty ⟨g, off, none⟩ v).run P w = .ok () (w.setCells g off [v]) := by
    have := run_storeCells_cells (P := P) g off [v] 0 w (fun j hj => by simp at hj; subst hj; rw [hb.cell]; simp; omega) (fun j hj => hb.frozen _) (fun u hu => by simp at hu; subst hu; exact h1)
    cases hq : P.info? ty with
    | none => simp [hq] at hi
    | some i =>
      have hs : i.size = 1 := by simpa [hq] using hi
      simp only [Nat.add_zero] at this
      simp [storeVar, sizeOf, typeInfo, hq, hv, hs, this]
  refine wpList_plain hgd fun K hK => ?_
  unfold Oper.wp execOp
  simp only [ho, hx, hy, Instr.storeAt, Instr.sureAddr, Sem.run_bind, Sem.run_pure, Result.andThen_ok, hrun]
  exact hK _ _ (h _ (Blk.setCells _ _ _ _ hb) (grown_setCells _ _ _))

/-- The same, inside a region that draws its order. -/
theorem oper_store_one {K : Act → World → Prop} (ty : TypeId) (x y : Operand) (ho : op.op = .store ty x y) (g off : Nat) (v : Value) (hx : a.eval x = .pointer (some ⟨g, off, none⟩)) (hy : a.eval y = v) (hv : v.cells = #[v]) (h1 : v.oneCell' = true)
    (e : TypeId) (cs cs' : Array Value) (hb : Blk w g e cs) (hfit : off < cs.size) (hi : (P.info? ty).map (·.size) = some 1) (hcs : cs'.toList = cs.toList.take off ++ [v] ++ cs.toList.drop (off + 1))
    (h : ∀ w', Blk w' g e cs' → w.grownBy w' (some g) → K (a.put op.dst undef) w') : op.wp P a w K Q := by
  have hcs := putAt_list (vs := [v]) (o := off) (cs := cs) (cs' := cs') (by simp; omega) (by simpa using hcs)
  subst hcs
  have hrun : (storeVar ty ⟨g, off, none⟩ v).run P w = .ok () (w.setCells g off [v]) := by
    have := run_storeCells_cells (P := P) g off [v] 0 w (fun j hj => by simp at hj; subst hj; rw [hb.cell]; simp; omega) (fun j hj => hb.frozen _) (fun u hu => by simp at hu; subst hu; exact h1)
    cases hq : P.info? ty with
    | none => simp [hq] at hi
    | some i =>
      have hs : i.size = 1 := by simpa [hq] using hi
      simp only [Nat.add_zero] at this
      simp [storeVar, sizeOf, typeInfo, hq, hv, hs, this]
  unfold Oper.wp execOp
  simp only [ho, hx, hy, Instr.storeAt, Instr.sureAddr, Sem.run_bind, Sem.run_pure, Result.andThen_ok, hrun]
  exact h _ (Blk.setCells _ _ _ _ hb) (grown_setCells _ _ _)
end
end Go.Proofs.YthnhknomjepijaaDoor
