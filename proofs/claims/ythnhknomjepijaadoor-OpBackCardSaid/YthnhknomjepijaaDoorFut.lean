/-
  Facts taken over to a later world, each by one word ('.fut').
  Conditions: none (plain lemmas).
-/
import Derived.Test.YthnhknomjepijaaDoorExt
namespace Go.Proofs.YthnhknomjepijaaDoor
set_option linter.unusedVariables false
set_option linter.unusedSimpArgs false
open Go.RowKit Go.ChangeShapes Go.WideShapes

theorem Sl.fut {α : Type} {t : Ty α} {w w' : World} {A : Option Addr} {n cap : Nat} {l : List α} (h : Sl t w (blo w.heap.size) A n cap l) (hb : Below w.heap.size w w') : Sl t w' (blo w'.heap.size) A n cap l := h.later hb (Nat.le_refl _)
/-- What has been since the call began. -/
structure Far (w0 w : World) : Prop where
  out : Below w0.heap.size w0 w
theorem Far.refl (w : World) : Far w w := ⟨Below.refl _ _⟩
theorem Far.fut {w0 w w' : World} (h : Far w0 w) (hb : Below w.heap.size w w') : Far w0 w' := ⟨below_later hb h.out⟩
theorem Far.size {w0 w : World} (h : Far w0 w) : w0.heap.size ≤ w.heap.size := h.out.size
theorem Far.drewN {w0 w : World} (h : Far w0 w) (n : Nat) : Far w0 (w.drewN n) := ⟨below_drewN h.out n⟩
theorem Blk.fut {w w' : World} {g : Nat} {e : TypeId} {cs : Array Value} (h : Blk w g e cs) (hb : Below w.heap.size w w') : Blk w' g e cs := h.later hb
theorem Sl.old {α : Type} {t : Ty α} {w : World} {m : Nat} {A : Option Addr} {n cap : Nat} {l : List α} (h : Sl t w (bin m w.heap.size) A n cap l) : Sl t w (blo w.heap.size) A n cap l := h.more bin_blo
/-- A result in new memory, seen from where the call began. -/
theorem Sl.since {α : Type} {t : Ty α} {w0 w w' : World} {A : Option Addr} {n cap : Nat} {l : List α} (h : Sl t w' (bin w.heap.size w'.heap.size) A n cap l) (hf : Far w0 w) : Sl t w' (bin w0.heap.size w'.heap.size) A n cap l := h.more (bin_more hf.size (Nat.le_refl _))
/-- A slice of new memory stays one of new memory. -/
structure New (w0 : World) {α : Type} (t : Ty α) (w : World) (A : Option Addr) (n cap : Nat) (l : List α) : Prop where
  out : Sl t w (bin w0.heap.size w.heap.size) A n cap l
theorem New.fut {w0 : World} {α : Type} {t : Ty α} {w w' : World} {A : Option Addr} {n cap : Nat} {l : List α} (h : New w0 t w A n cap l) (hb : Below w.heap.size w w') : New w0 t w' A n cap l :=
  ⟨(h.out.below hb fun _ k => k.2).more (bin_more (Nat.le_refl _) hb.size)⟩
theorem New.old {w0 : World} {α : Type} {t : Ty α} {w : World} {A : Option Addr} {n cap : Nat} {l : List α} (h : New w0 t w A n cap l) : Sl t w (blo w.heap.size) A n cap l := h.out.old
theorem New.set {w0 : World} {α : Type} {t : Ty α} {w : World} {A : Option Addr} {n cap : Nat} {l : List α} (h : New w0 t w A n cap l) (p : Addr) (u : Value) (hp : p.block < w0.heap.size) : New w0 t (w.setCell p u) A n cap l :=
  ⟨(h.out.keep fun b hb => Below.heap_setCell w p u b (by have := hb.1; omega)).more fun b hb => ⟨hb.1, by simpa using hb.2⟩⟩
theorem Far.set {w0 w : World} (h : Far w0 w) (p : Addr) (u : Value) (hp : w0.heap.size ≤ p.block) : Far w0 (w.setCell p u) := ⟨h.out.setCell hp _⟩
theorem Far.trans {w0 w1 w2 : World} (h : Far w0 w1) (h' : Far w1 w2) : Far w0 w2 := ⟨below_later h'.out h.out⟩
theorem New.since {w0 w1 : World} {α : Type} {t : Ty α} {w : World} {A : Option Addr} {n cap : Nat} {l : List α} (h : New w1 t w A n cap l) (hf : Far w0 w1) : Sl t w (bin w0.heap.size w.heap.size) A n cap l := h.out.more (bin_more hf.size (Nat.le_refl _))
theorem New.of {w0 w w' : World} {α : Type} {t : Ty α} {A : Option Addr} {n cap : Nat} {l : List α} (h : Sl t w' (bin w.heap.size w'.heap.size) A n cap l) (hf : Far w0 w) : New w0 t w' A n cap l := ⟨h.since hf⟩
theorem New.nil (w0 : World) {α : Type} (t : Ty α) (w : World) : New w0 t w none 0 0 ([] : List α) := ⟨Sl.nil _ _ _⟩
end Go.Proofs.YthnhknomjepijaaDoor
