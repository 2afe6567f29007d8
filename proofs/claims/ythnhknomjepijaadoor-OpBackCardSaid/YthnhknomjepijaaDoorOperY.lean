/-
  'make([]T, n)' of numbers as an operation by itself (in a region that draws its order); a list that is filled here and there.
  Conditions: none (over any program).
-/
import Derived.Test.YthnhknomjepijaaDoorOperX
set_option linter.unusedVariables false
set_option linter.unusedSimpArgs false
namespace Go.Proofs.YthnhknomjepijaaDoor
open Go.RowKit Go.ChangeShapes Go.WideShapes

theorem Blk.grown0 {w w' : World} {g : Nat} {e : TypeId} {cs : Array Value} (h : Blk w g e cs) (gm : w.grownBy w' none) : Blk w' g e cs := ⟨(gm.block g h.lt (by simp)).trans h.heap⟩
theorem Blk.rowR {w w' : World} {g : Nat} {e : TypeId} {cs : Array Value} {r : Option Nat} (h : Blk w g e cs) (hg : w.grownBy w' r) (hne : some g ≠ r) : Blk w' g e cs := ⟨by rw [hg.block g h.lt hne]; exact h.heap⟩
theorem World.size_drew (w : World) : w.drew.heap.size = w.heap.size := rfl

section
variable {P : Program} {o : Oper} {a : Act} {Q : Go.Exit → Act → World → Prop} {T E : TypeId} {bytes base n : Nat} {k : IntKind}
theorem oper_make {K : Act → World → Prop} {W : World} (lo co : Operand) (ho : o.op = Op.makeSlice T lo co) (ei : EI P T E (.int k 0) 1 bytes) (kl kc : IntKind) (hl : a.eval lo = .int kl (n : Int)) (hc : a.eval co = .int kc (n : Int))
    (b2 : bytes * n ≤ 281474976710656) (b3 : n ≤ maxLen) (b4 : base ≤ W.heap.size) (h0 : InK k 0)
    (h : ∀ w', Own (tInt k) w' (fun _ => False) base E (.slice (some ⟨W.heap.size, 0, none⟩) n n) n (List.replicate n 0) → W.grownBy w' none → K (a.put o.dst (.slice (some ⟨W.heap.size, 0, none⟩) n n)) w') :
    Oper.wp P o a W K Q := by
  obtain ⟨i, hi, hz0, hz1, hz2⟩ := info_parts ei.hi
  obtain ⟨w', hrun, h1, hg⟩ := run_make_full (P := P) W base T E i (.int k 0) 1 ei.ht hi hz0 hz1 kl kc n (by rw [hz2]; exact b2) b3 b4
  unfold Oper.wp execOp
  simp only [ho, hl, hc, Sem.run_bind, hrun, Sem.run_pure, Result.andThen_ok]
  refine h w' ⟨_, h1, ?_⟩ hg
  have e : (madeCells (Value.cells (.int k 0)) (n * 1)).toList = (List.replicate n (0 : Int)).map (Value.int k) := by
    simp [madeCells, Value.cells]
    apply List.ext_getElem (by simp)
    intro j h1 h2
    simp [Nat.mod_one]
  rw [e]
  exact RowsOf.ints (fun x hx => by rw [List.eq_of_mem_replicate hx]; exact h0)
end

/-- A list that is filled at the places that p tells. -/
def stF (f : Nat → Int) (p : Nat → Bool) (n : Nat) : List Int := (List.range n).map fun j => if p j = true then f j else 0
theorem stF_ext {f : Nat → Int} {p q : Nat → Bool} {n : Nat} (h : ∀ j, j < n → p j = q j) : stF f p n = stF f q n := by
  unfold stF
  apply List.map_congr_left
  intro j hj
  rw [h j (List.mem_range.1 hj)]
theorem stF_none (f : Nat → Int) (p : Nat → Bool) (n : Nat) (h : ∀ j, j < n → p j = false) : stF f p n = List.replicate n 0 := by
  unfold stF
  apply List.ext_getElem (by simp)
  intro i h1 h2
  simp at h1
  simp [h i h1]
theorem stF_all (f : Nat → Int) (p : Nat → Bool) (n : Nat) (h : ∀ j, j < n → p j = true) : stF f p n = (List.range n).map f := by
  unfold stF
  apply List.map_congr_left
  intro j hj
  rw [if_pos (h j (List.mem_range.1 hj))]
theorem stF_set (f : Nat → Int) (p : Nat → Bool) (n i : Nat) : (stF f p n).set i (f i) = stF f (fun j => p j || j == i) n := by
  unfold stF
  apply List.ext_getElem (by simp)
  intro j h1 h2
  rw [List.getElem_set]
  simp only [List.getElem_map, List.getElem_range]
  by_cases e : i = j
  · subst e; simp
  · rw [if_neg e]
    have : (j == i) = false := by simp; omega
    rw [this, Bool.or_false]
end Go.Proofs.YthnhknomjepijaaDoor
