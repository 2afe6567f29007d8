/-
  A store beside a block that holds no small numbers (layer 42).
  Conditions: none.
-/
import Derived.Test.YtlhnapjglebacaaChecked
import Derived.Test.YtlhnapjglebacaaStoreW
namespace Go.Proofs.Ytlhnapjglebacaa
set_option linter.unusedVariables false
set_option linter.unusedSimpArgs false
open Go.RowKit Go.ChangeShapes Go.WideShapes
set_option maxRecDepth 100000
set_option maxHeartbeats 1000000

/-- No cell of these is a number of kind i8 or i32. -/
def NoSmall (cs : Array Value) : Prop := ∀ (j : Nat) (v : Value), cs[j]? = some v → ∀ z, v ≠ .int .i8 z ∧ v ≠ .int .i32 z

theorem noSmall_q (r : Req) (A : Option Addr) (n c : Nat) (B : Option Addr) (m d : Nat) (L : Option Addr) (nl cl : Nat) : NoSmall (qCells r A n c B m d L nl cl) := by
  intro j v hv z
  have hj : j < 22 := (Array.getElem?_eq_some_iff.1 hv).1
  have : ∀ k : Fin 22, ∀ u, (qCells r A n c B m d L nl cl)[k.1]? = some u → u ≠ .int .i8 z ∧ u ≠ .int .i32 z := by
    intro k u hu
    match k with
    | 0 | 1 | 2 | 3 | 4 | 5 | 6 | 7 | 8 | 9 | 10 | 11 | 12 | 13 | 14 | 15 | 16 | 17 | 18 | 19 | 20 | 21 => obtain rfl := Option.some.inj hu; constructor <;> (intro e; cases e)
  exact this ⟨j, hj⟩ v hv

theorem Sl.avoid {k : IntKind} {w : World} {S : Nat → Prop} {A : Option Addr} {n c : Nat} {l : List Int} {T : Nat} {e : TypeId} {cs : Array Value} (h : Sl (tInt k) w S A n c l) (hk : k = .i8 ∨ k = .i32) (hb : Blk w T e cs) (hn : NoSmall cs) :
    Sl (tInt k) w (fun x => S x ∧ x ≠ T) A n c l := by
  refine ⟨h.n_eq, h.cap_le, h.max_le, h.nil_, fun i x hx => ?_⟩
  obtain ⟨a, xs, hA, hS, hr, hc⟩ := h.at_ i x hx
  have hi : i < n := by have := (List.getElem?_eq_some_iff.1 hx).1; have := h.n_eq; omega
  obtain ⟨b, off, hA2, _, _, hcell, _⟩ := h.int_at i hi
  refine ⟨a, xs, hA, ⟨hS, fun eT => ?_⟩, hr, hc⟩
  have ea : a = ⟨b, off, none⟩ := Option.some.inj (hA.symm.trans hA2)
  rw [ea] at eT
  obtain rfl : b = T := eT
  rw [hb.cell] at hcell
  have := hn _ _ hcell (l.getD i 0)
  rcases hk with rfl | rfl
  · exact this.1 rfl
  · exact this.2 rfl

/-- A store is as it was where only such a block has turned. -/
theorem StoreAt.other {w w' : World} {g b T : Nat} {m : Int} {rs : List Req} {e : TypeId} {cs : Array Value} (h : StoreAt w g b m rs) (hB : Blk w T e cs) (hn : NoSmall cs) (hg : w.grownBy w' (some T)) (h1 : g ≠ T) (h2 : b ≠ T) : StoreAt w' g b m rs := by
  obtain ⟨D, vs, ⟨k1, k2, k3, k4, k5, k6⟩⟩ := h.out
  refine ⟨D, vs, ⟨⟨(hg.block g k1.lt (by simpa using h1)).trans k1.heap⟩, k2.kept hg (by simpa using h2), k3, k4, k5, fun i r hi => ?_⟩⟩
  obtain ⟨c, hc, hr⟩ := k6 i r hi
  obtain ⟨A, n, cc, B, q, d, L, nl, cl, hcells, hin, s1, s2, s3⟩ := req_open hr
  refine ⟨c, hc, ?_⟩
  rw [hcells]
  have kk : ∀ x, ((x < w.heap.size ∧ x ≠ b) ∧ x ≠ T) → w'.heap[x]? = w.heap[x]? := fun x hx => hg.block x hx.1.1 (by simpa using hx.2)
  have mm : ∀ x, ((x < w.heap.size ∧ x ≠ b) ∧ x ≠ T) → (x < w'.heap.size ∧ x ≠ b) := fun x hx => ⟨Nat.lt_of_lt_of_le hx.1.1 hg.size, hx.1.2⟩
  exact req_rep hin (((s1.avoid (.inl rfl) hB hn).keep kk).more mm) (((s2.avoid (.inl rfl) hB hn).keep kk).more mm) (((s3.avoid (.inr rfl) hB hn).keep kk).more mm)

theorem reqOf_zero {rs : List Req} {id : Int} : reqOf (rs.map zeroId) id = (reqOf rs id).map zeroId := by
  unfold reqOf
  split
  · rw [List.getElem?_map]
  · rfl
theorem openCode_zero {rs : List Req} {id : Int} : openCode (rs.map zeroId) id = openCode rs id := by
  unfold openCode
  rw [reqOf_zero]
  cases reqOf rs id <;> rfl
theorem runCode_zero {rs : List Req} {id : Int} : runCode (rs.map zeroId) id = runCode rs id := by
  unfold runCode
  rw [reqOf_zero]
  cases reqOf rs id <;> rfl
end Go.Proofs.Ytlhnapjglebacaa
