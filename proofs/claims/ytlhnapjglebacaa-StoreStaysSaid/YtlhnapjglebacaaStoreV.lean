/-
  The document's requests: the walk of Set (layer 42).
  Conditions: fewer than 2^39 requests.
-/
import Derived.Test.YtlhnapjglebacaaChecked
import Derived.Test.YtlhnapjglebacaaStoreU
namespace Go.Proofs.Ytlhnapjglebacaa
set_option linter.unusedVariables false
set_option linter.unusedSimpArgs false
open Go.RowKit Go.ChangeShapes Go.WideShapes
set_option maxRecDepth 100000
set_option maxHeartbeats 2000000

theorem Own.lit_ {α : Type} {t : Ty α} {W : World} {S : Nat → Prop} {E : TypeId} {base : Nat} (hb : base ≤ W.heap.size) : Own t (W.alloc (.cells #[] E)) S base E (.slice (some ⟨W.heap.size, 0, none⟩) 0 0) 0 [] :=
  ⟨[], ⟨by simp, .inr ⟨_, 0, #[], rfl, hb, heap_alloc_new _ _, Nat.le_refl _, by decide, by simp, by simp⟩⟩, rfl⟩

/-- What was there, and what is new. -/
def orNew (S : Nat → Prop) (w w' : World) : Nat → Prop := fun x => S x ∨ bin w.heap.size w'.heap.size x

theorem refSet_any (S : Nat → Prop) (A : Option Addr) (n c : Nat) (l : List Req) (i : Nat) (hi : i < n) (r : Req) (h0 : r.id = 0) (X : Option Addr) (x xc : Nat) (Y : Option Addr) (y yc : Nat) (L : Option Addr) (nl cl : Nat) (w : World) (h : Sl tQ w S A n c l)
    (hS : ∀ x, S x → x < w.heap.size) (hq : ReqSl w S r X x xc Y y yc L nl cl) (hn : n < 549755813888) :
    Calls Try.prog 90 #[.slice A n c, .int .i64 ((i : Int) + 1), .agg (qCells r X x xc Y y yc L nl cl)] w fun e w' => ∃ A' c', e = .returned (.slice A' n c') ∧ Sl tQ w' (orNew S w w') A' n c' (l.set i r) ∧ Below w.heap.size w w' := by
  have H := Lib.hid h
  have HQ := Lib.hid hq
  clear h hq
  obtain ⟨w1, hw1⟩ : ∃ w1, w.alloc (.cells (qCells r X x xc Y y yc L nl cl) 112) = w1 := ⟨_, rfl⟩
  have g1 : Below w.heap.size w w1 := by rw [← hw1]; exact (Below.refl _ _).alloc (Nat.le_refl _) _
  have BX := Lib.hid (show Blk w1 w.heap.size 112 (qCells r X x xc Y y yc L nl cl) by rw [← hw1]; exact Blk.now _ _ _ _ rfl)
  have e1 : w1.heap.size = w.heap.size + 1 := by rw [← hw1]; simp
  have HW := Lib.hid hw1
  clear hw1
  go_enter Try.func90, Try.ntmps90
  have z1 := BX.out.lt
  have o0 := Own.lit_ (t := tQ) (W := w1) (S := S) (E := 112) (base := w.heap.size + 1) (Nat.le_of_eq e1.symm)
  rw [e1] at o0
  have k1 : Below w1.heap.size w1 (w1.alloc (.cells #[] 112)) := (Below.refl _ _).alloc (Nat.le_refl _) _
  have s0 := H.out.keep (w' := w1.alloc (.cells #[] 112)) (fun b hb => (k1.block b (Nat.lt_of_lt_of_le (hS b hb) g1.size)).trans (g1.block b (hS b hb)))
  have bxp := BX.out.past (.cells #[] 112)
  rw [← HW.out] at o0 s0 k1 bxp
  have BXP := Lib.hid bxp
  clear bxp
  go_wp2_with (first
    | (at_builtin; refine wpList_extend_rows (t := tQ) rfl _ _ rfl ei_q rfl o0 rfl s0 (fun _ h => h) (by unfold maxLen; omega) (by omega) (by simp) (fun b hb => ⟨Nat.lt_of_lt_of_le (hS b hb) (by simp; omega), fun e => by have := hS b hb; have := Option.some.inj e; simp at this; omega⟩) ?_; intro v2 w2 own2 g2 at2; rw [Nat.zero_add, List.nil_append] at own2; have BX2 : Blk w2 w.heap.size 112 (qCells r X x xc Y y yc L nl cl) := ⟨(g2.block _ (by simp; omega) (by intro e; have := Option.some.inj e; simp at this)).trans BXP.out.heap⟩; obtain ⟨g, cap, cur, rfl, hb2, hcap, B2, hfit, _, hset⟩ := own2.blk i hi (by decide); have p1 : (i : Int) < (n : Int) := by omega)
    | (refine wpList_load_row rfl 112 (.tmp 5) rfl w.heap.size rfl _ _ (0, 0) _ BX2.heap Try.underlying112 rfl (by kernel_rfl) ?_)
    | (refine wpList_store_blk rfl 112 (.tmp 15) (.tmp 14) rfl g (i * 22) (qCells r X x xc Y y yc L nl cl) rfl rfl _ _ (cur.toList.take (i * 22) ++ (qCells r X x xc Y y yc L nl cl).toList ++ cur.toList.drop (i * 22 + 22)).toArray B2 hfit (by kernel_rfl) (by simp [Value.oneCell', qCells]) rfl ?_; intro w3 B3 g3))
  go_ret
  have k0 : Below w.heap.size w ((w.alloc (.cells (qCells r X x xc Y y yc L nl cl) 112)).alloc (.cells #[] 112)) := ((Below.refl _ _).alloc (Nat.le_refl _) _).alloc (by simp) _
  have kg : ∀ b, b < w.heap.size → w2.heap[b]? = w.heap[b]? := fun b hb => (g2.block b (Nat.lt_of_lt_of_le hb k0.size) (by intro e; have := Option.some.inj e; simp at this; omega)).trans (k0.block b hb)
  have z2 : w.heap.size ≤ w2.heap.size := Nat.le_trans k0.size g2.size
  have z3 := g3.size
  have hbw : Below w.heap.size w w3 := ⟨g3.os.trans (g2.os.trans k0.os), g3.tape.trans (g2.tape.trans k0.tape), g3.output.trans (g2.output.trans k0.output), by omega, fun b hb => (g3.block b (by omega) (by intro e; have := Option.some.inj e; omega)).trans (kg b hb)⟩
  have own3 := hset w3 (qCells r X x xc Y y yc L nl cl).toList _ r rfl B3 rfl (fun b hb => g3.block b (by have := hS b hb; omega) (by intro e; have := hS b hb; have := Option.some.inj e; omega)) (q_rep h0 (HQ.out.keep fun b hb => hbw.block b (hS b hb)))
  obtain ⟨A', c', e, sl⟩ := own3.sl (S' := orNew S w w3) (by decide) (fun b h1 h2 => .inr ⟨by omega, h2⟩) (fun b h => .inl h)
  exact ⟨A', c', by rw [e]; rfl, sl, hbw⟩
end Go.Proofs.Ytlhnapjglebacaa
