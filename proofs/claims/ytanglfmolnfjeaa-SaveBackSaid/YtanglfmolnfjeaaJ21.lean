/-
  Points as bytes (layer 37): in, laid.
  Conditions: a tensor with at least one number, at most 100000, its sides not below zero.
-/
import Derived.Test.YtanglfmolnfjeaaChecked
import Derived.Test.YtanglfmolnfjeaaJ14
import Derived.Test.YtanglfmolnfjeaaJ08
import Derived.Test.YtanglfmolnfjeaaJ15
import Derived.Test.YtanglfmolnfjeaaJ19
import Derived.Test.YtanglfmolnfjeaaJ12
import Derived.Test.YtanglfmolnfjeaaJ20
namespace Go.Proofs.Ytanglfmolnfjeaa
set_option linter.unusedVariables false
set_option linter.unusedSimpArgs false
open Go.RowKit Go.ChangeShapes Go.WideShapes
set_option maxRecDepth 100000
set_option maxHeartbeats 4000000

theorem ei_int : EI Try.prog 73 3 (.int .i64 0) 1 8 := ⟨Try.underlying73, by kernel_rfl, rfl, by decide⟩

theorem savein_any (v m : Int) (w : World) (hv : InK .i64 v) : Calls Try.prog 15 #[.int .i64 v, .int .i64 m] w fun e w' => e = .returned (.bool (decide (0 ≤ v ∧ v ≤ m))) ∧ w = w' := by
  by_cases h1 : 0 ≤ v
  · have t1 : decide (0 ≤ v) = true := by simp [h1]
    by_cases h2 : v ≤ m
    · have t2 : decide (v ≤ m) = true := by simp [h2]
      have t3 := Lib.hid (show decide (0 ≤ v ∧ v ≤ m) = true by simp [h1, h2])
      rw [t3.out]
      go_enter Try.func15, Try.ntmps15
      go_wp2_with fail
      go_ret
      exact ⟨rfl, by trivial⟩
    · have t2 : decide (v ≤ m) = false := by simp; omega
      have t3 := Lib.hid (show decide (0 ≤ v ∧ v ≤ m) = false by simp; omega)
      rw [t3.out]
      go_enter Try.func15, Try.ntmps15
      go_wp2_with fail
      go_ret
      exact ⟨rfl, by trivial⟩
  · have t1 : decide (0 ≤ v) = false := by simp; omega
    have t3 := Lib.hid (show decide (0 ≤ v ∧ v ≤ m) = false by simp; omega)
    rw [t3.out]
    go_enter Try.func15, Try.ntmps15
    go_wp2_with fail
    go_ret
    exact ⟨rfl, by trivial⟩

/-- A literal row of three, as an operation. -/
theorem oper_lit3 {P : Program} {o : Oper} {a : Act} {w : World} {Q : Go.Exit → Act → World → Prop} {K : Act → World → Prop} {T E : TypeId} {z : Value} {size bytes : Nat} (x0 x1 x2 : Operand) (ho : o.op = .buildSlice T 3 #[(0, x0), (1, x1), (2, x2)]) (ei : EI P T E z size bytes)
    (v0 v1 v2 : Value) (h0 : a.eval x0 = v0) (h1 : a.eval x1 = v1) (h2 : a.eval x2 = v2) (vs : Array Value) (hp : 0 < 3 * size) (hsm : 3 * size ≤ 16777216)
    (hf : Instr.fill (fun i => some (i * size, size)) ((Array.range (3 * size)).map (z.cells[· % z.cells.size]!)) [(0, v0), (1, v1), (2, v2)] = some vs)
    (h : K (a.put o.dst (.slice (some ⟨w.heap.size, 0, none⟩) 3 3)) (w.alloc (.cells vs E))) : o.wp P a w K Q := by
  unfold Oper.wp execOp
  simp only [ho, List.map_toArray, List.map_cons, List.map_nil, h0, h1, h2, Sem.run_bind, run_lits w ei 3 #[(0, v0), (1, v1), (2, v2)] vs hp hsm hf, Sem.run_pure, Result.andThen_ok]
  exact h

/-- A tensor's bytes. -/
def laidV (t : Tensor) : List Int := numbersV [t.h, t.v, t.c] ++ octV t.data
theorem octV_length (l : List Int) : (octV l).length = l.length := by simp [octV]

theorem laid_any (t : Tensor) (A : Option Addr) (n c : Nat) (w : World) (hs : Sl (tInt .i8) w (blo w.heap.size) A n c t.data) (hn0 : 0 < n) (hn : n ≤ 100000) (p0 : 0 ≤ t.h) (p1 : 0 ≤ t.v) (p2 : 0 ≤ t.c) (ti : TensorIn t) :
    Calls Try.prog 18 #[.agg #[.int .i64 t.h, .int .i64 t.v, .int .i64 t.c, .slice A n c]] w (RetOwn w (laidV t)) := by
  have H := Lib.hid hs
  have HN := Lib.hid hs.n_eq
  have LV := Lib.hid (show laidV t = numbersV [t.h, t.v, t.c] ++ octV t.data from rfl)
  have NL := Lib.hid (numbersV_len [t.h, t.v, t.c])
  have OL := Lib.hid (octV_length t.data)
  have IH := Lib.hid ti
  rw [LV.out]
  have NB := Lib.hid (fun (W : World) (g : Nat) (hb : W.heap[g]? = some (.cells #[.int .i64 t.h, .int .i64 t.v, .int .i64 t.c] 3 (0, 0))) (hg : g < W.heap.size) => numbers_any (some ⟨g, 0, none⟩) 3 3 [t.h, t.v, t.c] W (Sl.lit [t.h, t.v, t.c] hb rfl (by intro x hx; simp at hx; rcases hx with rfl | rfl | rfl; exact ti.h; exact ti.v; exact ti.c) hg rfl rfl (by simp [maxLen])) (by omega) (by intro i hi; match i, hi with | 0, _ => exact p0 | 1, _ => exact p1 | 2, _ => exact p2))
  obtain ⟨h, v, cc, l⟩ := t
  simp only at H HN NL OL NB IH ⊢
  clear hs LV p0 p1 p2 ti
  go_enter Try.func18, Try.ntmps18
  go_wp2_with fail
  have k1 : Below w.heap.size w (w.alloc (.cells #[.int .i64 h, .int .i64 v, .int .i64 cc, .slice A n c] 26)) := (Below.refl _ _).alloc (Nat.le_refl _) _
  have BT := Lib.hid (Blk.now w w.heap.size 26 #[.int .i64 h, .int .i64 v, .int .i64 cc, .slice A n c] rfl)
  obtain ⟨w1, hw1⟩ : ∃ x, w.alloc (.cells #[.int .i64 h, .int .i64 v, .int .i64 cc, .slice A n c] 26) = x := ⟨_, rfl⟩
  rw [hw1] at k1 BT
  rw [hw1]
  have FR := Lib.hid (show Far w w1 from ⟨k1⟩)
  clear hw1 k1
  have q := BT.out.drew.cell
  refine wp_region_held_drew (S := fun w' => w'.cell? ⟨w.heap.size, 0, none⟩ = some (.int .i64 h) ∧ w'.cell? ⟨w.heap.size, 1, none⟩ = some (.int .i64 v) ∧ w'.cell? ⟨w.heap.size, 2, none⟩ = some (.int .i64 cc) ∧ w'.cell? ⟨w.heap.size, 3, none⟩ = some (.slice A n c) ∧ Below w.heap.size w w') (by kernel_rfl) ?_ (fun hS => ?_)
  · exact ⟨q 0, q 1, q 2, q 3, FR.out.out.drew⟩
  refine wpAnyH_take (i := 0) (v := ?_) rfl (by as_aux_lemma => kernel_rfl) (by as_aux_lemma => kernel_rfl) (by as_aux_lemma => kernel_rfl) (fun _ _ _ h => h) (Or.inl ⟨by rfl, ?_⟩) hS ?_
  rotate_left
  · intro w hSw; (try dsimp only at hSw); go_simp; try with_reducible rfl
  try simp only [Act.put, List.getElem_toArray, List.getElem_cons_succ, List.getElem_cons_zero, List.setIfInBounds_toArray, List.set_cons_zero, List.set_cons_succ]
  refine wpAnyH_take (i := 1) (v := ?_) rfl (by as_aux_lemma => kernel_rfl) (by as_aux_lemma => kernel_rfl) (by as_aux_lemma => kernel_rfl) (fun _ _ _ h => h) (Or.inl ⟨by rfl, ?_⟩) hS ?_
  rotate_left
  · intro w hSw; (try dsimp only at hSw); go_simp; try with_reducible rfl
  try simp only [Act.put, List.getElem_toArray, List.getElem_cons_succ, List.getElem_cons_zero, List.setIfInBounds_toArray, List.set_cons_zero, List.set_cons_succ]
  refine wpAnyH_take (i := 2) (v := ?_) rfl (by as_aux_lemma => kernel_rfl) (by as_aux_lemma => kernel_rfl) (by as_aux_lemma => kernel_rfl) (fun _ _ _ h => h) (Or.inl ⟨by rfl, ?_⟩) hS ?_
  rotate_left
  · intro w hSw; (try dsimp only at hSw); go_simp; try with_reducible rfl
  try simp only [Act.put, List.getElem_toArray, List.getElem_cons_succ, List.getElem_cons_zero, List.setIfInBounds_toArray, List.set_cons_zero, List.set_cons_succ]
  refine wpAnyH_take (i := 3) (v := ?_) rfl (by as_aux_lemma => kernel_rfl) (by as_aux_lemma => kernel_rfl) (by as_aux_lemma => kernel_rfl) (fun _ _ _ h => h) (Or.inl ⟨by rfl, ?_⟩) hS ?_
  rotate_left
  · intro w hSw; (try dsimp only at hSw); go_simp; try with_reducible rfl
  try simp only [Act.put, List.getElem_toArray, List.getElem_cons_succ, List.getElem_cons_zero, List.setIfInBounds_toArray, List.set_cons_zero, List.set_cons_succ]
  refine wpAnyH_take (i := 4) (v := ?_) rfl (by as_aux_lemma => kernel_rfl) (by as_aux_lemma => kernel_rfl) (by as_aux_lemma => kernel_rfl) (fun _ _ _ h => h) (Or.inl ⟨by rfl, ?_⟩) hS ?_
  rotate_left
  · intro w hSw; (try dsimp only at hSw); go_simp; try with_reducible rfl
  try simp only [Act.put, List.getElem_toArray, List.getElem_cons_succ, List.getElem_cons_zero, List.setIfInBounds_toArray, List.set_cons_zero, List.set_cons_succ]
  refine wpAnyH_take (i := 5) (v := ?_) rfl (by as_aux_lemma => kernel_rfl) (by as_aux_lemma => kernel_rfl) (by as_aux_lemma => kernel_rfl) (fun _ _ _ h => h) (Or.inl ⟨by rfl, ?_⟩) hS ?_
  rotate_left
  · intro w hSw; (try dsimp only at hSw); go_simp; try with_reducible rfl
  try simp only [Act.put, List.getElem_toArray, List.getElem_cons_succ, List.getElem_cons_zero, List.setIfInBounds_toArray, List.set_cons_zero, List.set_cons_succ]
  refine wpAnyH_take (i := 6) (v := ?_) rfl (by as_aux_lemma => kernel_rfl) (by as_aux_lemma => kernel_rfl) (by as_aux_lemma => kernel_rfl) (fun _ _ _ h => h) (Or.inl ⟨by rfl, ?_⟩) hS ?_
  rotate_left
  · intro w hSw; (try dsimp only at hSw); go_simp; try with_reducible rfl
  try simp only [Act.put, List.getElem_toArray, List.getElem_cons_succ, List.getElem_cons_zero, List.setIfInBounds_toArray, List.set_cons_zero, List.set_cons_succ]
  refine wpAnyH_take (i := 7) (v := ?_) rfl (by as_aux_lemma => kernel_rfl) (by as_aux_lemma => kernel_rfl) (by as_aux_lemma => kernel_rfl) (fun _ _ _ h => h) (Or.inl ⟨by rfl, ?_⟩) hS ?_
  rotate_left
  · intro w hSw; (try dsimp only at hSw); go_simp; try with_reducible rfl
  try simp only [Act.put, List.getElem_toArray, List.getElem_cons_succ, List.getElem_cons_zero, List.setIfInBounds_toArray, List.set_cons_zero, List.set_cons_succ]
  refine wpAnyH_take (i := 8) (v := ?_) rfl (by as_aux_lemma => kernel_rfl) (by as_aux_lemma => kernel_rfl) (by as_aux_lemma => kernel_rfl) (fun _ _ _ h => h) (Or.inl ⟨by rfl, ?_⟩) hS ?_
  rotate_left
  · intro w hSw; (try dsimp only at hSw); go_simp; try with_reducible rfl
  try simp only [Act.put, List.getElem_toArray, List.getElem_cons_succ, List.getElem_cons_zero, List.setIfInBounds_toArray, List.set_cons_zero, List.set_cons_succ]
  refine wpAnyH_take (i := 11) (v := ?_) rfl (by as_aux_lemma => kernel_rfl) (by as_aux_lemma => kernel_rfl) (by as_aux_lemma => kernel_rfl) (fun _ _ _ h => h) (Or.inl ⟨by rfl, ?_⟩) hS ?_
  rotate_left
  · intro w hSw; (try dsimp only at hSw); go_simp; try with_reducible rfl
  try simp only [Act.put, List.getElem_toArray, List.getElem_cons_succ, List.getElem_cons_zero, List.setIfInBounds_toArray, List.set_cons_zero, List.set_cons_succ]
  refine wpAnyH_take (i := 12) (v := ?_) rfl (by as_aux_lemma => kernel_rfl) (by as_aux_lemma => kernel_rfl) (by as_aux_lemma => kernel_rfl) (fun _ _ _ h => h) (Or.inl ⟨by rfl, ?_⟩) hS ?_
  rotate_left
  · intro w hSw; (try dsimp only at hSw); go_simp; try with_reducible rfl
  try simp only [Act.put, List.getElem_toArray, List.getElem_cons_succ, List.getElem_cons_zero, List.setIfInBounds_toArray, List.set_cons_zero, List.set_cons_succ]
  refine wpAnyH_ready (rs := [9]) (by kernel_rfl) (by simp) ?_
  refine AllReadyH.cons rfl (fun K hK => ?_) AllReadyH.nil
  (rw [if_pos (by rfl)]; refine oper_lit3 (.tmp 5) (.tmp 8) (.tmp 11) rfl ei_int (.int .i64 h) (.int .i64 v) (.int .i64 cc) rfl rfl rfl #[.int .i64 h, .int .i64 v, .int .i64 cc] (by decide) (by decide) (by kernel_rfl) ?_; have hb : Below w1.drew.heap.size w1.drew (w1.drew.alloc (.cells #[.int .i64 h, .int .i64 v, .int .i64 cc] 3)) := (Below.refl _ _).alloc (Nat.le_refl _) _; have B3 := Lib.hid (Blk.now w1.drew w1.drew.heap.size 3 #[.int .i64 h, .int .i64 v, .int .i64 cc] rfl); refine hK.out _ _ ⟨cell_later hb hS.1, cell_later hb hS.2.1, cell_later hb hS.2.2.1, cell_later hb hS.2.2.2.1, below_later hb hS.2.2.2.2⟩ (fun hS => ?_))
  clear hK K
  try simp only [Act.put, List.getElem_toArray, List.getElem_cons_succ, List.getElem_cons_zero, List.setIfInBounds_toArray, List.set_cons_zero, List.set_cons_succ]
  refine wpAnyH_ready (rs := [10]) (by kernel_rfl) (by simp) ?_
  refine AllReadyH.cons rfl (fun K hK => ?_) AllReadyH.nil
  go_simp
  refine (NB.out _ _ B3.out.heap B3.out.lt).mono ?_; rintro e w3 ⟨v3, m3, rfl, own3, hm3, hb⟩; have O3 := Lib.hid (own3.base (b' := w.heap.size + 1) (by have := BT.out.lt; simp; omega)); have z3 : w.heap.size + 1 ≤ w3.heap.size := Nat.le_trans (by have := BT.out.lt; simp; omega) hb.size
  refine hK.out _ _ ?_ (fun hS => ?_)
  · exact ⟨(by first | exact cell_later hb hS.1 | exact Blk.later hS.1 hb), (by first | exact cell_later hb hS.2.1 | exact Blk.later hS.2.1 hb), (by first | exact cell_later hb hS.2.2.1 | exact Blk.later hS.2.2.1 hb), (by first | exact cell_later hb hS.2.2.2.1 | exact Blk.later hS.2.2.2.1 hb), below_later hb hS.2.2.2.2⟩
  clear hK K
  try simp only [Act.put, List.getElem_toArray, List.getElem_cons_succ, List.getElem_cons_zero, List.setIfInBounds_toArray, List.set_cons_zero, List.set_cons_succ]
  refine wpAnyH_ready (rs := [13]) (by kernel_rfl) (by simp) ?_
  refine AllReadyH.cons rfl (fun K hK => ?_) AllReadyH.nil
  go_simp
  refine (octSmall_any A n c l w3 (H.out.later hS.2.2.2.2 (Nat.le_refl _)) (by omega)).mono ?_; rintro e w4 ⟨A4, n4, c4, rfl, hs4, hb⟩; have S4 := Lib.hid hs4; have O4 := Lib.hid (O3.out.below hb (Nat.le_refl _) (fun _ h => h.elim))
  refine hK.out _ _ ?_ (fun hS => ?_)
  · exact ⟨(by first | exact cell_later hb hS.1 | exact Blk.later hS.1 hb), (by first | exact cell_later hb hS.2.1 | exact Blk.later hS.2.1 hb), (by first | exact cell_later hb hS.2.2.1 | exact Blk.later hS.2.2.1 hb), (by first | exact cell_later hb hS.2.2.2.1 | exact Blk.later hS.2.2.2.1 hb), below_later hb hS.2.2.2.2⟩
  clear hK K
  try simp only [Act.put, List.getElem_toArray, List.getElem_cons_succ, List.getElem_cons_zero, List.setIfInBounds_toArray, List.set_cons_zero, List.set_cons_succ]
  refine wpAnyH_ready (rs := [14]) (by kernel_rfl) (by simp) ?_
  refine AllReadyH.cons rfl (fun K hK => ?_) AllReadyH.nil
  (rw [if_pos (by rfl)]; have nn := S4.out.n_eq; obtain ⟨b4, o4, rfl, _⟩ := S4.out.int_at 0 (by rw [← nn, OL.out, HN.out]; exact hn0); have ln := NL.out; have lo := OL.out; have hl := HN.out; simp only [List.length_cons, List.length_nil] at ln; refine oper_extend (.tmp 13) (.tmp 16) rfl ei_u8 rfl O4.out rfl S4.out (by unfold maxLen; omega) (by omega) (Nat.le_trans z3 hb.size) ?_; intro v5 w5 own5 g5 at5; have ne0 := Lib.hid (show some w.heap.size ≠ v3.ownBlock from fun e => absurd (O4.out.lt _ e.symm).1 (by omega)); refine hK.out _ _ ⟨cell_grown g5 hS.1 ne0.out, cell_grown g5 hS.2.1 ne0.out, cell_grown g5 hS.2.2.1 ne0.out, cell_grown g5 hS.2.2.2.1 ne0.out, hS.2.2.2.2.grown g5 hS.2.2.2.2.size (fun k h => by have := (O4.out.lt k h).1; omega)⟩ (fun hS => ?_))
  clear hK K
  try simp only [Act.put, List.getElem_toArray, List.getElem_cons_succ, List.getElem_cons_zero, List.setIfInBounds_toArray, List.set_cons_zero, List.set_cons_succ]
  refine wpAnyH_take (i := 15) (v := ?_) rfl (by as_aux_lemma => kernel_rfl) (by as_aux_lemma => kernel_rfl) (by as_aux_lemma => kernel_rfl) (fun _ _ _ h => h) (Or.inl ⟨by rfl, ?_⟩) hS ?_
  rotate_left
  · intro w hSw; (try dsimp only at hSw); go_simp; try with_reducible rfl
  try simp only [Act.put, List.getElem_toArray, List.getElem_cons_succ, List.getElem_cons_zero, List.setIfInBounds_toArray, List.set_cons_zero, List.set_cons_succ]
  refine wpAnyH_done (by kernel_rfl) ?_ _
  have FZ := hS.2.2.2.2
  have M5 := hm3
  have S5 := S4.out.n_eq
  clear hS
  go_wp2_with fail
  go_ret
  exact ⟨_, _, rfl, own5.base (Nat.le_succ _), by rw [List.length_append, ← M5, S5], FZ⟩
end Go.Proofs.Ytanglfmolnfjeaa
