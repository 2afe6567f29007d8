/-
  Walks of dense (layer 18): all sums of a tensor by a node, the program's and the document's.
  Conditions: none.
-/
import Derived.Test.YtlhnapjglebacaaDenseC
import Derived.Test.YtlhnapjglebacaaTensorA
import Derived.Deep.RegionHeld3
set_option linter.unusedVariables false
set_option linter.unusedSimpArgs false
namespace Go.Proofs.Ytlhnapjglebacaa
open Go.RowKit Go.ChangeShapes Go.WideShapes
set_option maxRecDepth 100000

theorem shapeEnd_bad (k out : Int) (h : ¬ k = 0) : shapeEnd k out = .returned (.tuple #[.agg #[.int .i64 0, .int .i64 0, .int .i64 0], .int .i64 k]) := by unfold shapeEnd; rw [if_neg h]

/-- All sums of a tensor by a node, and the error. -/
def denseOf (t : Tensor) (d : Node) : Tensor × Int :=
  if t.ok = true then (if denseCode t.h t.v t.c d = 0 then (⟨1, 1, d.out, denseLine t.data d.w d.bias d.za⟩, 0) else (noTensor, denseCode t.h t.v t.c d)) else (noTensor, 5)

theorem denseCode_sizes (t : Tensor) (d : Node) (nw nb : Nat) (k1 : d.w.length = nw) (k2 : d.bias.length = nb) (c2 : denseCode t.h t.v t.c d = 0) : nw ≤ 1048576 ∧ nb ≤ 1024 := by
  unfold denseCode at c2
  split at c2
  · omega
  · rename_i hne
    split at c2
    · omega
    · rename_i h3
      have o1 : 1 ≤ d.out ∧ d.out ≤ 1024 := by
        have : ¬ elems 1 1 d.out = 0 := fun h => hne (.inr h)
        rw [elems_iff] at this
        split at this
        · omega
        · exact absurd rfl this
      have h4 : (d.w.length : Int) = d.out * elems t.h t.v t.c := Decidable.byContradiction fun h => h3 (.inl h)
      have h5 : d.out * elems t.h t.v t.c ≤ 1024 * 1024 := Int.mul_le_mul o1.2 (elems_range _ _ _).2 (elems_range _ _ _).1 (by omega)
      omega

theorem acc_kept {w w4 w' : World} {A : Option Addr} {n cap : Nat} {l : List Int} {g : Nat} {u0 u1 u2 u3 : Value} (h : Sl (tInt .i32) w' (bin w4.heap.size w'.heap.size) A n cap l) (hg : g < w4.heap.size) (hs : w.heap.size ≤ w4.heap.size) :
    Sl (tInt .i32) ((((w'.setCell ⟨g, 0, none⟩ u0).setCell ⟨g, 1, none⟩ u1).setCell ⟨g, 2, none⟩ u2).setCell ⟨g, 3, none⟩ u3)
      (bin w.heap.size ((((w'.setCell ⟨g, 0, none⟩ u0).setCell ⟨g, 1, none⟩ u1).setCell ⟨g, 2, none⟩ u2).setCell ⟨g, 3, none⟩ u3).heap.size) A n cap l :=
  (((((h.far _ _ (fun b hb => by have := hb.1; simp; omega)).far _ _ (fun b hb => by have := hb.1; simp; omega)).far _ _ (fun b hb => by have := hb.1; simp; omega)).far _ _ (fun b hb => by have := hb.1; simp; omega)).more (bin_more hs (by simp)))

set_option maxHeartbeats 2000000 in
theorem denseOf_bad (t : Tensor) (A : Option Addr) (n cap : Nat) (d : Node) (W : Option Addr) (nw cw : Nat) (B : Option Addr) (nb cb : Nat) (w : World) (ht : TensorIn t) (hd : NodeIn d)
    (ha : Sl (tInt .i8) w (blo w.heap.size) A n cap t.data) (hw : Sl (tInt .i8) w (blo w.heap.size) W nw cw d.w) (hb : Sl (tInt .i32) w (blo w.heap.size) B nb cb d.bias) (c1 : ¬ t.ok = true) :
    Calls Try.prog 34 #[.agg #[.int .i64 t.h, .int .i64 t.v, .int .i64 t.c, .slice A n cap], .agg #[Value.int .i64 d.kind, Value.int .i64 d.a, Value.int .i64 d.b, Value.int .i64 d.k, Value.int .i64 d.s, Value.int .i64 d.p, Value.int .i64 d.out, Value.int .i8 d.za, Value.int .i8 d.zb, Value.slice W nw cw, Value.slice B nb cb, Value.int .i32 d.qm, Value.int .i64 d.qs, Value.int .i8 d.qz, Value.int .i32 d.rm, Value.int .i64 d.rs, Value.int .i8 d.rz, Value.int .i8 d.lo, Value.int .i8 d.hi]] w (RetT .i32 noTensor 5 w) := by
  have HT := Lib.hid ht
  have HD := Lib.hid hd
  have HA := Lib.hid ha
  have HW := Lib.hid hw
  have HB := Lib.hid hb
  have m1 : n ≤ 9223372036854775807 := Nat.le_trans ha.cap_le ha.max_le
  have m2 : nw ≤ 9223372036854775807 := Nat.le_trans hw.cap_le hw.max_le
  have m3 : nb ≤ 9223372036854775807 := Nat.le_trans hb.cap_le hb.max_le
  clear ht hd ha hw hb
  have c1' : decide (0 < elems t.h t.v t.c ∧ elems t.h t.v t.c = n) = false := by rw [← HA.out.n_eq]; simpa [Tensor.ok] using c1
  have C1 := Lib.hid c1'
  clear c1 c1'
  go_enter Try.func34, Try.ntmps34
  go_wp2_with fail
  refine (tensorRight_any t.h t.v t.c A n cap _ HT.out.h HT.out.v HT.out.c (Nat.le_trans HA.out.cap_le HA.out.max_le)).mono ?_
  rintro e w1 ⟨rfl, hb⟩
  rw [C1.out]
  have g1 := below_call (B := w.heap.size) (a := w) (by go_grown) hb (by simp; omega)
  have bC := (Blk.now _ (w.heap.size + 1 + 1) _ _ (by simp)).later hb
  have fC := fun i => bC.frozen i
  have cC := fun i => bC.cell i
  clear hb
  go_wp2_with fail
  refine ret_cell_tmp rfl ((((bC.set_ 0 _).set_ 1 _).set_ 2 _).set_ 3 _) rfl Try.underlying73 (by kernel_rfl) rfl ?_
  exact RetT.none (by go_grown)

set_option maxHeartbeats 2000000 in
theorem denseOf_good (t : Tensor) (A : Option Addr) (n cap : Nat) (d : Node) (W : Option Addr) (nw cw : Nat) (B : Option Addr) (nb cb : Nat) (w : World) (ht : TensorIn t) (hd : NodeIn d)
    (ha : Sl (tInt .i8) w (blo w.heap.size) A n cap t.data) (hw : Sl (tInt .i8) w (blo w.heap.size) W nw cw d.w) (hb : Sl (tInt .i32) w (blo w.heap.size) B nb cb d.bias) (c1 : t.ok = true) (c2 : denseCode t.h t.v t.c d = 0) :
    Calls Try.prog 34 #[.agg #[.int .i64 t.h, .int .i64 t.v, .int .i64 t.c, .slice A n cap], .agg #[Value.int .i64 d.kind, Value.int .i64 d.a, Value.int .i64 d.b, Value.int .i64 d.k, Value.int .i64 d.s, Value.int .i64 d.p, Value.int .i64 d.out, Value.int .i8 d.za, Value.int .i8 d.zb, Value.slice W nw cw, Value.slice B nb cb, Value.int .i32 d.qm, Value.int .i64 d.qs, Value.int .i8 d.qz, Value.int .i32 d.rm, Value.int .i64 d.rs, Value.int .i8 d.rz, Value.int .i8 d.lo, Value.int .i8 d.hi]] w (RetT .i32 ⟨1, 1, d.out, denseLine t.data d.w d.bias d.za⟩ 0 w) := by
  have HT := Lib.hid ht
  have HD := Lib.hid hd
  have HA := Lib.hid ha
  have HW := Lib.hid hw
  have HB := Lib.hid hb
  have m1 : n ≤ 9223372036854775807 := Nat.le_trans ha.cap_le ha.max_le
  have m2 : nw ≤ 9223372036854775807 := Nat.le_trans hw.cap_le hw.max_le
  have m3 : nb ≤ 9223372036854775807 := Nat.le_trans hb.cap_le hb.max_le
  clear ht hd ha hw hb
  have hq := denseCode_sizes t d nw nb HW.out.n_eq HB.out.n_eq c2
  have hn2 : n ≤ 1024 := by
    have h1 : t.ok = true := c1
    have h2 := HA.out.n_eq
    have h3 := elems_range t.h t.v t.c
    simp only [Tensor.ok, decide_eq_true_eq] at h1
    omega
  have c1' : decide (0 < elems t.h t.v t.c ∧ elems t.h t.v t.c = n) = true := by rw [← HA.out.n_eq]; simpa [Tensor.ok] using c1
  have C1 := Lib.hid c1'
  have C2 := Lib.hid c2
  clear c1 c1' c2
  go_enter Try.func34, Try.ntmps34
  go_wp2_with fail
  refine (tensorRight_any t.h t.v t.c A n cap _ HT.out.h HT.out.v HT.out.c (Nat.le_trans HA.out.cap_le HA.out.max_le)).mono ?_
  rintro e w1 ⟨rfl, hb⟩
  rw [C1.out]
  have g1 := below_call (B := w.heap.size) (a := w) (by go_grown) hb (by simp; omega)
  have bA := ((Blk.now _ w.heap.size _ _ rfl).past _ |>.past _).later hb
  have bB := ((Blk.now _ (w.heap.size + 1) _ _ (by simp)).past _).later hb
  have bC := (Blk.now _ (w.heap.size + 1 + 1) _ _ (by simp)).later hb
  have BA := Lib.hid bA
  have BB := Lib.hid bB
  have BC := Lib.hid bC
  have cA := fun i => bA.cell i
  clear bA bB bC hb
  go_wp2_with (refine wpList_load_row rfl 70 (.tmp 3) rfl (w.heap.size + 1) rfl _ _ (0, 0) _ BB.out.heap Try.underlying70 rfl (by kernel_rfl) ?_)
  refine (denseShape_any t.h t.v t.c d W nw cw B nb cb _ HT.out.h HT.out.v HT.out.c HD.out.out HW.out.n_eq.symm HB.out.n_eq.symm (Nat.le_trans HW.out.cap_le HW.out.max_le) (Nat.le_trans HB.out.cap_le HB.out.max_le)).mono ?_
  rintro e w2 ⟨rfl, hb⟩
  have g2 := below_call g1 hb g1.size
  have lt1 := BC.out.lt
  have lt2 := hb.size
  have BA := Lib.hid (BA.out.later hb)
  have BB := Lib.hid (BB.out.later hb)
  have BC := Lib.hid (BC.out.later hb)
  clear hb cA
  rw [C2.out]
  simp only [shapeEnd, if_true]
  go_wp2_with fail
  have BA := Lib.hid (BA.out.past (.cells #[.int .i64 1, .int .i64 1, .int .i64 d.out] 54))
  have BB := Lib.hid (BB.out.past (.cells #[.int .i64 1, .int .i64 1, .int .i64 d.out] 54))
  have BC := Lib.hid (BC.out.past (.cells #[.int .i64 1, .int .i64 1, .int .i64 d.out] 54))
  have BD := Lib.hid (Blk.now w2 w2.heap.size 54 #[.int .i64 1, .int .i64 1, .int .i64 d.out] rfl)
  have g3 : Below w.heap.size w (w2.alloc (.cells #[.int .i64 1, .int .i64 1, .int .i64 d.out] 54)) := g2.alloc g2.size _
  have lt3 : w2.heap.size < (w2.alloc (.cells #[.int .i64 1, .int .i64 1, .int .i64 d.out] 54)).heap.size := by simp
  generalize hw3 : w2.alloc (.cells #[.int .i64 1, .int .i64 1, .int .i64 d.out] 54) = w3 at *
  clear hw3
  refine wp_region_held_drew (S := fun w' => w'.cell? ⟨w2.heap.size, 0, none⟩ = some (.int .i64 1) ∧ w'.cell? ⟨w2.heap.size, 1, none⟩ = some (.int .i64 1) ∧ w'.cell? ⟨w2.heap.size, 2, none⟩ = some (.int .i64 d.out) ∧ w'.cell? ⟨w.heap.size, 3, none⟩ = some (.slice A n cap) ∧ w'.cell? ⟨w.heap.size + 1, 9, none⟩ = some (.slice W nw cw) ∧ w'.cell? ⟨w.heap.size + 1, 10, none⟩ = some (.slice B nb cb) ∧ w'.cell? ⟨w.heap.size + 1, 7, none⟩ = some (.int .i8 d.za) ∧ Below w.heap.size w w') (by kernel_rfl) ?_ (fun hS => ?_)
  · exact ⟨BD.out.cell 0, BD.out.cell 1, BD.out.cell 2, BA.out.cell 3, BB.out.cell 9, BB.out.cell 10, BB.out.cell 7, g3.drew⟩
  refine wpAnyH_take (i := 0) (v := ?_) rfl (by as_aux_lemma => kernel_rfl) (by as_aux_lemma => kernel_rfl) (by as_aux_lemma => kernel_rfl) (fun _ _ _ h => h) (Or.inl ⟨by rfl, ?_⟩) hS ?_
  rotate_left
  · intro w hSw; (try dsimp only at hSw); go_simp; try with_reducible rfl
  try simp only [Act.put, List.getElem_toArray, List.getElem_cons_succ, List.getElem_cons_zero, List.setIfInBounds_toArray, List.set_cons_zero, List.set_cons_succ]
  refine wpAnyH_take (i := 1) (v := ?_) rfl (by as_aux_lemma => kernel_rfl) (by as_aux_lemma => kernel_rfl) (by as_aux_lemma => kernel_rfl) (fun _ _ _ h => h) (Or.inl ⟨by rfl, ?_⟩) hS ?_
  rotate_left
  · intro w hSw; (try dsimp only at hSw); go_simp; try with_reducible rfl
  try simp only [Act.put, List.getElem_toArray, List.getElem_cons_succ, List.getElem_cons_zero, List.setIfInBounds_toArray, List.set_cons_zero, List.set_cons_succ]
  refine wpAnyH_take (i := 2) (v := ?_) rfl (by as_aux_lemma => kernel_rfl) (by as_aux_lemma => kernel_rfl) (by as_aux_lemma => kernel_rfl) (fun _ _ _ h => h) (Or.inl ⟨by rfl, ?_⟩) hS ?_
  rotate_left
  · intro w hSw; (try dsimp only at hSw); go_simp; try with_reducible rfl
  try simp only [Act.put, List.getElem_toArray, List.getElem_cons_succ, List.getElem_cons_zero, List.setIfInBounds_toArray, List.set_cons_zero, List.set_cons_succ]
  refine wpAnyH_take (i := 3) (v := ?_) rfl (by as_aux_lemma => kernel_rfl) (by as_aux_lemma => kernel_rfl) (by as_aux_lemma => kernel_rfl) (fun _ _ _ h => h) (Or.inl ⟨by rfl, ?_⟩) hS ?_
  rotate_left
  · intro w hSw; (try dsimp only at hSw); go_simp; try with_reducible rfl
  try simp only [Act.put, List.getElem_toArray, List.getElem_cons_succ, List.getElem_cons_zero, List.setIfInBounds_toArray, List.set_cons_zero, List.set_cons_succ]
  refine wpAnyH_take (i := 4) (v := ?_) rfl (by as_aux_lemma => kernel_rfl) (by as_aux_lemma => kernel_rfl) (by as_aux_lemma => kernel_rfl) (fun _ _ _ h => h) (Or.inl ⟨by rfl, ?_⟩) hS ?_
  rotate_left
  · intro w hSw; (try dsimp only at hSw); go_simp; try with_reducible rfl
  try simp only [Act.put, List.getElem_toArray, List.getElem_cons_succ, List.getElem_cons_zero, List.setIfInBounds_toArray, List.set_cons_zero, List.set_cons_succ]
  refine wpAnyH_take (i := 5) (v := ?_) rfl (by as_aux_lemma => kernel_rfl) (by as_aux_lemma => kernel_rfl) (by as_aux_lemma => kernel_rfl) (fun _ _ _ h => h) (Or.inl ⟨by rfl, ?_⟩) hS ?_
  rotate_left
  · intro w hSw; (try dsimp only at hSw); go_simp; try with_reducible rfl
  try simp only [Act.put, List.getElem_toArray, List.getElem_cons_succ, List.getElem_cons_zero, List.setIfInBounds_toArray, List.set_cons_zero, List.set_cons_succ]
  refine wpAnyH_take (i := 6) (v := ?_) rfl (by as_aux_lemma => kernel_rfl) (by as_aux_lemma => kernel_rfl) (by as_aux_lemma => kernel_rfl) (fun _ _ _ h => h) (Or.inl ⟨by rfl, ?_⟩) hS ?_
  rotate_left
  · intro w hSw; (try dsimp only at hSw); go_simp; try with_reducible rfl
  try simp only [Act.put, List.getElem_toArray, List.getElem_cons_succ, List.getElem_cons_zero, List.setIfInBounds_toArray, List.set_cons_zero, List.set_cons_succ]
  refine wpAnyH_take (i := 7) (v := ?_) rfl (by as_aux_lemma => kernel_rfl) (by as_aux_lemma => kernel_rfl) (by as_aux_lemma => kernel_rfl) (fun _ _ _ h => h) (Or.inl ⟨by rfl, ?_⟩) hS ?_
  rotate_left
  · intro w hSw; (try dsimp only at hSw); go_simp; try with_reducible rfl
  try simp only [Act.put, List.getElem_toArray, List.getElem_cons_succ, List.getElem_cons_zero, List.setIfInBounds_toArray, List.set_cons_zero, List.set_cons_succ]
  refine wpAnyH_take (i := 8) (v := ?_) rfl (by as_aux_lemma => kernel_rfl) (by as_aux_lemma => kernel_rfl) (by as_aux_lemma => kernel_rfl) (fun _ _ _ h => h) (Or.inl ⟨by rfl, ?_⟩) hS ?_
  rotate_left
  · intro w hSw; (try dsimp only at hSw); go_simp; try with_reducible rfl
  try simp only [Act.put, List.getElem_toArray, List.getElem_cons_succ, List.getElem_cons_zero, List.setIfInBounds_toArray, List.set_cons_zero, List.set_cons_succ]
  refine wpAnyH_ready (rs := [9]) (by kernel_rfl) (by simp) ?_
  refine AllReadyH.cons rfl (fun K hK => ?_) AllReadyH.nil
  go_simp
  refine (line_any A W B n cap nw cw nb cb _ _ _ _ _ (HA.out.later g3.drew (Nat.le_refl _)) (HW.out.later g3.drew (Nat.le_refl _)) (HB.out.later g3.drew (Nat.le_refl _)) HD.out.za (by omega) (by omega) (by omega)).mono ?_; rintro e w' ⟨A', n', cap', rfl, hs, hb⟩; have bC := BC.out.drew.later hb; have cC := fun i => bC.cell i; have fC := fun i => bC.frozen i; have HSL := Lib.hid hs; clear hs
  refine hK.out _ _ ?_ (fun hS => ?_)
  · exact ⟨cell_later hb hS.1, cell_later hb hS.2.1, cell_later hb hS.2.2.1, cell_later hb hS.2.2.2.1, cell_later hb hS.2.2.2.2.1, cell_later hb hS.2.2.2.2.2.1, cell_later hb hS.2.2.2.2.2.2.1, below_later hb hS.2.2.2.2.2.2.2⟩
  clear hK K
  try simp only [Act.put, List.getElem_toArray, List.getElem_cons_succ, List.getElem_cons_zero, List.setIfInBounds_toArray, List.set_cons_zero, List.set_cons_succ]
  refine wpAnyH_take (i := 10) (v := ?_) rfl (by as_aux_lemma => kernel_rfl) (by as_aux_lemma => kernel_rfl) (by as_aux_lemma => kernel_rfl) (fun _ _ _ h => h) (Or.inl ⟨by rfl, ?_⟩) hS ?_
  rotate_left
  · intro w hSw; (try dsimp only at hSw); go_simp; try with_reducible rfl
  try simp only [Act.put, List.getElem_toArray, List.getElem_cons_succ, List.getElem_cons_zero, List.setIfInBounds_toArray, List.set_cons_zero, List.set_cons_succ]
  refine wpAnyH_ready (rs := [11]) (by kernel_rfl) (by simp) ?_
  refine AllReadyH.cons rfl (fun K hK => ?_) AllReadyH.nil
  go_simp
  refine hK.out _ _ ?_ (fun hS => ?_)
  · obtain ⟨k0, k1, k2, k3, k4, k5, k6, k7⟩ := hS
    exact ⟨(by (repeat rw [cell_far _ _ _ _ (by first | (simp; done) | (simp; omega))]); exact k0), (by (repeat rw [cell_far _ _ _ _ (by first | (simp; done) | (simp; omega))]); exact k1), (by (repeat rw [cell_far _ _ _ _ (by first | (simp; done) | (simp; omega))]); exact k2), (by (repeat rw [cell_far _ _ _ _ (by first | (simp; done) | (simp; omega))]); exact k3), (by (repeat rw [cell_far _ _ _ _ (by first | (simp; done) | (simp; omega))]); exact k4), (by (repeat rw [cell_far _ _ _ _ (by first | (simp; done) | (simp; omega))]); exact k5), (by (repeat rw [cell_far _ _ _ _ (by first | (simp; done) | (simp; omega))]); exact k6), (by go_grown)⟩
  clear hK K
  try simp only [Act.put, List.getElem_toArray, List.getElem_cons_succ, List.getElem_cons_zero, List.setIfInBounds_toArray, List.set_cons_zero, List.set_cons_succ]
  refine wpAnyH_take (i := 12) (v := ?_) rfl (by as_aux_lemma => kernel_rfl) (by as_aux_lemma => kernel_rfl) (by as_aux_lemma => kernel_rfl) (fun _ _ _ h => h) (Or.inl ⟨by rfl, ?_⟩) hS ?_
  rotate_left
  · intro w hSw; (try dsimp only at hSw); go_simp; try with_reducible rfl
  try simp only [Act.put, List.getElem_toArray, List.getElem_cons_succ, List.getElem_cons_zero, List.setIfInBounds_toArray, List.set_cons_zero, List.set_cons_succ]
  refine wpAnyH_done (by kernel_rfl) ?_ _
  have lt5 := BC.out.lt
  have lt6 := g3.size
  have g5 := below_call g3.drew hb g3.size
  clear hS hb
  go_wp2_with fail
  refine ret_cell_tmp rfl ((((bC.set_ 0 _).set_ 1 _).set_ 2 _).set_ 3 _) rfl Try.underlying73 (by kernel_rfl) rfl ?_
  refine ⟨A', n', cap', rfl, ?_, by go_grown⟩
  exact acc_kept (w4 := w3.drew) HSL.out lt5 lt6

set_option maxHeartbeats 2000000 in
theorem denseOf_code (t : Tensor) (A : Option Addr) (n cap : Nat) (d : Node) (W : Option Addr) (nw cw : Nat) (B : Option Addr) (nb cb : Nat) (w : World) (ht : TensorIn t) (hd : NodeIn d)
    (ha : Sl (tInt .i8) w (blo w.heap.size) A n cap t.data) (hw : Sl (tInt .i8) w (blo w.heap.size) W nw cw d.w) (hb : Sl (tInt .i32) w (blo w.heap.size) B nb cb d.bias) (c1 : t.ok = true) (c2 : ¬ denseCode t.h t.v t.c d = 0) :
    Calls Try.prog 34 #[.agg #[.int .i64 t.h, .int .i64 t.v, .int .i64 t.c, .slice A n cap], .agg #[Value.int .i64 d.kind, Value.int .i64 d.a, Value.int .i64 d.b, Value.int .i64 d.k, Value.int .i64 d.s, Value.int .i64 d.p, Value.int .i64 d.out, Value.int .i8 d.za, Value.int .i8 d.zb, Value.slice W nw cw, Value.slice B nb cb, Value.int .i32 d.qm, Value.int .i64 d.qs, Value.int .i8 d.qz, Value.int .i32 d.rm, Value.int .i64 d.rs, Value.int .i8 d.rz, Value.int .i8 d.lo, Value.int .i8 d.hi]] w (RetT .i32 noTensor (denseCode t.h t.v t.c d) w) := by
  have HT := Lib.hid ht
  have HD := Lib.hid hd
  have HA := Lib.hid ha
  have HW := Lib.hid hw
  have HB := Lib.hid hb
  have m1 : n ≤ 9223372036854775807 := Nat.le_trans ha.cap_le ha.max_le
  have m2 : nw ≤ 9223372036854775807 := Nat.le_trans hw.cap_le hw.max_le
  have m3 : nb ≤ 9223372036854775807 := Nat.le_trans hb.cap_le hb.max_le
  clear ht hd ha hw hb
  have c1' : decide (0 < elems t.h t.v t.c ∧ elems t.h t.v t.c = n) = true := by rw [← HA.out.n_eq]; simpa [Tensor.ok] using c1
  have C1 := Lib.hid c1'
  clear c1 c1'
  generalize hk : denseCode t.h t.v t.c d = k at *
  have hk2 : (k != 0) = true := by rw [bne_iff_ne]; exact c2
  have HK := Lib.hid hk
  have HC := Lib.hid c2
  clear hk c2
  go_enter Try.func34, Try.ntmps34
  go_wp2_with fail
  refine (tensorRight_any t.h t.v t.c A n cap _ HT.out.h HT.out.v HT.out.c (Nat.le_trans HA.out.cap_le HA.out.max_le)).mono ?_
  rintro e w1 ⟨rfl, hb⟩
  rw [C1.out]
  have g1 := below_call (B := w.heap.size) (a := w) (by go_grown) hb (by simp; omega)
  have bA := ((Blk.now _ w.heap.size _ _ rfl).past _ |>.past _).later hb
  have bB := ((Blk.now _ (w.heap.size + 1) _ _ (by simp)).past _).later hb
  have bC := (Blk.now _ (w.heap.size + 1 + 1) _ _ (by simp)).later hb
  have BA := Lib.hid bA
  have BB := Lib.hid bB
  have BC := Lib.hid bC
  have cA := fun i => bA.cell i
  clear bA bB bC hb
  go_wp2_with (refine wpList_load_row rfl 70 (.tmp 3) rfl (w.heap.size + 1) rfl _ _ (0, 0) _ BB.out.heap Try.underlying70 rfl (by kernel_rfl) ?_)
  refine (denseShape_any t.h t.v t.c d W nw cw B nb cb _ HT.out.h HT.out.v HT.out.c HD.out.out HW.out.n_eq.symm HB.out.n_eq.symm (Nat.le_trans HW.out.cap_le HW.out.max_le) (Nat.le_trans HB.out.cap_le HB.out.max_le)).mono ?_
  rintro e w2 ⟨rfl, hb⟩
  have g2 := below_call g1 hb g1.size
  have lt1 := BC.out.lt
  have lt2 := hb.size
  have BA := Lib.hid (BA.out.later hb)
  have BB := Lib.hid (BB.out.later hb)
  have BC := Lib.hid (BC.out.later hb)
  clear hb cA
  rw [HK.out, shapeEnd_bad k d.out HC.out]
  have BC := Lib.hid (BC.out.past (.cells #[.int .i64 0, .int .i64 0, .int .i64 0] 54))
  have g3 : Below w.heap.size w (w2.alloc (.cells #[.int .i64 0, .int .i64 0, .int .i64 0] 54)) := g2.alloc g2.size _
  have fC := fun i => BC.out.frozen i
  have cC := fun i => BC.out.cell i
  have lt6 := g3.size
  go_wp2_with fail
  refine ret_cell_tmp rfl ((((BC.out.set_ 0 _).set_ 1 _).set_ 2 _).set_ 3 _) rfl Try.underlying73 (by kernel_rfl) rfl ?_
  exact RetT.none (by go_grown)

theorem denseOf_any (t : Tensor) (A : Option Addr) (n cap : Nat) (d : Node) (W : Option Addr) (nw cw : Nat) (B : Option Addr) (nb cb : Nat) (w : World) (ht : TensorIn t) (hd : NodeIn d)
    (ha : Sl (tInt .i8) w (blo w.heap.size) A n cap t.data) (hw : Sl (tInt .i8) w (blo w.heap.size) W nw cw d.w) (hb : Sl (tInt .i32) w (blo w.heap.size) B nb cb d.bias) :
    Calls Try.prog 34 #[.agg #[.int .i64 t.h, .int .i64 t.v, .int .i64 t.c, .slice A n cap], .agg #[Value.int .i64 d.kind, Value.int .i64 d.a, Value.int .i64 d.b, Value.int .i64 d.k, Value.int .i64 d.s, Value.int .i64 d.p, Value.int .i64 d.out, Value.int .i8 d.za, Value.int .i8 d.zb, Value.slice W nw cw, Value.slice B nb cb, Value.int .i32 d.qm, Value.int .i64 d.qs, Value.int .i8 d.qz, Value.int .i32 d.rm, Value.int .i64 d.rs, Value.int .i8 d.rz, Value.int .i8 d.lo, Value.int .i8 d.hi]] w (RetT .i32 (denseOf t d).1 (denseOf t d).2 w) := by
  by_cases c1 : t.ok = true
  · by_cases c2 : denseCode t.h t.v t.c d = 0
    · have e : denseOf t d = (⟨1, 1, d.out, denseLine t.data d.w d.bias d.za⟩, 0) := by unfold denseOf; rw [if_pos c1, if_pos c2]
      rw [e]; exact denseOf_good t A n cap d W nw cw B nb cb w ht hd ha hw hb c1 c2
    · have e : denseOf t d = (noTensor, denseCode t.h t.v t.c d) := by unfold denseOf; rw [if_pos c1, if_neg c2]
      rw [e]; exact denseOf_code t A n cap d W nw cw B nb cb w ht hd ha hw hb c1 c2
  · have e : denseOf t d = (noTensor, 5) := by unfold denseOf; rw [if_neg c1]
    rw [e]; exact denseOf_bad t A n cap d W nw cw B nb cb w ht hd ha hw hb c1

set_option maxHeartbeats 2000000 in
theorem rdenseOf_bad (t : Tensor) (A : Option Addr) (n cap : Nat) (d : Node) (W : Option Addr) (nw cw : Nat) (B : Option Addr) (nb cb : Nat) (w : World) (ht : TensorIn t) (hd : NodeIn d)
    (ha : Sl (tInt .i8) w (blo w.heap.size) A n cap t.data) (hw : Sl (tInt .i8) w (blo w.heap.size) W nw cw d.w) (hb : Sl (tInt .i32) w (blo w.heap.size) B nb cb d.bias) (c1 : ¬ t.ok = true) :
    Calls Try.prog 35 #[.agg #[.int .i64 t.h, .int .i64 t.v, .int .i64 t.c, .slice A n cap], .agg #[Value.int .i64 d.kind, Value.int .i64 d.a, Value.int .i64 d.b, Value.int .i64 d.k, Value.int .i64 d.s, Value.int .i64 d.p, Value.int .i64 d.out, Value.int .i8 d.za, Value.int .i8 d.zb, Value.slice W nw cw, Value.slice B nb cb, Value.int .i32 d.qm, Value.int .i64 d.qs, Value.int .i8 d.qz, Value.int .i32 d.rm, Value.int .i64 d.rs, Value.int .i8 d.rz, Value.int .i8 d.lo, Value.int .i8 d.hi]] w (RetT .i32 noTensor 5 w) := by
  have HT := Lib.hid ht
  have HD := Lib.hid hd
  have HA := Lib.hid ha
  have HW := Lib.hid hw
  have HB := Lib.hid hb
  have m1 : n ≤ 9223372036854775807 := Nat.le_trans ha.cap_le ha.max_le
  have m2 : nw ≤ 9223372036854775807 := Nat.le_trans hw.cap_le hw.max_le
  have m3 : nb ≤ 9223372036854775807 := Nat.le_trans hb.cap_le hb.max_le
  clear ht hd ha hw hb
  have c1' : decide (0 < elems t.h t.v t.c ∧ elems t.h t.v t.c = n) = false := by rw [← HA.out.n_eq]; simpa [Tensor.ok] using c1
  have C1 := Lib.hid c1'
  clear c1 c1'
  go_enter Try.func35, Try.ntmps35
  go_wp2_with fail
  refine (rtensorRight_any t.h t.v t.c A n cap _ HT.out.h HT.out.v HT.out.c (Nat.le_trans HA.out.cap_le HA.out.max_le)).mono ?_
  rintro e w1 ⟨rfl, hb⟩
  rw [C1.out]
  have g1 := below_call (B := w.heap.size) (a := w) (by go_grown) hb (by simp; omega)
  have bC := (Blk.now _ (w.heap.size + 1 + 1) _ _ (by simp)).later hb
  have fC := fun i => bC.frozen i
  have cC := fun i => bC.cell i
  clear hb
  go_wp2_with fail
  refine ret_cell_tmp rfl ((((bC.set_ 0 _).set_ 1 _).set_ 2 _).set_ 3 _) rfl Try.underlying73 (by kernel_rfl) rfl ?_
  exact RetT.none (by go_grown)

set_option maxHeartbeats 2000000 in
theorem rdenseOf_good (t : Tensor) (A : Option Addr) (n cap : Nat) (d : Node) (W : Option Addr) (nw cw : Nat) (B : Option Addr) (nb cb : Nat) (w : World) (ht : TensorIn t) (hd : NodeIn d)
    (ha : Sl (tInt .i8) w (blo w.heap.size) A n cap t.data) (hw : Sl (tInt .i8) w (blo w.heap.size) W nw cw d.w) (hb : Sl (tInt .i32) w (blo w.heap.size) B nb cb d.bias) (c1 : t.ok = true) (c2 : denseCode t.h t.v t.c d = 0) :
    Calls Try.prog 35 #[.agg #[.int .i64 t.h, .int .i64 t.v, .int .i64 t.c, .slice A n cap], .agg #[Value.int .i64 d.kind, Value.int .i64 d.a, Value.int .i64 d.b, Value.int .i64 d.k, Value.int .i64 d.s, Value.int .i64 d.p, Value.int .i64 d.out, Value.int .i8 d.za, Value.int .i8 d.zb, Value.slice W nw cw, Value.slice B nb cb, Value.int .i32 d.qm, Value.int .i64 d.qs, Value.int .i8 d.qz, Value.int .i32 d.rm, Value.int .i64 d.rs, Value.int .i8 d.rz, Value.int .i8 d.lo, Value.int .i8 d.hi]] w (RetT .i32 ⟨1, 1, d.out, denseLine t.data d.w d.bias d.za⟩ 0 w) := by
  have HT := Lib.hid ht
  have HD := Lib.hid hd
  have HA := Lib.hid ha
  have HW := Lib.hid hw
  have HB := Lib.hid hb
  have m1 : n ≤ 9223372036854775807 := Nat.le_trans ha.cap_le ha.max_le
  have m2 : nw ≤ 9223372036854775807 := Nat.le_trans hw.cap_le hw.max_le
  have m3 : nb ≤ 9223372036854775807 := Nat.le_trans hb.cap_le hb.max_le
  clear ht hd ha hw hb
  have hq := denseCode_sizes t d nw nb HW.out.n_eq HB.out.n_eq c2
  have hn2 : n ≤ 1024 := by
    have h1 : t.ok = true := c1
    have h2 := HA.out.n_eq
    have h3 := elems_range t.h t.v t.c
    simp only [Tensor.ok, decide_eq_true_eq] at h1
    omega
  have c1' : decide (0 < elems t.h t.v t.c ∧ elems t.h t.v t.c = n) = true := by rw [← HA.out.n_eq]; simpa [Tensor.ok] using c1
  have C1 := Lib.hid c1'
  have C2 := Lib.hid c2
  clear c1 c1' c2
  go_enter Try.func35, Try.ntmps35
  go_wp2_with fail
  refine (rtensorRight_any t.h t.v t.c A n cap _ HT.out.h HT.out.v HT.out.c (Nat.le_trans HA.out.cap_le HA.out.max_le)).mono ?_
  rintro e w1 ⟨rfl, hb⟩
  rw [C1.out]
  have g1 := below_call (B := w.heap.size) (a := w) (by go_grown) hb (by simp; omega)
  have bA := ((Blk.now _ w.heap.size _ _ rfl).past _ |>.past _).later hb
  have bB := ((Blk.now _ (w.heap.size + 1) _ _ (by simp)).past _).later hb
  have bC := (Blk.now _ (w.heap.size + 1 + 1) _ _ (by simp)).later hb
  have BA := Lib.hid bA
  have BB := Lib.hid bB
  have BC := Lib.hid bC
  have cA := fun i => bA.cell i
  clear bA bB bC hb
  go_wp2_with (refine wpList_load_row rfl 70 (.tmp 3) rfl (w.heap.size + 1) rfl _ _ (0, 0) _ BB.out.heap Try.underlying70 rfl (by kernel_rfl) ?_)
  refine (rdenseShape_any t.h t.v t.c d W nw cw B nb cb _ HT.out.h HT.out.v HT.out.c HD.out.out HW.out.n_eq.symm HB.out.n_eq.symm (Nat.le_trans HW.out.cap_le HW.out.max_le) (Nat.le_trans HB.out.cap_le HB.out.max_le)).mono ?_
  rintro e w2 ⟨rfl, hb⟩
  have g2 := below_call g1 hb g1.size
  have lt1 := BC.out.lt
  have lt2 := hb.size
  have BA := Lib.hid (BA.out.later hb)
  have BB := Lib.hid (BB.out.later hb)
  have BC := Lib.hid (BC.out.later hb)
  clear hb cA
  rw [C2.out]
  simp only [shapeEnd, if_true]
  go_wp2_with fail
  have BA := Lib.hid (BA.out.past (.cells #[.int .i64 1, .int .i64 1, .int .i64 d.out] 54))
  have BB := Lib.hid (BB.out.past (.cells #[.int .i64 1, .int .i64 1, .int .i64 d.out] 54))
  have BC := Lib.hid (BC.out.past (.cells #[.int .i64 1, .int .i64 1, .int .i64 d.out] 54))
  have BD := Lib.hid (Blk.now w2 w2.heap.size 54 #[.int .i64 1, .int .i64 1, .int .i64 d.out] rfl)
  have g3 : Below w.heap.size w (w2.alloc (.cells #[.int .i64 1, .int .i64 1, .int .i64 d.out] 54)) := g2.alloc g2.size _
  have lt3 : w2.heap.size < (w2.alloc (.cells #[.int .i64 1, .int .i64 1, .int .i64 d.out] 54)).heap.size := by simp
  generalize hw3 : w2.alloc (.cells #[.int .i64 1, .int .i64 1, .int .i64 d.out] 54) = w3 at *
  clear hw3
  refine wp_region_held_drew (S := fun w' => w'.cell? ⟨w2.heap.size, 0, none⟩ = some (.int .i64 1) ∧ w'.cell? ⟨w2.heap.size, 1, none⟩ = some (.int .i64 1) ∧ w'.cell? ⟨w2.heap.size, 2, none⟩ = some (.int .i64 d.out) ∧ w'.cell? ⟨w.heap.size, 3, none⟩ = some (.slice A n cap) ∧ w'.cell? ⟨w.heap.size + 1, 9, none⟩ = some (.slice W nw cw) ∧ w'.cell? ⟨w.heap.size + 1, 10, none⟩ = some (.slice B nb cb) ∧ w'.cell? ⟨w.heap.size + 1, 7, none⟩ = some (.int .i8 d.za) ∧ Below w.heap.size w w') (by kernel_rfl) ?_ (fun hS => ?_)
  · exact ⟨BD.out.cell 0, BD.out.cell 1, BD.out.cell 2, BA.out.cell 3, BB.out.cell 9, BB.out.cell 10, BB.out.cell 7, g3.drew⟩
  refine wpAnyH_take (i := 0) (v := ?_) rfl (by as_aux_lemma => kernel_rfl) (by as_aux_lemma => kernel_rfl) (by as_aux_lemma => kernel_rfl) (fun _ _ _ h => h) (Or.inl ⟨by rfl, ?_⟩) hS ?_
  rotate_left
  · intro w hSw; (try dsimp only at hSw); go_simp; try with_reducible rfl
  try simp only [Act.put, List.getElem_toArray, List.getElem_cons_succ, List.getElem_cons_zero, List.setIfInBounds_toArray, List.set_cons_zero, List.set_cons_succ]
  refine wpAnyH_take (i := 1) (v := ?_) rfl (by as_aux_lemma => kernel_rfl) (by as_aux_lemma => kernel_rfl) (by as_aux_lemma => kernel_rfl) (fun _ _ _ h => h) (Or.inl ⟨by rfl, ?_⟩) hS ?_
  rotate_left
  · intro w hSw; (try dsimp only at hSw); go_simp; try with_reducible rfl
  try simp only [Act.put, List.getElem_toArray, List.getElem_cons_succ, List.getElem_cons_zero, List.setIfInBounds_toArray, List.set_cons_zero, List.set_cons_succ]
  refine wpAnyH_take (i := 2) (v := ?_) rfl (by as_aux_lemma => kernel_rfl) (by as_aux_lemma => kernel_rfl) (by as_aux_lemma => kernel_rfl) (fun _ _ _ h => h) (Or.inl ⟨by rfl, ?_⟩) hS ?_
  rotate_left
  · intro w hSw; (try dsimp only at hSw); go_simp; try with_reducible rfl
  try simp only [Act.put, List.getElem_toArray, List.getElem_cons_succ, List.getElem_cons_zero, List.setIfInBounds_toArray, List.set_cons_zero, List.set_cons_succ]
  refine wpAnyH_take (i := 3) (v := ?_) rfl (by as_aux_lemma => kernel_rfl) (by as_aux_lemma => kernel_rfl) (by as_aux_lemma => kernel_rfl) (fun _ _ _ h => h) (Or.inl ⟨by rfl, ?_⟩) hS ?_
  rotate_left
  · intro w hSw; (try dsimp only at hSw); go_simp; try with_reducible rfl
  try simp only [Act.put, List.getElem_toArray, List.getElem_cons_succ, List.getElem_cons_zero, List.setIfInBounds_toArray, List.set_cons_zero, List.set_cons_succ]
  refine wpAnyH_take (i := 4) (v := ?_) rfl (by as_aux_lemma => kernel_rfl) (by as_aux_lemma => kernel_rfl) (by as_aux_lemma => kernel_rfl) (fun _ _ _ h => h) (Or.inl ⟨by rfl, ?_⟩) hS ?_
  rotate_left
  · intro w hSw; (try dsimp only at hSw); go_simp; try with_reducible rfl
  try simp only [Act.put, List.getElem_toArray, List.getElem_cons_succ, List.getElem_cons_zero, List.setIfInBounds_toArray, List.set_cons_zero, List.set_cons_succ]
  refine wpAnyH_take (i := 5) (v := ?_) rfl (by as_aux_lemma => kernel_rfl) (by as_aux_lemma => kernel_rfl) (by as_aux_lemma => kernel_rfl) (fun _ _ _ h => h) (Or.inl ⟨by rfl, ?_⟩) hS ?_
  rotate_left
  · intro w hSw; (try dsimp only at hSw); go_simp; try with_reducible rfl
  try simp only [Act.put, List.getElem_toArray, List.getElem_cons_succ, List.getElem_cons_zero, List.setIfInBounds_toArray, List.set_cons_zero, List.set_cons_succ]
  refine wpAnyH_take (i := 6) (v := ?_) rfl (by as_aux_lemma => kernel_rfl) (by as_aux_lemma => kernel_rfl) (by as_aux_lemma => kernel_rfl) (fun _ _ _ h => h) (Or.inl ⟨by rfl, ?_⟩) hS ?_
  rotate_left
  · intro w hSw; (try dsimp only at hSw); go_simp; try with_reducible rfl
  try simp only [Act.put, List.getElem_toArray, List.getElem_cons_succ, List.getElem_cons_zero, List.setIfInBounds_toArray, List.set_cons_zero, List.set_cons_succ]
  refine wpAnyH_take (i := 7) (v := ?_) rfl (by as_aux_lemma => kernel_rfl) (by as_aux_lemma => kernel_rfl) (by as_aux_lemma => kernel_rfl) (fun _ _ _ h => h) (Or.inl ⟨by rfl, ?_⟩) hS ?_
  rotate_left
  · intro w hSw; (try dsimp only at hSw); go_simp; try with_reducible rfl
  try simp only [Act.put, List.getElem_toArray, List.getElem_cons_succ, List.getElem_cons_zero, List.setIfInBounds_toArray, List.set_cons_zero, List.set_cons_succ]
  refine wpAnyH_take (i := 8) (v := ?_) rfl (by as_aux_lemma => kernel_rfl) (by as_aux_lemma => kernel_rfl) (by as_aux_lemma => kernel_rfl) (fun _ _ _ h => h) (Or.inl ⟨by rfl, ?_⟩) hS ?_
  rotate_left
  · intro w hSw; (try dsimp only at hSw); go_simp; try with_reducible rfl
  try simp only [Act.put, List.getElem_toArray, List.getElem_cons_succ, List.getElem_cons_zero, List.setIfInBounds_toArray, List.set_cons_zero, List.set_cons_succ]
  refine wpAnyH_ready (rs := [9]) (by kernel_rfl) (by simp) ?_
  refine AllReadyH.cons rfl (fun K hK => ?_) AllReadyH.nil
  go_simp
  refine (rline_any A W B n cap nw cw nb cb _ _ _ _ _ (HA.out.later g3.drew (Nat.le_refl _)) (HW.out.later g3.drew (Nat.le_refl _)) (HB.out.later g3.drew (Nat.le_refl _)) HD.out.za (by omega) (by omega) (by omega)).mono ?_; rintro e w' ⟨A', n', cap', rfl, hs, hb⟩; have bC := BC.out.drew.later hb; have cC := fun i => bC.cell i; have fC := fun i => bC.frozen i; have HSL := Lib.hid hs; clear hs
  refine hK.out _ _ ?_ (fun hS => ?_)
  · exact ⟨cell_later hb hS.1, cell_later hb hS.2.1, cell_later hb hS.2.2.1, cell_later hb hS.2.2.2.1, cell_later hb hS.2.2.2.2.1, cell_later hb hS.2.2.2.2.2.1, cell_later hb hS.2.2.2.2.2.2.1, below_later hb hS.2.2.2.2.2.2.2⟩
  clear hK K
  try simp only [Act.put, List.getElem_toArray, List.getElem_cons_succ, List.getElem_cons_zero, List.setIfInBounds_toArray, List.set_cons_zero, List.set_cons_succ]
  refine wpAnyH_take (i := 10) (v := ?_) rfl (by as_aux_lemma => kernel_rfl) (by as_aux_lemma => kernel_rfl) (by as_aux_lemma => kernel_rfl) (fun _ _ _ h => h) (Or.inl ⟨by rfl, ?_⟩) hS ?_
  rotate_left
  · intro w hSw; (try dsimp only at hSw); go_simp; try with_reducible rfl
  try simp only [Act.put, List.getElem_toArray, List.getElem_cons_succ, List.getElem_cons_zero, List.setIfInBounds_toArray, List.set_cons_zero, List.set_cons_succ]
  refine wpAnyH_ready (rs := [11]) (by kernel_rfl) (by simp) ?_
  refine AllReadyH.cons rfl (fun K hK => ?_) AllReadyH.nil
  go_simp
  refine hK.out _ _ ?_ (fun hS => ?_)
  · obtain ⟨k0, k1, k2, k3, k4, k5, k6, k7⟩ := hS
    exact ⟨(by (repeat rw [cell_far _ _ _ _ (by first | (simp; done) | (simp; omega))]); exact k0), (by (repeat rw [cell_far _ _ _ _ (by first | (simp; done) | (simp; omega))]); exact k1), (by (repeat rw [cell_far _ _ _ _ (by first | (simp; done) | (simp; omega))]); exact k2), (by (repeat rw [cell_far _ _ _ _ (by first | (simp; done) | (simp; omega))]); exact k3), (by (repeat rw [cell_far _ _ _ _ (by first | (simp; done) | (simp; omega))]); exact k4), (by (repeat rw [cell_far _ _ _ _ (by first | (simp; done) | (simp; omega))]); exact k5), (by (repeat rw [cell_far _ _ _ _ (by first | (simp; done) | (simp; omega))]); exact k6), (by go_grown)⟩
  clear hK K
  try simp only [Act.put, List.getElem_toArray, List.getElem_cons_succ, List.getElem_cons_zero, List.setIfInBounds_toArray, List.set_cons_zero, List.set_cons_succ]
  refine wpAnyH_take (i := 12) (v := ?_) rfl (by as_aux_lemma => kernel_rfl) (by as_aux_lemma => kernel_rfl) (by as_aux_lemma => kernel_rfl) (fun _ _ _ h => h) (Or.inl ⟨by rfl, ?_⟩) hS ?_
  rotate_left
  · intro w hSw; (try dsimp only at hSw); go_simp; try with_reducible rfl
  try simp only [Act.put, List.getElem_toArray, List.getElem_cons_succ, List.getElem_cons_zero, List.setIfInBounds_toArray, List.set_cons_zero, List.set_cons_succ]
  refine wpAnyH_done (by kernel_rfl) ?_ _
  have lt5 := BC.out.lt
  have lt6 := g3.size
  have g5 := below_call g3.drew hb g3.size
  clear hS hb
  go_wp2_with fail
  refine ret_cell_tmp rfl ((((bC.set_ 0 _).set_ 1 _).set_ 2 _).set_ 3 _) rfl Try.underlying73 (by kernel_rfl) rfl ?_
  refine ⟨A', n', cap', rfl, ?_, by go_grown⟩
  exact acc_kept (w4 := w3.drew) HSL.out lt5 lt6

set_option maxHeartbeats 2000000 in
theorem rdenseOf_code (t : Tensor) (A : Option Addr) (n cap : Nat) (d : Node) (W : Option Addr) (nw cw : Nat) (B : Option Addr) (nb cb : Nat) (w : World) (ht : TensorIn t) (hd : NodeIn d)
    (ha : Sl (tInt .i8) w (blo w.heap.size) A n cap t.data) (hw : Sl (tInt .i8) w (blo w.heap.size) W nw cw d.w) (hb : Sl (tInt .i32) w (blo w.heap.size) B nb cb d.bias) (c1 : t.ok = true) (c2 : ¬ denseCode t.h t.v t.c d = 0) :
    Calls Try.prog 35 #[.agg #[.int .i64 t.h, .int .i64 t.v, .int .i64 t.c, .slice A n cap], .agg #[Value.int .i64 d.kind, Value.int .i64 d.a, Value.int .i64 d.b, Value.int .i64 d.k, Value.int .i64 d.s, Value.int .i64 d.p, Value.int .i64 d.out, Value.int .i8 d.za, Value.int .i8 d.zb, Value.slice W nw cw, Value.slice B nb cb, Value.int .i32 d.qm, Value.int .i64 d.qs, Value.int .i8 d.qz, Value.int .i32 d.rm, Value.int .i64 d.rs, Value.int .i8 d.rz, Value.int .i8 d.lo, Value.int .i8 d.hi]] w (RetT .i32 noTensor (denseCode t.h t.v t.c d) w) := by
  have HT := Lib.hid ht
  have HD := Lib.hid hd
  have HA := Lib.hid ha
  have HW := Lib.hid hw
  have HB := Lib.hid hb
  have m1 : n ≤ 9223372036854775807 := Nat.le_trans ha.cap_le ha.max_le
  have m2 : nw ≤ 9223372036854775807 := Nat.le_trans hw.cap_le hw.max_le
  have m3 : nb ≤ 9223372036854775807 := Nat.le_trans hb.cap_le hb.max_le
  clear ht hd ha hw hb
  have c1' : decide (0 < elems t.h t.v t.c ∧ elems t.h t.v t.c = n) = true := by rw [← HA.out.n_eq]; simpa [Tensor.ok] using c1
  have C1 := Lib.hid c1'
  clear c1 c1'
  generalize hk : denseCode t.h t.v t.c d = k at *
  have hk2 : (k != 0) = true := by rw [bne_iff_ne]; exact c2
  have HK := Lib.hid hk
  have HC := Lib.hid c2
  clear hk c2
  go_enter Try.func35, Try.ntmps35
  go_wp2_with fail
  refine (rtensorRight_any t.h t.v t.c A n cap _ HT.out.h HT.out.v HT.out.c (Nat.le_trans HA.out.cap_le HA.out.max_le)).mono ?_
  rintro e w1 ⟨rfl, hb⟩
  rw [C1.out]
  have g1 := below_call (B := w.heap.size) (a := w) (by go_grown) hb (by simp; omega)
  have bA := ((Blk.now _ w.heap.size _ _ rfl).past _ |>.past _).later hb
  have bB := ((Blk.now _ (w.heap.size + 1) _ _ (by simp)).past _).later hb
  have bC := (Blk.now _ (w.heap.size + 1 + 1) _ _ (by simp)).later hb
  have BA := Lib.hid bA
  have BB := Lib.hid bB
  have BC := Lib.hid bC
  have cA := fun i => bA.cell i
  clear bA bB bC hb
  go_wp2_with (refine wpList_load_row rfl 70 (.tmp 3) rfl (w.heap.size + 1) rfl _ _ (0, 0) _ BB.out.heap Try.underlying70 rfl (by kernel_rfl) ?_)
  refine (rdenseShape_any t.h t.v t.c d W nw cw B nb cb _ HT.out.h HT.out.v HT.out.c HD.out.out HW.out.n_eq.symm HB.out.n_eq.symm (Nat.le_trans HW.out.cap_le HW.out.max_le) (Nat.le_trans HB.out.cap_le HB.out.max_le)).mono ?_
  rintro e w2 ⟨rfl, hb⟩
  have g2 := below_call g1 hb g1.size
  have lt1 := BC.out.lt
  have lt2 := hb.size
  have BA := Lib.hid (BA.out.later hb)
  have BB := Lib.hid (BB.out.later hb)
  have BC := Lib.hid (BC.out.later hb)
  clear hb cA
  rw [HK.out, shapeEnd_bad k d.out HC.out]
  have BC := Lib.hid (BC.out.past (.cells #[.int .i64 0, .int .i64 0, .int .i64 0] 54))
  have g3 : Below w.heap.size w (w2.alloc (.cells #[.int .i64 0, .int .i64 0, .int .i64 0] 54)) := g2.alloc g2.size _
  have fC := fun i => BC.out.frozen i
  have cC := fun i => BC.out.cell i
  have lt6 := g3.size
  go_wp2_with fail
  refine ret_cell_tmp rfl ((((BC.out.set_ 0 _).set_ 1 _).set_ 2 _).set_ 3 _) rfl Try.underlying73 (by kernel_rfl) rfl ?_
  exact RetT.none (by go_grown)

theorem rdenseOf_any (t : Tensor) (A : Option Addr) (n cap : Nat) (d : Node) (W : Option Addr) (nw cw : Nat) (B : Option Addr) (nb cb : Nat) (w : World) (ht : TensorIn t) (hd : NodeIn d)
    (ha : Sl (tInt .i8) w (blo w.heap.size) A n cap t.data) (hw : Sl (tInt .i8) w (blo w.heap.size) W nw cw d.w) (hb : Sl (tInt .i32) w (blo w.heap.size) B nb cb d.bias) :
    Calls Try.prog 35 #[.agg #[.int .i64 t.h, .int .i64 t.v, .int .i64 t.c, .slice A n cap], .agg #[Value.int .i64 d.kind, Value.int .i64 d.a, Value.int .i64 d.b, Value.int .i64 d.k, Value.int .i64 d.s, Value.int .i64 d.p, Value.int .i64 d.out, Value.int .i8 d.za, Value.int .i8 d.zb, Value.slice W nw cw, Value.slice B nb cb, Value.int .i32 d.qm, Value.int .i64 d.qs, Value.int .i8 d.qz, Value.int .i32 d.rm, Value.int .i64 d.rs, Value.int .i8 d.rz, Value.int .i8 d.lo, Value.int .i8 d.hi]] w (RetT .i32 (denseOf t d).1 (denseOf t d).2 w) := by
  by_cases c1 : t.ok = true
  · by_cases c2 : denseCode t.h t.v t.c d = 0
    · have e : denseOf t d = (⟨1, 1, d.out, denseLine t.data d.w d.bias d.za⟩, 0) := by unfold denseOf; rw [if_pos c1, if_pos c2]
      rw [e]; exact rdenseOf_good t A n cap d W nw cw B nb cb w ht hd ha hw hb c1 c2
    · have e : denseOf t d = (noTensor, denseCode t.h t.v t.c d) := by unfold denseOf; rw [if_pos c1, if_neg c2]
      rw [e]; exact rdenseOf_code t A n cap d W nw cw B nb cb w ht hd ha hw hb c1 c2
  · have e : denseOf t d = (noTensor, 5) := by unfold denseOf; rw [if_neg c1]
    rw [e]; exact rdenseOf_bad t A n cap d W nw cw B nb cb w ht hd ha hw hb c1

end Go.Proofs.Ytlhnapjglebacaa
