/-
  store.copied and store.moved: tensors and points in new memory.
  Conditions: at most 2^40 numbers.
-/
import Derived.Test.YtcppkpcbfadapaaGreatChecked
import Derived.Test.YtcppkpcbfadapaaGreatStoreB
import Derived.Test.YtcppkpcbfadapaaGreatPush
import Derived.Test.YtcppkpcbfadapaaGreatHead
import Derived.Test.YtcppkpcbfadapaaGreatRows2
import Derived.Deep.RegionHeld3
import Derived.Deep.RegionWith
namespace Go.Proofs.YtcppkpcbfadapaaGreat
set_option linter.unusedVariables false
set_option linter.unusedSimpArgs false
open Go.RowKit Go.ChangeShapes Go.WideShapes
set_option maxRecDepth 100000

theorem copied_any (t : Tensor) (A : Option Addr) (n c : Nat) (w : World) (h : Sl (tInt .i8) w (blo w.heap.size) A n c t.data) (hn : n ≤ 140737488351232) :
    Calls Tryz.prog 86 #[.agg #[.int .i64 t.h, .int .i64 t.v, .int .i64 t.c, .slice A n c]] w fun e w' =>
      ∃ B m d, e = .returned (.agg #[.int .i64 t.h, .int .i64 t.v, .int .i64 t.c, .slice B m d]) ∧ Sl (tInt .i8) w' (bin w.heap.size w'.heap.size) B m d t.data ∧ Below w.heap.size w w' := by
  have H := Lib.hid h
  clear h
  go_enter Tryz.func86, Tryz.ntmps86
  go_wp2_with fail
  obtain ⟨w2, hw2⟩ : ∃ w2, (w.alloc (.cells #[.int .i64 t.h, .int .i64 t.v, .int .i64 t.c, .slice A n c] 56)).alloc (.cells #[.int .i64 0, .int .i64 0, .int .i64 0, .slice none 0 0] 56) = w2 := ⟨_, rfl⟩
  have g2 : Below w.heap.size w w2 := by rw [← hw2]; exact ((Below.refl _ _).alloc (Nat.le_refl _) _).alloc (by simp) _
  have BA := Lib.hid (show Blk w2 w.heap.size 56 #[.int .i64 t.h, .int .i64 t.v, .int .i64 t.c, .slice A n c] by rw [← hw2]; exact (Blk.now _ _ _ _ rfl).past _)
  have BC := Lib.hid (show Blk w2 (w.heap.size + 1) 56 #[.int .i64 0, .int .i64 0, .int .i64 0, .slice none 0 0] by rw [← hw2]; exact Blk.now _ _ _ _ (by simp))
  rw [hw2]
  have lt2 : w.heap.size + 1 < w2.heap.size := BC.out.lt
  clear hw2
  refine wp_region_held_drew (S := fun w' => w'.cell? ⟨w.heap.size, 0, none⟩ = some (.int .i64 t.h) ∧ w'.cell? ⟨w.heap.size, 1, none⟩ = some (.int .i64 t.v) ∧ w'.cell? ⟨w.heap.size, 2, none⟩ = some (.int .i64 t.c) ∧ w'.cell? ⟨w.heap.size, 3, none⟩ = some (.slice A n c) ∧ Below w.heap.size w w') (by kernel_rfl) ?_ (fun hS => ?_)
  · exact ⟨BA.out.cell 0, BA.out.cell 1, BA.out.cell 2, BA.out.cell 3, g2.drew⟩
  refine wpAnyH_take (i := 0) (v := ?_) rfl (by as_aux_lemma => kernel_rfl) (by as_aux_lemma => kernel_rfl) (by as_aux_lemma => kernel_rfl) (fun _ _ _ h => h) (Or.inl ⟨by rfl, ?_⟩) hS ?_
  rotate_left
  · intro w hSw; (try dsimp only at hSw); go_simp; try with_reducible rfl
  try simp only [Act.put, List.getElem_toArray, List.getElem_cons_succ, List.getElem_cons_zero, List.setIfInBounds_toArray, List.set_cons_zero, List.set_cons_succ]
  refine wpAnyH_take (i := 1) (v := ?_) rfl (by as_aux_lemma => kernel_rfl) (by as_aux_lemma => kernel_rfl) (by as_aux_lemma => kernel_rfl) (fun _ _ _ h => h) (Or.inl ⟨by rfl, ?_⟩) hS ?_
  rotate_left
  · intro w hSw; (try dsimp only at hSw); go_simp; try with_reducible rfl
  try simp only [Act.put, List.getElem_toArray, List.getElem_cons_succ, List.getElem_cons_zero, List.setIfInBounds_toArray, List.set_cons_zero, List.set_cons_succ]
  refine wpAnyH_take (i := 2) (v := ?_) rfl (by as_aux_lemma => kernel_rfl) (by as_aux_lemma => kernel_rfl) (by as_aux_lemma => kernel_rfl) (fun _ _ _ h => h) (Or.inl ⟨by rfl, ?_⟩) hS ?_
  rotate_left
  · intro w hSw; (try dsimp only at hSw); go_simp; try with_reducible rfl
  try simp only [Act.put, List.getElem_toArray, List.getElem_cons_succ, List.getElem_cons_zero, List.setIfInBounds_toArray, List.set_cons_zero, List.set_cons_succ]
  refine wpAnyH_take (i := 3) (v := ?_) rfl (by as_aux_lemma => kernel_rfl) (by as_aux_lemma => kernel_rfl) (by as_aux_lemma => kernel_rfl) (fun _ _ _ h => h) (Or.inl ⟨by rfl, ?_⟩) hS ?_
  rotate_left
  · intro w hSw; (try dsimp only at hSw); go_simp; try with_reducible rfl
  try simp only [Act.put, List.getElem_toArray, List.getElem_cons_succ, List.getElem_cons_zero, List.setIfInBounds_toArray, List.set_cons_zero, List.set_cons_succ]
  refine wpAnyH_ready (rs := [4]) (by kernel_rfl) (by simp) ?_
  refine AllReadyH.cons rfl (fun K hK => ?_) AllReadyH.nil
  go_simp
  refine (clone8_any A n c t.data _ (H.out.later g2.drew (Nat.le_refl _)) hn).mono ?_; rintro e w' ⟨B, m, d, rfl, hs, hb⟩; have bC := BC.out.drew.later hb; have cC := fun i => bC.cell i; have fC := fun i => bC.frozen i; have HSL := Lib.hid hs; clear hs
  refine hK.out _ _ ?_ (fun hS => ?_)
  · exact ⟨(by first | exact cell_later hb hS.1 | exact Blk.later hS.1 hb), (by first | exact cell_later hb hS.2.1 | exact Blk.later hS.2.1 hb), (by first | exact cell_later hb hS.2.2.1 | exact Blk.later hS.2.2.1 hb), (by first | exact cell_later hb hS.2.2.2.1 | exact Blk.later hS.2.2.2.1 hb), below_later hb hS.2.2.2.2⟩
  clear hK K
  try simp only [Act.put, List.getElem_toArray, List.getElem_cons_succ, List.getElem_cons_zero, List.setIfInBounds_toArray, List.set_cons_zero, List.set_cons_succ]
  refine wpAnyH_take (i := 5) (v := ?_) rfl (by as_aux_lemma => kernel_rfl) (by as_aux_lemma => kernel_rfl) (by as_aux_lemma => kernel_rfl) (fun _ _ _ h => h) (Or.inl ⟨by rfl, ?_⟩) hS ?_
  rotate_left
  · intro w hSw; (try dsimp only at hSw); go_simp; try with_reducible rfl
  try simp only [Act.put, List.getElem_toArray, List.getElem_cons_succ, List.getElem_cons_zero, List.setIfInBounds_toArray, List.set_cons_zero, List.set_cons_succ]
  refine wpAnyH_ready (rs := [6]) (by kernel_rfl) (by simp) ?_
  refine AllReadyH.cons rfl (fun K hK => ?_) AllReadyH.nil
  go_simp
  refine hK.out _ _ ?_ (fun hS => ?_)
  · obtain ⟨k0, k1, k2, k3, k4⟩ := hS
    exact ⟨(by (repeat rw [cell_far _ _ _ _ (by first | (simp; done) | (simp; omega))]); exact k0), (by (repeat rw [cell_far _ _ _ _ (by first | (simp; done) | (simp; omega))]); exact k1), (by (repeat rw [cell_far _ _ _ _ (by first | (simp; done) | (simp; omega))]); exact k2), (by (repeat rw [cell_far _ _ _ _ (by first | (simp; done) | (simp; omega))]); exact k3), (by go_grown)⟩
  clear hK K
  try simp only [Act.put, List.getElem_toArray, List.getElem_cons_succ, List.getElem_cons_zero, List.setIfInBounds_toArray, List.set_cons_zero, List.set_cons_succ]
  refine wpAnyH_done (by kernel_rfl) ?_ _
  have lt5 := bC.lt
  have lt6 := hb.size
  have g5 := below_call g2.drew hb g2.size
  clear hS hb
  go_wp2_with fail
  refine ret_cell rfl ((((bC.set_ 0 _).set_ 1 _).set_ 2 _).set_ 3 _) rfl Tryz.underlying56 (by kernel_rfl) rfl ?_
  refine ⟨B, m, d, rfl, ?_, by go_grown⟩
  refine (HSL.out.keep fun b hb => ?_).more (fun b hb => ⟨by have := hb.1; simp at this; omega, by simpa using hb.2⟩)
  have hne : b ≠ w.heap.size + 1 := by have := hb.1; simp at this; omega
  repeat rw [Below.heap_setCell _ _ _ _ (by exact hne)]

set_option maxHeartbeats 4000000 in
theorem moved_any (p : Pt) (A B : Option Addr) (n c m d : Nat) (w : World) (h : Sl (tInt .i8) w (blo w.heap.size) A n c p.input.data) (h' : Sl (tInt .i8) w (blo w.heap.size) B m d p.value.data) (hn : n ≤ 140737488351232) (hm : m ≤ 140737488351232) :
    Calls Tryz.prog 51 #[.agg (ptCells p A n c B m d)] w fun e w' =>
      ∃ A' n' c' B' m' d', e = .returned (.agg (ptCells p A' n' c' B' m' d')) ∧ Sl (tInt .i8) w' (bin w.heap.size w'.heap.size) A' n' c' p.input.data ∧ Sl (tInt .i8) w' (bin w.heap.size w'.heap.size) B' m' d' p.value.data ∧ Below w.heap.size w w' := by
  have H := Lib.hid h
  have H' := Lib.hid h'
  clear h h'
  unfold ptCells
  go_enter Tryz.func51, Tryz.ntmps51
  go_wp2_with fail
  obtain ⟨w2, hw2⟩ : ∃ w2, (w.alloc (.cells (ptCells p A n c B m d) 67)).alloc (.cells (ptCells noPoint none 0 0 none 0 0) 67) = w2 := ⟨_, rfl⟩
  have g2 : Below w.heap.size w w2 := by rw [← hw2]; exact ((Below.refl _ _).alloc (Nat.le_refl _) _).alloc (by simp) _
  have BA := Lib.hid (show Blk w2 w.heap.size 67 (ptCells p A n c B m d) by rw [← hw2]; exact (Blk.now _ _ _ _ rfl).past _)
  have BC := Lib.hid (show Blk w2 (w.heap.size + 1) 67 (ptCells noPoint none 0 0 none 0 0) by rw [← hw2]; exact Blk.now _ _ _ _ (by simp))
  simp only [ptCells, noPoint, noTensor] at hw2
  rw [hw2]
  have lt2 : w.heap.size + 1 < w2.heap.size := BC.out.lt
  clear hw2
  simp only [ptCells, noPoint, noTensor] at BA BC
  refine wp_region_T (fun w' => w'.cell? ⟨w.heap.size, 3, none⟩ = some (.int .i64 p.input.h) ∧ w'.cell? ⟨w.heap.size, 4, none⟩ = some (.int .i64 p.input.v) ∧ w'.cell? ⟨w.heap.size, 5, none⟩ = some (.int .i64 p.input.c) ∧ w'.cell? ⟨w.heap.size, 6, none⟩ = some (.slice A n c) ∧ w'.cell? ⟨w.heap.size, 7, none⟩ = some (.int .i64 p.value.h) ∧ w'.cell? ⟨w.heap.size, 8, none⟩ = some (.int .i64 p.value.v) ∧ w'.cell? ⟨w.heap.size, 9, none⟩ = some (.int .i64 p.value.c) ∧ w'.cell? ⟨w.heap.size, 10, none⟩ = some (.slice B m d) ∧ Below w.heap.size w w') 7 (by kernel_rfl) ?_ (fun hS => ?_)
  · exact ⟨BA.out.cell 3, BA.out.cell 4, BA.out.cell 5, BA.out.cell 6, BA.out.cell 7, BA.out.cell 8, BA.out.cell 9, BA.out.cell 10, g2.drew⟩
  refine wpAnyT_take (i := 0) (v := ?_) rfl (by as_aux_lemma => kernel_rfl) (by as_aux_lemma => kernel_rfl) (by as_aux_lemma => kernel_rfl) (by as_aux_lemma => kernel_rfl) rfl (fun _ _ _ h => h) (Or.inl ⟨by rfl, ?_⟩) hS ?_
  rotate_left
  · intro w hSw; (try dsimp only at hSw); go_simp; try with_reducible rfl
  try simp only [Act.put, List.getElem_toArray, List.getElem_cons_succ, List.getElem_cons_zero, List.setIfInBounds_toArray, List.set_cons_zero, List.set_cons_succ]
  refine wpAnyT_take (i := 1) (v := ?_) rfl (by as_aux_lemma => kernel_rfl) (by as_aux_lemma => kernel_rfl) (by as_aux_lemma => kernel_rfl) (by as_aux_lemma => kernel_rfl) rfl (fun _ _ _ h => h) (Or.inl ⟨by rfl, ?_⟩) hS ?_
  rotate_left
  · intro w hSw; (try dsimp only at hSw); go_simp; try with_reducible rfl
  try simp only [Act.put, List.getElem_toArray, List.getElem_cons_succ, List.getElem_cons_zero, List.setIfInBounds_toArray, List.set_cons_zero, List.set_cons_succ]
  refine wpAnyT_take (i := 3) (v := ?_) rfl (by as_aux_lemma => kernel_rfl) (by as_aux_lemma => kernel_rfl) (by as_aux_lemma => kernel_rfl) (by as_aux_lemma => kernel_rfl) rfl (fun _ _ _ h => h) (Or.inl ⟨by rfl, ?_⟩) hS ?_
  rotate_left
  · intro w hSw; (try dsimp only at hSw); go_simp; try with_reducible rfl
  try simp only [Act.put, List.getElem_toArray, List.getElem_cons_succ, List.getElem_cons_zero, List.setIfInBounds_toArray, List.set_cons_zero, List.set_cons_succ]
  refine wpAnyT_take (i := 4) (v := ?_) rfl (by as_aux_lemma => kernel_rfl) (by as_aux_lemma => kernel_rfl) (by as_aux_lemma => kernel_rfl) (by as_aux_lemma => kernel_rfl) rfl (fun _ _ _ h => h) (Or.inl ⟨by rfl, ?_⟩) hS ?_
  rotate_left
  · intro w hSw; (try dsimp only at hSw); go_simp; try with_reducible rfl
  try simp only [Act.put, List.getElem_toArray, List.getElem_cons_succ, List.getElem_cons_zero, List.setIfInBounds_toArray, List.set_cons_zero, List.set_cons_succ]
  refine wpAnyT_one (i := 2) (by kernel_rfl) rfl rfl (fun K hK => ?_)
  go_simp
  refine (copied_any p.input A n c _ (H.out.later g2.drew (Nat.le_refl _)) hn).mono ?_; rintro e w3 ⟨B1, m1, d1, rfl, hs, hb⟩; have HS1 := Lib.hid hs; have HB1 := Lib.hid hb; have g3 := below_call g2.drew hb g2.size; have BA := Lib.hid (BA.out.drew.later hb); have BC := Lib.hid (BC.out.drew.later hb); clear hs
  refine hK.out _ _ ?_ (fun hS => ?_)
  · exact ⟨(by first | exact cell_later hb hS.1 | exact Blk.later hS.1 hb), (by first | exact cell_later hb hS.2.1 | exact Blk.later hS.2.1 hb), (by first | exact cell_later hb hS.2.2.1 | exact Blk.later hS.2.2.1 hb), (by first | exact cell_later hb hS.2.2.2.1 | exact Blk.later hS.2.2.2.1 hb), (by first | exact cell_later hb hS.2.2.2.2.1 | exact Blk.later hS.2.2.2.2.1 hb), (by first | exact cell_later hb hS.2.2.2.2.2.1 | exact Blk.later hS.2.2.2.2.2.1 hb), (by first | exact cell_later hb hS.2.2.2.2.2.2.1 | exact Blk.later hS.2.2.2.2.2.2.1 hb), (by first | exact cell_later hb hS.2.2.2.2.2.2.2.1 | exact Blk.later hS.2.2.2.2.2.2.2.1 hb), (by first | exact below_later hb hS.2.2.2.2.2.2.2.2 | exact grown_below hS.2.2.2.2.2.2.2.2 hb)⟩
  clear hK K
  try simp only [Act.put, List.getElem_toArray, List.getElem_cons_succ, List.getElem_cons_zero, List.setIfInBounds_toArray, List.set_cons_zero, List.set_cons_succ]
  refine wpAnyT_take (i := 6) (v := ?_) rfl (by as_aux_lemma => kernel_rfl) (by as_aux_lemma => kernel_rfl) (by as_aux_lemma => kernel_rfl) (by as_aux_lemma => kernel_rfl) rfl (fun _ _ _ h => h) (Or.inl ⟨by rfl, ?_⟩) hS ?_
  rotate_left
  · intro w hSw; (try dsimp only at hSw); go_simp; try with_reducible rfl
  try simp only [Act.put, List.getElem_toArray, List.getElem_cons_succ, List.getElem_cons_zero, List.setIfInBounds_toArray, List.set_cons_zero, List.set_cons_succ]
  refine wpAnyT_one (i := 5) (by kernel_rfl) rfl rfl (fun K hK => ?_)
  go_simp
  refine (copied_any p.value B m d _ (H'.out.later g3 (Nat.le_refl _)) hm).mono ?_; rintro e w4 ⟨B2, m2, d2, rfl, hs, hb⟩; have HS2 := Lib.hid hs; have HB2 := Lib.hid hb; have g4 := below_call g3 hb g3.size; have bA := BA.out.later hb; have bC := BC.out.later hb; clear hs
  refine hK.out _ _ ?_ (fun hS => ?_)
  · exact ⟨(by first | exact cell_later hb hS.1 | exact Blk.later hS.1 hb), (by first | exact cell_later hb hS.2.1 | exact Blk.later hS.2.1 hb), (by first | exact cell_later hb hS.2.2.1 | exact Blk.later hS.2.2.1 hb), (by first | exact cell_later hb hS.2.2.2.1 | exact Blk.later hS.2.2.2.1 hb), (by first | exact cell_later hb hS.2.2.2.2.1 | exact Blk.later hS.2.2.2.2.1 hb), (by first | exact cell_later hb hS.2.2.2.2.2.1 | exact Blk.later hS.2.2.2.2.2.1 hb), (by first | exact cell_later hb hS.2.2.2.2.2.2.1 | exact Blk.later hS.2.2.2.2.2.2.1 hb), (by first | exact cell_later hb hS.2.2.2.2.2.2.2.1 | exact Blk.later hS.2.2.2.2.2.2.2.1 hb), (by first | exact below_later hb hS.2.2.2.2.2.2.2.2 | exact grown_below hS.2.2.2.2.2.2.2.2 hb)⟩
  clear hK K
  try simp only [Act.put, List.getElem_toArray, List.getElem_cons_succ, List.getElem_cons_zero, List.setIfInBounds_toArray, List.set_cons_zero, List.set_cons_succ]
  refine wpAnyT_tail _ _ rfl rfl (by kernel_rfl) ?_
  have lt3 := HB1.out.size
  have lt4 := HB2.out.size
  have ltA := bA.lt
  clear hS hb
  refine wpList_store_blk rfl 56 (.tmp 9) (.tmp 5) rfl w.heap.size 3 #[.int .i64 p.input.h, .int .i64 p.input.v, .int .i64 p.input.c, .slice B1 m1 d1] rfl rfl _ _ (#[.int .i64 p.model, .int .i64 p.block, .int .i64 p.spent, .int .i64 p.input.h, .int .i64 p.input.v, .int .i64 p.input.c, .slice B1 m1 d1, .int .i64 p.value.h, .int .i64 p.value.v, .int .i64 p.value.c, .slice B m d]) bA (by simp) (by kernel_rfl) (by simp [Value.oneCell']) rfl ?_
  intro w5 bA5 g5
  have bC5 : Blk w5 (w.heap.size + 1) _ _ := ⟨(g5.block _ bC.lt (by simp)).trans bC.heap⟩
  go_wp2_with (first
    | (refine wpList_store_blk rfl 56 (.tmp 10) (.tmp 8) rfl w.heap.size 7 #[.int .i64 p.value.h, .int .i64 p.value.v, .int .i64 p.value.c, .slice B2 m2 d2] rfl rfl _ _ (#[.int .i64 p.model, .int .i64 p.block, .int .i64 p.spent, .int .i64 p.input.h, .int .i64 p.input.v, .int .i64 p.input.c, .slice B1 m1 d1, .int .i64 p.value.h, .int .i64 p.value.v, .int .i64 p.value.c, .slice B2 m2 d2]) bA5 (by simp) (by kernel_rfl) (by simp [Value.oneCell']) rfl ?_; intro w6 bA6 g6)
    | (refine wpList_load_row rfl 67 (.tmp 1) rfl w.heap.size rfl _ _ (0, 0) _ bA6.heap Tryz.underlying67 rfl (by kernel_rfl) ?_)
    | (refine wpList_store_all rfl 67 (.tmp 2) (.tmp 11) rfl (w.heap.size + 1) (#[.int .i64 p.model, .int .i64 p.block, .int .i64 p.spent, .int .i64 p.input.h, .int .i64 p.input.v, .int .i64 p.input.c, .slice B1 m1 d1, .int .i64 p.value.h, .int .i64 p.value.v, .int .i64 p.value.c, .slice B2 m2 d2]) rfl rfl _ _ ⟨(g6.block _ bC5.lt (by simp)).trans bC5.heap⟩ (by simp) (by kernel_rfl) (by simp [Value.oneCell']) ?_; intro w7 bC7 g7))
  refine ret_cell rfl bC7 rfl Tryz.underlying67 (by kernel_rfl) rfl ?_
  have z5 := g5.size
  have z6 := g6.size
  have z7 := g7.size
  have zd : w2.drew.heap.size = w2.heap.size := rfl
  have sk : ∀ b, w.heap.size + 1 < b → b < w4.heap.size → w7.heap[b]? = w4.heap[b]? := fun b h1 h2 =>
    (g7.block b (by omega) (by intro e; cases e; omega)).trans ((g6.block b (by omega) (by intro e; cases e; omega)).trans (g5.block b h2 (by intro e; cases e; omega)))
  refine ⟨B1, m1, d1, B2, m2, d2, rfl, ?_, ?_, ((g4.grown g5 g4.size (fun k e => by cases e; omega)).grown g6 (by omega) (fun k e => by cases e; omega)).grown g7 (by omega) (fun k e => by cases e; omega)⟩
  · have s4 := HS1.out.below HB2.out (fun b hb => hb.2)
    exact (s4.keep (w' := w7) fun b hb => sk b (by have := hb.1; omega) (by have := hb.2; omega)).more (fun b hb => ⟨by have := hb.1; omega, by have := hb.2; omega⟩)
  · exact (HS2.out.keep (w' := w7) fun b hb => sk b (by have := hb.1; omega) (by have := hb.2; omega)).more (fun b hb => ⟨by have := hb.1; omega, by have := hb.2; omega⟩)
end Go.Proofs.YtcppkpcbfadapaaGreat
