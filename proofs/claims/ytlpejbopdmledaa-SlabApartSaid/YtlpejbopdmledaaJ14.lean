/-
  What a node's kind tells (layer 25): kinds.Plain, some of the kinds.
  Conditions: at most 2^20 weights.
-/
import Derived.Test.YtlpejbopdmledaaChecked
import Derived.Test.YtlpejbopdmledaaJ07
import Derived.Test.YtlpejbopdmledaaJ09
import Derived.Test.YtlpejbopdmledaaJ10
import Derived.Test.YtlpejbopdmledaaJ05
namespace Go.Proofs.Ytlpejbopdmledaa
set_option linter.unusedVariables false
set_option linter.unusedSimpArgs false
open Go.RowKit Go.ChangeShapes Go.WideShapes
set_option maxRecDepth 100000



set_option maxHeartbeats 8000000 in
theorem plain_8 (a b k s p out za zb qm qs qz rm rs rz lo hi : Int) (wl bl : List Int) (W : Option Addr) (nw cw : Nat) (B : Option Addr) (nb cb : Nat) (w : World) (hw : Sl (tInt .i8) w (blo w.heap.size) W nw cw wl) (hb : Sl (tInt .i32) w (blo w.heap.size) B nb cb bl) (mw : nw ≤ 1048576) (mb : nb ≤ 1048576) :
    Calls Try.prog 46 #[.agg #[.int .i64 8, .int .i64 a, .int .i64 b, .int .i64 k, .int .i64 s, .int .i64 p, .int .i64 out, .int .i8 za, .int .i8 zb, .slice W nw cw, .slice B nb cb, .int .i32 qm, .int .i64 qs, .int .i8 qz, .int .i32 rm, .int .i64 rs, .int .i8 rz, .int .i8 lo, .int .i8 hi]] w (RetNode ⟨8, a, 0, 0, 0, p, 0, za, 0, [], [], 0, 0, 0, 0, 0, 0, 0, 0⟩ w) := by
  have HW := Lib.hid (Old.now hw)
  have HB := Lib.hid (Old.now hb)
  clear hw hb
  have SC := Lib.hid (fun w => scaledK_any 8 w)
  rw [show scaledK 8 = false from rfl] at SC
  have NM := Lib.hid (fun w => kname_any 8 w)
  have FR := Lib.hid (Far.refl w)
  obtain ⟨w1, hw_w1⟩ : ∃ nw_, w.alloc (.cells #[.int .i64 8, .int .i64 a, .int .i64 b, .int .i64 k, .int .i64 s, .int .i64 p, .int .i64 out, .int .i8 za, .int .i8 zb, .slice W nw cw, .slice B nb cb, .int .i32 qm, .int .i64 qs, .int .i8 qz, .int .i32 rm, .int .i64 rs, .int .i8 rz, .int .i8 lo, .int .i8 hi] 53) = nw_ := ⟨_, rfl⟩
  have k_w1 : Below w.heap.size w w1 := by rw [← hw_w1]; exact (Below.refl _ _).alloc (Nat.le_refl _) _
  replace FR := Lib.hid (FR.out.fut k_w1)
  replace HW := Lib.hid (HW.out.fut k_w1)
  replace HB := Lib.hid (HB.out.fut k_w1)
  have BN := Lib.hid (show Blk w1 w.heap.size 53 #[.int .i64 8, .int .i64 a, .int .i64 b, .int .i64 k, .int .i64 s, .int .i64 p, .int .i64 out, .int .i8 za, .int .i8 zb, .slice W nw cw, .slice B nb cb, .int .i32 qm, .int .i64 qs, .int .i8 qz, .int .i32 rm, .int .i64 rs, .int .i8 rz, .int .i8 lo, .int .i8 hi] by rw [← hw_w1]; exact Blk.now _ _ _ _ rfl)
  clear k_w1
  obtain ⟨w2, hw_w2⟩ : ∃ nw_, w1.alloc (.cells #[.int .i64 0, .int .i64 0, .int .i64 0, .int .i64 0, .int .i64 0, .int .i64 0, .int .i64 0, .int .i8 0, .int .i8 0, .slice none 0 0, .slice none 0 0, .int .i32 0, .int .i64 0, .int .i8 0, .int .i32 0, .int .i64 0, .int .i8 0, .int .i8 0, .int .i8 0] 53) = nw_ := ⟨_, rfl⟩
  have k_w2 : Below w1.heap.size w1 w2 := by rw [← hw_w2]; exact (Below.refl _ _).alloc (Nat.le_refl _) _
  replace FR := Lib.hid (FR.out.fut k_w2)
  replace HW := Lib.hid (HW.out.fut k_w2)
  replace HB := Lib.hid (HB.out.fut k_w2)
  replace BN := Lib.hid (BN.out.fut k_w2)
  have BR := Lib.hid (show Blk w2 w1.heap.size 53 #[.int .i64 0, .int .i64 0, .int .i64 0, .int .i64 0, .int .i64 0, .int .i64 0, .int .i64 0, .int .i8 0, .int .i8 0, .slice none 0 0, .slice none 0 0, .int .i32 0, .int .i64 0, .int .i8 0, .int .i32 0, .int .i64 0, .int .i8 0, .int .i8 0, .int .i8 0] by rw [← hw_w2]; exact Blk.now _ _ _ _ rfl)
  clear k_w2
  have cN0 := BN.out.cell 0
  have cN1 := BN.out.cell 1
  go_enter Try.func46, Try.ntmps46
  go_wp2_with fail
  have lr0 := Lib.hid (show w.heap.size ≤ w1.heap.size by rw [← hw_w1]; simp)
  clear hw_w1 hw_w2
  refine (NM.out _).mono ?_
  rintro e w3 ⟨rfl, hb⟩
  have tn : (nameOf 8).toList.isEmpty = false := by rw [ByteArray.toList_eq]; rfl
  clear cN0 cN1
  replace FR := Lib.hid (FR.out.fut hb)
  replace HW := Lib.hid (HW.out.fut hb)
  replace HB := Lib.hid (HB.out.fut hb)
  replace BN := Lib.hid (BN.out.fut hb)
  replace BR := Lib.hid (BR.out.fut hb)
  clear hb
  have ln : w.heap.size < w3.heap.size := BN.out.lt
  have lr : w1.heap.size < w3.heap.size := BR.out.lt
  have cN0 := BN.out.cell 0
  have cN1 := BN.out.cell 1
  obtain ⟨w4, hw_w4⟩ : ∃ nw_, w3.alloc (.cells #[.int .i64 0, .int .i64 0, .int .i64 0, .int .i64 0, .int .i64 0, .int .i64 0, .int .i64 0, .int .i8 0, .int .i8 0, .slice none 0 0, .slice none 0 0, .int .i32 0, .int .i64 0, .int .i8 0, .int .i32 0, .int .i64 0, .int .i8 0, .int .i8 0, .int .i8 0] 53) = nw_ := ⟨_, rfl⟩
  have k_w4 : Below w3.heap.size w3 w4 := by rw [← hw_w4]; exact (Below.refl _ _).alloc (Nat.le_refl _) _
  replace FR := Lib.hid (FR.out.fut k_w4)
  replace HW := Lib.hid (HW.out.fut k_w4)
  replace HB := Lib.hid (HB.out.fut k_w4)
  replace BN := Lib.hid (BN.out.fut k_w4)
  replace BR := Lib.hid (BR.out.fut k_w4)
  have BM := Lib.hid (show Blk w4 w3.heap.size 53 #[.int .i64 0, .int .i64 0, .int .i64 0, .int .i64 0, .int .i64 0, .int .i64 0, .int .i64 0, .int .i8 0, .int .i8 0, .slice none 0 0, .slice none 0 0, .int .i32 0, .int .i64 0, .int .i8 0, .int .i32 0, .int .i64 0, .int .i8 0, .int .i8 0, .int .i8 0] by rw [← hw_w4]; exact Blk.now _ _ _ _ rfl)
  clear k_w4
  go_wp2_with (refine wpList_store_all rfl 53 (.tmp 3) (.tmp 13) rfl w3.heap.size #[.int .i64 8, .int .i64 a, .int .i64 0, .int .i64 0, .int .i64 0, .int .i64 0, .int .i64 0, .int .i8 0, .int .i8 0, .slice none 0 0, .slice none 0 0, .int .i32 0, .int .i64 0, .int .i8 0, .int .i32 0, .int .i64 0, .int .i8 0, .int .i8 0, .int .i8 0] rfl rfl _ _ BM.out rfl (by kernel_rfl) (by simp [Value.oneCell']) ?_; intro w5 BM5 g5; have cM0 := (BN.out.away g5 (by omega)).cell 0)
  clear hw_w4 cM0
  clear cN0 cN1
  replace FR := Lib.hid (FR.out.away g5 (by omega))
  replace HW := Lib.hid (HW.out.away g5 (by omega))
  replace HB := Lib.hid (HB.out.away g5 (by omega))
  replace BN := Lib.hid (BN.out.away g5 (by omega))
  replace BR := Lib.hid (BR.out.away g5 (by omega))
  clear g5
  refine wp_region_held_drew (S := fun w' => w'.cell? ⟨w.heap.size, 5, none⟩ = some (.int .i64 p) ∧ w'.cell? ⟨w.heap.size, 7, none⟩ = some (.int .i8 za) ∧ Blk w' w.heap.size 53 #[.int .i64 8, .int .i64 a, .int .i64 b, .int .i64 k, .int .i64 s, .int .i64 p, .int .i64 out, .int .i8 za, .int .i8 zb, .slice W nw cw, .slice B nb cb, .int .i32 qm, .int .i64 qs, .int .i8 qz, .int .i32 rm, .int .i64 rs, .int .i8 rz, .int .i8 lo, .int .i8 hi] ∧ Below w.heap.size w w') (by kernel_rfl) ?_ (fun hS => ?_)
  · exact ⟨BN.out.drew.cell 5, BN.out.drew.cell 7, BN.out.drew, FR.out.out.drew⟩
  refine wpAnyH_take (i := 0) (v := ?_) rfl (by as_aux_lemma => kernel_rfl) (by as_aux_lemma => kernel_rfl) (by as_aux_lemma => kernel_rfl) (fun _ _ _ h => h) (Or.inl ⟨by rfl, ?_⟩) hS ?_
  rotate_left
  · intro w hSw; (try dsimp only at hSw); go_simp; try with_reducible rfl
  try simp only [Act.put, List.getElem_toArray, List.getElem_cons_succ, List.getElem_cons_zero, List.setIfInBounds_toArray, List.set_cons_zero, List.set_cons_succ]
  refine wpAnyH_take (i := 1) (v := ?_) rfl (by as_aux_lemma => kernel_rfl) (by as_aux_lemma => kernel_rfl) (by as_aux_lemma => kernel_rfl) (fun _ _ _ h => h) (Or.inl ⟨by rfl, ?_⟩) hS ?_
  rotate_left
  · intro w hSw; (try dsimp only at hSw); go_simp; try with_reducible rfl
  try simp only [Act.put, List.getElem_toArray, List.getElem_cons_succ, List.getElem_cons_zero, List.setIfInBounds_toArray, List.set_cons_zero, List.set_cons_succ]
  refine wpAnyH_take (i := 2) (v := ?_) rfl (by as_aux_lemma => kernel_rfl) (by as_aux_lemma => kernel_rfl) (by as_aux_lemma => kernel_rfl) (fun _ _ _ h => h) (Or.inl ⟨by rfl, ?_⟩) hS ?_
  rotate_left
  · intro w hSw; (try dsimp only at hSw); go_simp; try with_reducible rfl
  try simp only [Act.put, List.getElem_toArray, List.getElem_cons_succ, List.getElem_cons_zero, List.setIfInBounds_toArray, List.set_cons_zero, List.set_cons_succ]
  refine wpAnyH_take (i := 3) (v := ?_) rfl (by as_aux_lemma => kernel_rfl) (by as_aux_lemma => kernel_rfl) (by as_aux_lemma => kernel_rfl) (fun _ _ _ h => h) (Or.inl ⟨by rfl, ?_⟩) hS ?_
  rotate_left
  · intro w hSw; (try dsimp only at hSw); go_simp; try with_reducible rfl
  try simp only [Act.put, List.getElem_toArray, List.getElem_cons_succ, List.getElem_cons_zero, List.setIfInBounds_toArray, List.set_cons_zero, List.set_cons_succ]
  refine wpAnyH_take (i := 4) (v := ?_) rfl (by as_aux_lemma => kernel_rfl) (by as_aux_lemma => kernel_rfl) (by as_aux_lemma => kernel_rfl) (fun _ _ _ h => h) (Or.inl ⟨by rfl, ?_⟩) hS ?_
  rotate_left
  · intro w hSw; (try dsimp only at hSw); go_simp; try with_reducible rfl
  try simp only [Act.put, List.getElem_toArray, List.getElem_cons_succ, List.getElem_cons_zero, List.setIfInBounds_toArray, List.set_cons_zero, List.set_cons_succ]
  refine wpAnyH_ready (rs := [5]) (by kernel_rfl) (by simp) ?_
  refine AllReadyH.cons rfl (fun K hK => ?_) AllReadyH.nil
  (rw [if_pos (by rfl)]; refine oper_store_one 3 (.tmp 78) (.tmp 75) rfl w3.heap.size 5 (.int .i64 p) rfl rfl rfl rfl _ #[.int .i64 8, .int .i64 a, .int .i64 0, .int .i64 0, .int .i64 0, .int .i64 0, .int .i64 0, .int .i8 0, .int .i8 0, .slice none 0 0, .slice none 0 0, .int .i32 0, .int .i64 0, .int .i8 0, .int .i32 0, .int .i64 0, .int .i8 0, .int .i8 0, .int .i8 0] #[.int .i64 8, .int .i64 a, .int .i64 0, .int .i64 0, .int .i64 0, .int .i64 p, .int .i64 0, .int .i8 0, .int .i8 0, .slice none 0 0, .slice none 0 0, .int .i32 0, .int .i64 0, .int .i8 0, .int .i32 0, .int .i64 0, .int .i8 0, .int .i8 0, .int .i8 0] BM5.drew (by simp) (by kernel_rfl) rfl ?_; intro w6 BM6 g6; have BN6 := (hS.2.2.1).away g6 (by omega); refine hK.out _ _ ⟨BN6.cell 5, BN6.cell 7, BN6, (hS.2.2.2).grown g6 (hS.2.2.2).size (fun k h => by have := Option.some.inj h; omega)⟩ (fun hS => ?_))
  clear hK K
  try simp only [Act.put, List.getElem_toArray, List.getElem_cons_succ, List.getElem_cons_zero, List.setIfInBounds_toArray, List.set_cons_zero, List.set_cons_succ]
  refine wpAnyH_take (i := 6) (v := ?_) rfl (by as_aux_lemma => kernel_rfl) (by as_aux_lemma => kernel_rfl) (by as_aux_lemma => kernel_rfl) (fun _ _ _ h => h) (Or.inl ⟨by rfl, ?_⟩) hS ?_
  rotate_left
  · intro w hSw; (try dsimp only at hSw); go_simp; try with_reducible rfl
  try simp only [Act.put, List.getElem_toArray, List.getElem_cons_succ, List.getElem_cons_zero, List.setIfInBounds_toArray, List.set_cons_zero, List.set_cons_succ]
  refine wpAnyH_ready (rs := [7]) (by kernel_rfl) (by simp) ?_
  refine AllReadyH.cons rfl (fun K hK => ?_) AllReadyH.nil
  (rw [if_pos (by rfl)]; refine oper_store_one 48 (.tmp 79) (.tmp 77) rfl w3.heap.size 7 (.int .i8 za) rfl rfl rfl rfl _ #[.int .i64 8, .int .i64 a, .int .i64 0, .int .i64 0, .int .i64 0, .int .i64 p, .int .i64 0, .int .i8 0, .int .i8 0, .slice none 0 0, .slice none 0 0, .int .i32 0, .int .i64 0, .int .i8 0, .int .i32 0, .int .i64 0, .int .i8 0, .int .i8 0, .int .i8 0] #[.int .i64 8, .int .i64 a, .int .i64 0, .int .i64 0, .int .i64 0, .int .i64 p, .int .i64 0, .int .i8 za, .int .i8 0, .slice none 0 0, .slice none 0 0, .int .i32 0, .int .i64 0, .int .i8 0, .int .i32 0, .int .i64 0, .int .i8 0, .int .i8 0, .int .i8 0] BM6 (by simp) (by kernel_rfl) rfl ?_; intro w7 BM7 g7; have BN7 := (hS.2.2.1).away g7 (by omega); refine hK.out _ _ ⟨BN7.cell 5, BN7.cell 7, BN7, (hS.2.2.2).grown g7 (hS.2.2.2).size (fun k h => by have := Option.some.inj h; omega)⟩ (fun hS => ?_))
  clear hK K
  try simp only [Act.put, List.getElem_toArray, List.getElem_cons_succ, List.getElem_cons_zero, List.setIfInBounds_toArray, List.set_cons_zero, List.set_cons_succ]
  refine wpAnyH_done (by kernel_rfl) ?_ _
  replace FR := Lib.hid (Far.mk (hS.2.2.2))
  replace BN := Lib.hid (hS.2.2.1)
  clear hS BN6 BN7
  replace HW := Lib.hid (HW.out.draw)
  replace HB := Lib.hid (HB.out.draw)
  replace BR := Lib.hid (BR.out.draw)
  replace HW := Lib.hid (HW.out.away g6 (by omega))
  replace HB := Lib.hid (HB.out.away g6 (by omega))
  replace BR := Lib.hid (BR.out.away g6 (by omega))
  clear g6
  replace HW := Lib.hid (HW.out.away g7 (by omega))
  replace HB := Lib.hid (HB.out.away g7 (by omega))
  replace BR := Lib.hid (BR.out.away g7 (by omega))
  clear g7
  clear BM6
  have cN0 := BN.out.cell 0
  go_wp2_with (first
    | (go_at_call 47; refine (SC.out _).mono ?_; rintro e w' ⟨rfl, rfl⟩)
    | (refine wpList_load_row rfl 53 (.tmp 3) rfl w3.heap.size rfl _ _ (0, 0) _ BM7.heap Try.underlying53 rfl (by kernel_rfl) ?_)
    | (refine wpList_store_all rfl 53 (.tmp 2) (.tmp 95) rfl w1.heap.size #[.int .i64 8, .int .i64 a, .int .i64 0, .int .i64 0, .int .i64 0, .int .i64 p, .int .i64 0, .int .i8 za, .int .i8 0, .slice none 0 0, .slice none 0 0, .int .i32 0, .int .i64 0, .int .i8 0, .int .i32 0, .int .i64 0, .int .i8 0, .int .i8 0, .int .i8 0] rfl rfl _ _ BR.out rfl (by kernel_rfl) (by simp [Value.oneCell']) ?_; intro wz BZ gz))
  clear cN0
  replace FR := Lib.hid (FR.out.away gz (by have := lr0.out; omega))
  refine ret_cell rfl BZ rfl Try.underlying53 (by kernel_rfl) rfl ⟨none, 0, 0, none, 0, 0, rfl, Sl.nil _ _ _, Sl.nil _ _ _, FR.out.out⟩

set_option maxHeartbeats 8000000 in
theorem plain_9 (a b k s p out za zb qm qs qz rm rs rz lo hi : Int) (wl bl : List Int) (W : Option Addr) (nw cw : Nat) (B : Option Addr) (nb cb : Nat) (w : World) (hw : Sl (tInt .i8) w (blo w.heap.size) W nw cw wl) (hb : Sl (tInt .i32) w (blo w.heap.size) B nb cb bl) (mw : nw ≤ 1048576) (mb : nb ≤ 1048576) :
    Calls Try.prog 46 #[.agg #[.int .i64 9, .int .i64 a, .int .i64 b, .int .i64 k, .int .i64 s, .int .i64 p, .int .i64 out, .int .i8 za, .int .i8 zb, .slice W nw cw, .slice B nb cb, .int .i32 qm, .int .i64 qs, .int .i8 qz, .int .i32 rm, .int .i64 rs, .int .i8 rz, .int .i8 lo, .int .i8 hi]] w (RetNode ⟨9, a, 0, 0, 0, 0, 0, 0, 0, [], [], 0, 0, 0, 0, 0, 0, 0, 0⟩ w) := by
  have HW := Lib.hid (Old.now hw)
  have HB := Lib.hid (Old.now hb)
  clear hw hb
  have SC := Lib.hid (fun w => scaledK_any 9 w)
  rw [show scaledK 9 = false from rfl] at SC
  have NM := Lib.hid (fun w => kname_any 9 w)
  have FR := Lib.hid (Far.refl w)
  obtain ⟨w1, hw_w1⟩ : ∃ nw_, w.alloc (.cells #[.int .i64 9, .int .i64 a, .int .i64 b, .int .i64 k, .int .i64 s, .int .i64 p, .int .i64 out, .int .i8 za, .int .i8 zb, .slice W nw cw, .slice B nb cb, .int .i32 qm, .int .i64 qs, .int .i8 qz, .int .i32 rm, .int .i64 rs, .int .i8 rz, .int .i8 lo, .int .i8 hi] 53) = nw_ := ⟨_, rfl⟩
  have k_w1 : Below w.heap.size w w1 := by rw [← hw_w1]; exact (Below.refl _ _).alloc (Nat.le_refl _) _
  replace FR := Lib.hid (FR.out.fut k_w1)
  replace HW := Lib.hid (HW.out.fut k_w1)
  replace HB := Lib.hid (HB.out.fut k_w1)
  have BN := Lib.hid (show Blk w1 w.heap.size 53 #[.int .i64 9, .int .i64 a, .int .i64 b, .int .i64 k, .int .i64 s, .int .i64 p, .int .i64 out, .int .i8 za, .int .i8 zb, .slice W nw cw, .slice B nb cb, .int .i32 qm, .int .i64 qs, .int .i8 qz, .int .i32 rm, .int .i64 rs, .int .i8 rz, .int .i8 lo, .int .i8 hi] by rw [← hw_w1]; exact Blk.now _ _ _ _ rfl)
  clear k_w1
  obtain ⟨w2, hw_w2⟩ : ∃ nw_, w1.alloc (.cells #[.int .i64 0, .int .i64 0, .int .i64 0, .int .i64 0, .int .i64 0, .int .i64 0, .int .i64 0, .int .i8 0, .int .i8 0, .slice none 0 0, .slice none 0 0, .int .i32 0, .int .i64 0, .int .i8 0, .int .i32 0, .int .i64 0, .int .i8 0, .int .i8 0, .int .i8 0] 53) = nw_ := ⟨_, rfl⟩
  have k_w2 : Below w1.heap.size w1 w2 := by rw [← hw_w2]; exact (Below.refl _ _).alloc (Nat.le_refl _) _
  replace FR := Lib.hid (FR.out.fut k_w2)
  replace HW := Lib.hid (HW.out.fut k_w2)
  replace HB := Lib.hid (HB.out.fut k_w2)
  replace BN := Lib.hid (BN.out.fut k_w2)
  have BR := Lib.hid (show Blk w2 w1.heap.size 53 #[.int .i64 0, .int .i64 0, .int .i64 0, .int .i64 0, .int .i64 0, .int .i64 0, .int .i64 0, .int .i8 0, .int .i8 0, .slice none 0 0, .slice none 0 0, .int .i32 0, .int .i64 0, .int .i8 0, .int .i32 0, .int .i64 0, .int .i8 0, .int .i8 0, .int .i8 0] by rw [← hw_w2]; exact Blk.now _ _ _ _ rfl)
  clear k_w2
  have cN0 := BN.out.cell 0
  have cN1 := BN.out.cell 1
  go_enter Try.func46, Try.ntmps46
  go_wp2_with fail
  have lr0 := Lib.hid (show w.heap.size ≤ w1.heap.size by rw [← hw_w1]; simp)
  clear hw_w1 hw_w2
  refine (NM.out _).mono ?_
  rintro e w3 ⟨rfl, hb⟩
  have tn : (nameOf 9).toList.isEmpty = false := by rw [ByteArray.toList_eq]; rfl
  clear cN0 cN1
  replace FR := Lib.hid (FR.out.fut hb)
  replace HW := Lib.hid (HW.out.fut hb)
  replace HB := Lib.hid (HB.out.fut hb)
  replace BN := Lib.hid (BN.out.fut hb)
  replace BR := Lib.hid (BR.out.fut hb)
  clear hb
  have ln : w.heap.size < w3.heap.size := BN.out.lt
  have lr : w1.heap.size < w3.heap.size := BR.out.lt
  have cN0 := BN.out.cell 0
  have cN1 := BN.out.cell 1
  obtain ⟨w4, hw_w4⟩ : ∃ nw_, w3.alloc (.cells #[.int .i64 0, .int .i64 0, .int .i64 0, .int .i64 0, .int .i64 0, .int .i64 0, .int .i64 0, .int .i8 0, .int .i8 0, .slice none 0 0, .slice none 0 0, .int .i32 0, .int .i64 0, .int .i8 0, .int .i32 0, .int .i64 0, .int .i8 0, .int .i8 0, .int .i8 0] 53) = nw_ := ⟨_, rfl⟩
  have k_w4 : Below w3.heap.size w3 w4 := by rw [← hw_w4]; exact (Below.refl _ _).alloc (Nat.le_refl _) _
  replace FR := Lib.hid (FR.out.fut k_w4)
  replace HW := Lib.hid (HW.out.fut k_w4)
  replace HB := Lib.hid (HB.out.fut k_w4)
  replace BN := Lib.hid (BN.out.fut k_w4)
  replace BR := Lib.hid (BR.out.fut k_w4)
  have BM := Lib.hid (show Blk w4 w3.heap.size 53 #[.int .i64 0, .int .i64 0, .int .i64 0, .int .i64 0, .int .i64 0, .int .i64 0, .int .i64 0, .int .i8 0, .int .i8 0, .slice none 0 0, .slice none 0 0, .int .i32 0, .int .i64 0, .int .i8 0, .int .i32 0, .int .i64 0, .int .i8 0, .int .i8 0, .int .i8 0] by rw [← hw_w4]; exact Blk.now _ _ _ _ rfl)
  clear k_w4
  go_wp2_with (refine wpList_store_all rfl 53 (.tmp 3) (.tmp 13) rfl w3.heap.size #[.int .i64 9, .int .i64 a, .int .i64 0, .int .i64 0, .int .i64 0, .int .i64 0, .int .i64 0, .int .i8 0, .int .i8 0, .slice none 0 0, .slice none 0 0, .int .i32 0, .int .i64 0, .int .i8 0, .int .i32 0, .int .i64 0, .int .i8 0, .int .i8 0, .int .i8 0] rfl rfl _ _ BM.out rfl (by kernel_rfl) (by simp [Value.oneCell']) ?_; intro w5 BM5 g5; have cM0 := (BN.out.away g5 (by omega)).cell 0)
  clear hw_w4 cM0
  clear cN0 cN1
  replace FR := Lib.hid (FR.out.away g5 (by omega))
  replace HW := Lib.hid (HW.out.away g5 (by omega))
  replace HB := Lib.hid (HB.out.away g5 (by omega))
  replace BN := Lib.hid (BN.out.away g5 (by omega))
  replace BR := Lib.hid (BR.out.away g5 (by omega))
  clear g5
  have cN0 := BN.out.cell 0
  go_wp2_with (first
    | (go_at_call 47; refine (SC.out _).mono ?_; rintro e w' ⟨rfl, rfl⟩)
    | (refine wpList_load_row rfl 53 (.tmp 3) rfl w3.heap.size rfl _ _ (0, 0) _ BM5.heap Try.underlying53 rfl (by kernel_rfl) ?_)
    | (refine wpList_store_all rfl 53 (.tmp 2) (.tmp 95) rfl w1.heap.size #[.int .i64 9, .int .i64 a, .int .i64 0, .int .i64 0, .int .i64 0, .int .i64 0, .int .i64 0, .int .i8 0, .int .i8 0, .slice none 0 0, .slice none 0 0, .int .i32 0, .int .i64 0, .int .i8 0, .int .i32 0, .int .i64 0, .int .i8 0, .int .i8 0, .int .i8 0] rfl rfl _ _ BR.out rfl (by kernel_rfl) (by simp [Value.oneCell']) ?_; intro wz BZ gz))
  clear cN0
  replace FR := Lib.hid (FR.out.away gz (by have := lr0.out; omega))
  refine ret_cell rfl BZ rfl Try.underlying53 (by kernel_rfl) rfl ⟨none, 0, 0, none, 0, 0, rfl, Sl.nil _ _ _, Sl.nil _ _ _, FR.out.out⟩
end Go.Proofs.Ytlpejbopdmledaa
