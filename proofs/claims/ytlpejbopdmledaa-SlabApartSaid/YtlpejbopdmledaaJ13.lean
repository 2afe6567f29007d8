/-
  What a node's kind tells (layer 25): kinds.Plain, some of the kinds.
  Conditions: at most 2^20 weights.
-/
import Derived.Test.YtlpejbopdmledaaChecked
import Derived.Test.YtlpejbopdmledaaJ07
import Derived.Test.YtlpejbopdmledaaJ09
import Derived.Test.YtlpejbopdmledaaJ10
import Derived.Test.YtlpejbopdmledaaJ05
namespace Go.Proofs.Ytlpejbopdmledaa
set_option linter.unusedVariables false
set_option linter.unusedSimpArgs false
open Go.RowKit Go.ChangeShapes Go.WideShapes
set_option maxRecDepth 100000



set_option maxHeartbeats 8000000 in
theorem plain_6 (a b k s p out za zb qm qs qz rm rs rz lo hi : Int) (wl bl : List Int) (W : Option Addr) (nw cw : Nat) (B : Option Addr) (nb cb : Nat) (w : World) (hw : Sl (tInt .i8) w (blo w.heap.size) W nw cw wl) (hb : Sl (tInt .i32) w (blo w.heap.size) B nb cb bl) (mw : nw ≤ 1048576) (mb : nb ≤ 1048576) :
    Calls Try.prog 46 #[.agg #[.int .i64 6, .int .i64 a, .int .i64 b, .int .i64 k, .int .i64 s, .int .i64 p, .int .i64 out, .int .i8 za, .int .i8 zb, .slice W nw cw, .slice B nb cb, .int .i32 qm, .int .i64 qs, .int .i8 qz, .int .i32 rm, .int .i64 rs, .int .i8 rz, .int .i8 lo, .int .i8 hi]] w (RetNode ⟨6, a, b, 0, 0, 0, 0, za, zb, [], [], qm, qs, qz, rm, rs, 0, lo, hi⟩ w) := by
  have HW := Lib.hid (Old.now hw)
  have HB := Lib.hid (Old.now hb)
  clear hw hb
  have SC := Lib.hid (fun w => scaledK_any 6 w)
  rw [show scaledK 6 = true from rfl] at SC
  have NM := Lib.hid (fun w => kname_any 6 w)
  have FR := Lib.hid (Far.refl w)
  obtain ⟨w1, hw_w1⟩ : ∃ nw_, w.alloc (.cells #[.int .i64 6, .int .i64 a, .int .i64 b, .int .i64 k, .int .i64 s, .int .i64 p, .int .i64 out, .int .i8 za, .int .i8 zb, .slice W nw cw, .slice B nb cb, .int .i32 qm, .int .i64 qs, .int .i8 qz, .int .i32 rm, .int .i64 rs, .int .i8 rz, .int .i8 lo, .int .i8 hi] 53) = nw_ := ⟨_, rfl⟩
  have k_w1 : Below w.heap.size w w1 := by rw [← hw_w1]; exact (Below.refl _ _).alloc (Nat.le_refl _) _
  replace FR := Lib.hid (FR.out.fut k_w1)
  replace HW := Lib.hid (HW.out.fut k_w1)
  replace HB := Lib.hid (HB.out.fut k_w1)
  have BN := Lib.hid (show Blk w1 w.heap.size 53 #[.int .i64 6, .int .i64 a, .int .i64 b, .int .i64 k, .int .i64 s, .int .i64 p, .int .i64 out, .int .i8 za, .int .i8 zb, .slice W nw cw, .slice B nb cb, .int .i32 qm, .int .i64 qs, .int .i8 qz, .int .i32 rm, .int .i64 rs, .int .i8 rz, .int .i8 lo, .int .i8 hi] by rw [← hw_w1]; exact Blk.now _ _ _ _ rfl)
  clear k_w1
  obtain ⟨w2, hw_w2⟩ : ∃ nw_, w1.alloc (.cells #[.int .i64 0, .int .i64 0, .int .i64 0, .int .i64 0, .int .i64 0, .int .i64 0, .int .i64 0, .int .i8 0, .int .i8 0, .slice none 0 0, .slice none 0 0, .int .i32 0, .int .i64 0, .int .i8 0, .int .i32 0, .int .i64 0, .int .i8 0, .int .i8 0, .int .i8 0] 53) = nw_ := ⟨_, rfl⟩
  have k_w2 : Below w1.heap.size w1 w2 := by rw [← hw_w2]; exact (Below.refl _ _).alloc (Nat.le_refl _) _
  replace FR := Lib.hid (FR.out.fut k_w2)
  replace HW := Lib.hid (HW.out.fut k_w2)
  replace HB := Lib.hid (HB.out.fut k_w2)
  replace BN := Lib.hid (BN.out.fut k_w2)
  have BR := Lib.hid (show Blk w2 w1.heap.size 53 #[.int .i64 0, .int .i64 0, .int .i64 0, .int .i64 0, .int .i64 0, .int .i64 0, .int .i64 0, .int .i8 0, .int .i8 0, .slice none 0 0, .slice none 0 0, .int .i32 0, .int .i64 0, .int .i8 0, .int .i32 0, .int .i64 0, .int .i8 0, .int .i8 0, .int .i8 0] by rw [← hw_w2]; exact Blk.now _ _ _ _ rfl)
  clear k_w2
  have cN0 := BN.out.cell 0
  have cN1 := BN.out.cell 1
  go_enter Try.func46, Try.ntmps46
  go_wp2_with fail
  have lr0 := Lib.hid (show w.heap.size ≤ w1.heap.size by rw [← hw_w1]; simp)
  clear hw_w1 hw_w2
  refine (NM.out _).mono ?_
  rintro e w3 ⟨rfl, hb⟩
  have tn : (nameOf 6).toList.isEmpty = false := by rw [ByteArray.toList_eq]; rfl
  clear cN0 cN1
  replace FR := Lib.hid (FR.out.fut hb)
  replace HW := Lib.hid (HW.out.fut hb)
  replace HB := Lib.hid (HB.out.fut hb)
  replace BN := Lib.hid (BN.out.fut hb)
  replace BR := Lib.hid (BR.out.fut hb)
  clear hb
  have ln : w.heap.size < w3.heap.size := BN.out.lt
  have lr : w1.heap.size < w3.heap.size := BR.out.lt
  have cN0 := BN.out.cell 0
  have cN1 := BN.out.cell 1
  obtain ⟨w4, hw_w4⟩ : ∃ nw_, w3.alloc (.cells #[.int .i64 0, .int .i64 0, .int .i64 0, .int .i64 0, .int .i64 0, .int .i64 0, .int .i64 0, .int .i8 0, .int .i8 0, .slice none 0 0, .slice none 0 0, .int .i32 0, .int .i64 0, .int .i8 0, .int .i32 0, .int .i64 0, .int .i8 0, .int .i8 0, .int .i8 0] 53) = nw_ := ⟨_, rfl⟩
  have k_w4 : Below w3.heap.size w3 w4 := by rw [← hw_w4]; exact (Below.refl _ _).alloc (Nat.le_refl _) _
  replace FR := Lib.hid (FR.out.fut k_w4)
  replace HW := Lib.hid (HW.out.fut k_w4)
  replace HB := Lib.hid (HB.out.fut k_w4)
  replace BN := Lib.hid (BN.out.fut k_w4)
  replace BR := Lib.hid (BR.out.fut k_w4)
  have BM := Lib.hid (show Blk w4 w3.heap.size 53 #[.int .i64 0, .int .i64 0, .int .i64 0, .int .i64 0, .int .i64 0, .int .i64 0, .int .i64 0, .int .i8 0, .int .i8 0, .slice none 0 0, .slice none 0 0, .int .i32 0, .int .i64 0, .int .i8 0, .int .i32 0, .int .i64 0, .int .i8 0, .int .i8 0, .int .i8 0] by rw [← hw_w4]; exact Blk.now _ _ _ _ rfl)
  clear k_w4
  go_wp2_with (refine wpList_store_all rfl 53 (.tmp 3) (.tmp 13) rfl w3.heap.size #[.int .i64 6, .int .i64 a, .int .i64 0, .int .i64 0, .int .i64 0, .int .i64 0, .int .i64 0, .int .i8 0, .int .i8 0, .slice none 0 0, .slice none 0 0, .int .i32 0, .int .i64 0, .int .i8 0, .int .i32 0, .int .i64 0, .int .i8 0, .int .i8 0, .int .i8 0] rfl rfl _ _ BM.out rfl (by kernel_rfl) (by simp [Value.oneCell']) ?_; intro w5 BM5 g5; have cM0 := (BN.out.away g5 (by omega)).cell 0)
  clear hw_w4 cM0
  clear cN0 cN1
  replace FR := Lib.hid (FR.out.away g5 (by omega))
  replace HW := Lib.hid (HW.out.away g5 (by omega))
  replace HB := Lib.hid (HB.out.away g5 (by omega))
  replace BN := Lib.hid (BN.out.away g5 (by omega))
  replace BR := Lib.hid (BR.out.away g5 (by omega))
  clear g5
  refine wp_region_held_drew (S := fun w' => w'.cell? ⟨w.heap.size, 2, none⟩ = some (.int .i64 b) ∧ w'.cell? ⟨w.heap.size, 8, none⟩ = some (.int .i8 zb) ∧ w'.cell? ⟨w.heap.size, 14, none⟩ = some (.int .i32 rm) ∧ w'.cell? ⟨w.heap.size, 15, none⟩ = some (.int .i64 rs) ∧ Blk w' w.heap.size 53 #[.int .i64 6, .int .i64 a, .int .i64 b, .int .i64 k, .int .i64 s, .int .i64 p, .int .i64 out, .int .i8 za, .int .i8 zb, .slice W nw cw, .slice B nb cb, .int .i32 qm, .int .i64 qs, .int .i8 qz, .int .i32 rm, .int .i64 rs, .int .i8 rz, .int .i8 lo, .int .i8 hi] ∧ Below w.heap.size w w') (by kernel_rfl) ?_ (fun hS => ?_)
  · exact ⟨BN.out.drew.cell 2, BN.out.drew.cell 8, BN.out.drew.cell 14, BN.out.drew.cell 15, BN.out.drew, FR.out.out.drew⟩
  refine wpAnyH_take (i := 0) (v := ?_) rfl (by as_aux_lemma => kernel_rfl) (by as_aux_lemma => kernel_rfl) (by as_aux_lemma => kernel_rfl) (fun _ _ _ h => h) (Or.inl ⟨by rfl, ?_⟩) hS ?_
  rotate_left
  · intro w hSw; (try dsimp only at hSw); go_simp; try with_reducible rfl
  try simp only [Act.put, List.getElem_toArray, List.getElem_cons_succ, List.getElem_cons_zero, List.setIfInBounds_toArray, List.set_cons_zero, List.set_cons_succ]
  refine wpAnyH_take (i := 1) (v := ?_) rfl (by as_aux_lemma => kernel_rfl) (by as_aux_lemma => kernel_rfl) (by as_aux_lemma => kernel_rfl) (fun _ _ _ h => h) (Or.inl ⟨by rfl, ?_⟩) hS ?_
  rotate_left
  · intro w hSw; (try dsimp only at hSw); go_simp; try with_reducible rfl
  try simp only [Act.put, List.getElem_toArray, List.getElem_cons_succ, List.getElem_cons_zero, List.setIfInBounds_toArray, List.set_cons_zero, List.set_cons_succ]
  refine wpAnyH_take (i := 2) (v := ?_) rfl (by as_aux_lemma => kernel_rfl) (by as_aux_lemma => kernel_rfl) (by as_aux_lemma => kernel_rfl) (fun _ _ _ h => h) (Or.inl ⟨by rfl, ?_⟩) hS ?_
  rotate_left
  · intro w hSw; (try dsimp only at hSw); go_simp; try with_reducible rfl
  try simp only [Act.put, List.getElem_toArray, List.getElem_cons_succ, List.getElem_cons_zero, List.setIfInBounds_toArray, List.set_cons_zero, List.set_cons_succ]
  refine wpAnyH_take (i := 3) (v := ?_) rfl (by as_aux_lemma => kernel_rfl) (by as_aux_lemma => kernel_rfl) (by as_aux_lemma => kernel_rfl) (fun _ _ _ h => h) (Or.inl ⟨by rfl, ?_⟩) hS ?_
  rotate_left
  · intro w hSw; (try dsimp only at hSw); go_simp; try with_reducible rfl
  try simp only [Act.put, List.getElem_toArray, List.getElem_cons_succ, List.getElem_cons_zero, List.setIfInBounds_toArray, List.set_cons_zero, List.set_cons_succ]
  refine wpAnyH_take (i := 4) (v := ?_) rfl (by as_aux_lemma => kernel_rfl) (by as_aux_lemma => kernel_rfl) (by as_aux_lemma => kernel_rfl) (fun _ _ _ h => h) (Or.inl ⟨by rfl, ?_⟩) hS ?_
  rotate_left
  · intro w hSw; (try dsimp only at hSw); go_simp; try with_reducible rfl
  try simp only [Act.put, List.getElem_toArray, List.getElem_cons_succ, List.getElem_cons_zero, List.setIfInBounds_toArray, List.set_cons_zero, List.set_cons_succ]
  refine wpAnyH_take (i := 5) (v := ?_) rfl (by as_aux_lemma => kernel_rfl) (by as_aux_lemma => kernel_rfl) (by as_aux_lemma => kernel_rfl) (fun _ _ _ h => h) (Or.inl ⟨by rfl, ?_⟩) hS ?_
  rotate_left
  · intro w hSw; (try dsimp only at hSw); go_simp; try with_reducible rfl
  try simp only [Act.put, List.getElem_toArray, List.getElem_cons_succ, List.getElem_cons_zero, List.setIfInBounds_toArray, List.set_cons_zero, List.set_cons_succ]
  refine wpAnyH_take (i := 6) (v := ?_) rfl (by as_aux_lemma => kernel_rfl) (by as_aux_lemma => kernel_rfl) (by as_aux_lemma => kernel_rfl) (fun _ _ _ h => h) (Or.inl ⟨by rfl, ?_⟩) hS ?_
  rotate_left
  · intro w hSw; (try dsimp only at hSw); go_simp; try with_reducible rfl
  try simp only [Act.put, List.getElem_toArray, List.getElem_cons_succ, List.getElem_cons_zero, List.setIfInBounds_toArray, List.set_cons_zero, List.set_cons_succ]
  refine wpAnyH_take (i := 7) (v := ?_) rfl (by as_aux_lemma => kernel_rfl) (by as_aux_lemma => kernel_rfl) (by as_aux_lemma => kernel_rfl) (fun _ _ _ h => h) (Or.inl ⟨by rfl, ?_⟩) hS ?_
  rotate_left
  · intro w hSw; (try dsimp only at hSw); go_simp; try with_reducible rfl
  try simp only [Act.put, List.getElem_toArray, List.getElem_cons_succ, List.getElem_cons_zero, List.setIfInBounds_toArray, List.set_cons_zero, List.set_cons_succ]
  refine wpAnyH_take (i := 8) (v := ?_) rfl (by as_aux_lemma => kernel_rfl) (by as_aux_lemma => kernel_rfl) (by as_aux_lemma => kernel_rfl) (fun _ _ _ h => h) (Or.inl ⟨by rfl, ?_⟩) hS ?_
  rotate_left
  · intro w hSw; (try dsimp only at hSw); go_simp; try with_reducible rfl
  try simp only [Act.put, List.getElem_toArray, List.getElem_cons_succ, List.getElem_cons_zero, List.setIfInBounds_toArray, List.set_cons_zero, List.set_cons_succ]
  refine wpAnyH_take (i := 9) (v := ?_) rfl (by as_aux_lemma => kernel_rfl) (by as_aux_lemma => kernel_rfl) (by as_aux_lemma => kernel_rfl) (fun _ _ _ h => h) (Or.inl ⟨by rfl, ?_⟩) hS ?_
  rotate_left
  · intro w hSw; (try dsimp only at hSw); go_simp; try with_reducible rfl
  try simp only [Act.put, List.getElem_toArray, List.getElem_cons_succ, List.getElem_cons_zero, List.setIfInBounds_toArray, List.set_cons_zero, List.set_cons_succ]
  refine wpAnyH_take (i := 10) (v := ?_) rfl (by as_aux_lemma => kernel_rfl) (by as_aux_lemma => kernel_rfl) (by as_aux_lemma => kernel_rfl) (fun _ _ _ h => h) (Or.inl ⟨by rfl, ?_⟩) hS ?_
  rotate_left
  · intro w hSw; (try dsimp only at hSw); go_simp; try with_reducible rfl
  try simp only [Act.put, List.getElem_toArray, List.getElem_cons_succ, List.getElem_cons_zero, List.setIfInBounds_toArray, List.set_cons_zero, List.set_cons_succ]
  refine wpAnyH_take (i := 11) (v := ?_) rfl (by as_aux_lemma => kernel_rfl) (by as_aux_lemma => kernel_rfl) (by as_aux_lemma => kernel_rfl) (fun _ _ _ h => h) (Or.inl ⟨by rfl, ?_⟩) hS ?_
  rotate_left
  · intro w hSw; (try dsimp only at hSw); go_simp; try with_reducible rfl
  try simp only [Act.put, List.getElem_toArray, List.getElem_cons_succ, List.getElem_cons_zero, List.setIfInBounds_toArray, List.set_cons_zero, List.set_cons_succ]
  refine wpAnyH_ready (rs := [12]) (by kernel_rfl) (by simp) ?_
  refine AllReadyH.cons rfl (fun K hK => ?_) AllReadyH.nil
  (rw [if_pos (by rfl)]; refine oper_store_one 3 (.tmp 71) (.tmp 61) rfl w3.heap.size 2 (.int .i64 b) rfl rfl rfl rfl _ #[.int .i64 6, .int .i64 a, .int .i64 0, .int .i64 0, .int .i64 0, .int .i64 0, .int .i64 0, .int .i8 0, .int .i8 0, .slice none 0 0, .slice none 0 0, .int .i32 0, .int .i64 0, .int .i8 0, .int .i32 0, .int .i64 0, .int .i8 0, .int .i8 0, .int .i8 0] #[.int .i64 6, .int .i64 a, .int .i64 b, .int .i64 0, .int .i64 0, .int .i64 0, .int .i64 0, .int .i8 0, .int .i8 0, .slice none 0 0, .slice none 0 0, .int .i32 0, .int .i64 0, .int .i8 0, .int .i32 0, .int .i64 0, .int .i8 0, .int .i8 0, .int .i8 0] BM5.drew (by simp) (by kernel_rfl) rfl ?_; intro w6 BM6 g6; have BN6 := (hS.2.2.2.2.1).away g6 (by omega); refine hK.out _ _ ⟨BN6.cell 2, BN6.cell 8, BN6.cell 14, BN6.cell 15, BN6, (hS.2.2.2.2.2).grown g6 (hS.2.2.2.2.2).size (fun k h => by have := Option.some.inj h; omega)⟩ (fun hS => ?_))
  clear hK K
  try simp only [Act.put, List.getElem_toArray, List.getElem_cons_succ, List.getElem_cons_zero, List.setIfInBounds_toArray, List.set_cons_zero, List.set_cons_succ]
  refine wpAnyH_take (i := 13) (v := ?_) rfl (by as_aux_lemma => kernel_rfl) (by as_aux_lemma => kernel_rfl) (by as_aux_lemma => kernel_rfl) (fun _ _ _ h => h) (Or.inl ⟨by rfl, ?_⟩) hS ?_
  rotate_left
  · intro w hSw; (try dsimp only at hSw); go_simp; try with_reducible rfl
  try simp only [Act.put, List.getElem_toArray, List.getElem_cons_succ, List.getElem_cons_zero, List.setIfInBounds_toArray, List.set_cons_zero, List.set_cons_succ]
  refine wpAnyH_ready (rs := [14]) (by kernel_rfl) (by simp) ?_
  refine AllReadyH.cons rfl (fun K hK => ?_) AllReadyH.nil
  (rw [if_pos (by rfl)]; refine oper_store_one 48 (.tmp 72) (.tmp 63) rfl w3.heap.size 8 (.int .i8 zb) rfl rfl rfl rfl _ #[.int .i64 6, .int .i64 a, .int .i64 b, .int .i64 0, .int .i64 0, .int .i64 0, .int .i64 0, .int .i8 0, .int .i8 0, .slice none 0 0, .slice none 0 0, .int .i32 0, .int .i64 0, .int .i8 0, .int .i32 0, .int .i64 0, .int .i8 0, .int .i8 0, .int .i8 0] #[.int .i64 6, .int .i64 a, .int .i64 b, .int .i64 0, .int .i64 0, .int .i64 0, .int .i64 0, .int .i8 0, .int .i8 zb, .slice none 0 0, .slice none 0 0, .int .i32 0, .int .i64 0, .int .i8 0, .int .i32 0, .int .i64 0, .int .i8 0, .int .i8 0, .int .i8 0] BM6 (by simp) (by kernel_rfl) rfl ?_; intro w7 BM7 g7; have BN7 := (hS.2.2.2.2.1).away g7 (by omega); refine hK.out _ _ ⟨BN7.cell 2, BN7.cell 8, BN7.cell 14, BN7.cell 15, BN7, (hS.2.2.2.2.2).grown g7 (hS.2.2.2.2.2).size (fun k h => by have := Option.some.inj h; omega)⟩ (fun hS => ?_))
  clear hK K
  try simp only [Act.put, List.getElem_toArray, List.getElem_cons_succ, List.getElem_cons_zero, List.setIfInBounds_toArray, List.set_cons_zero, List.set_cons_succ]
  refine wpAnyH_take (i := 15) (v := ?_) rfl (by as_aux_lemma => kernel_rfl) (by as_aux_lemma => kernel_rfl) (by as_aux_lemma => kernel_rfl) (fun _ _ _ h => h) (Or.inl ⟨by rfl, ?_⟩) hS ?_
  rotate_left
  · intro w hSw; (try dsimp only at hSw); go_simp; try with_reducible rfl
  try simp only [Act.put, List.getElem_toArray, List.getElem_cons_succ, List.getElem_cons_zero, List.setIfInBounds_toArray, List.set_cons_zero, List.set_cons_succ]
  refine wpAnyH_ready (rs := [16]) (by kernel_rfl) (by simp) ?_
  refine AllReadyH.cons rfl (fun K hK => ?_) AllReadyH.nil
  (rw [if_pos (by rfl)]; refine oper_store_blk 51 (.tmp 73) (.tmp 70) rfl w3.heap.size 14 #[.int .i32 rm, .int .i64 rs, .int .i8 0] rfl rfl _ #[.int .i64 6, .int .i64 a, .int .i64 b, .int .i64 0, .int .i64 0, .int .i64 0, .int .i64 0, .int .i8 0, .int .i8 zb, .slice none 0 0, .slice none 0 0, .int .i32 0, .int .i64 0, .int .i8 0, .int .i32 0, .int .i64 0, .int .i8 0, .int .i8 0, .int .i8 0] #[.int .i64 6, .int .i64 a, .int .i64 b, .int .i64 0, .int .i64 0, .int .i64 0, .int .i64 0, .int .i8 0, .int .i8 zb, .slice none 0 0, .slice none 0 0, .int .i32 0, .int .i64 0, .int .i8 0, .int .i32 rm, .int .i64 rs, .int .i8 0, .int .i8 0, .int .i8 0] BM7 (by simp) (by kernel_rfl) (by simp [Value.oneCell']) rfl ?_; intro w8 BM8 g8; have BN8 := (hS.2.2.2.2.1).away g8 (by omega); refine hK.out _ _ ⟨BN8.cell 2, BN8.cell 8, BN8.cell 14, BN8.cell 15, BN8, (hS.2.2.2.2.2).grown g8 (hS.2.2.2.2.2).size (fun k h => by have := Option.some.inj h; omega)⟩ (fun hS => ?_))
  clear hK K
  try simp only [Act.put, List.getElem_toArray, List.getElem_cons_succ, List.getElem_cons_zero, List.setIfInBounds_toArray, List.set_cons_zero, List.set_cons_succ]
  refine wpAnyH_done (by kernel_rfl) ?_ _
  replace FR := Lib.hid (Far.mk (hS.2.2.2.2.2))
  replace BN := Lib.hid (hS.2.2.2.2.1)
  clear hS BN6 BN7 BN8
  replace HW := Lib.hid (HW.out.draw)
  replace HB := Lib.hid (HB.out.draw)
  replace BR := Lib.hid (BR.out.draw)
  replace HW := Lib.hid (HW.out.away g6 (by omega))
  replace HB := Lib.hid (HB.out.away g6 (by omega))
  replace BR := Lib.hid (BR.out.away g6 (by omega))
  clear g6
  replace HW := Lib.hid (HW.out.away g7 (by omega))
  replace HB := Lib.hid (HB.out.away g7 (by omega))
  replace BR := Lib.hid (BR.out.away g7 (by omega))
  clear g7
  replace HW := Lib.hid (HW.out.away g8 (by omega))
  replace HB := Lib.hid (HB.out.away g8 (by omega))
  replace BR := Lib.hid (BR.out.away g8 (by omega))
  clear g8
  clear BM6
  clear BM7
  have cN0 := BN.out.cell 0
  go_wp2_with (go_at_call 47; refine (SC.out _).mono ?_; rintro e w' ⟨rfl, rfl⟩)
  clear cN0
  refine wp_region_held_drew (S := fun w' => w'.cell? ⟨w.heap.size, 7, none⟩ = some (.int .i8 za) ∧ w'.cell? ⟨w.heap.size, 17, none⟩ = some (.int .i8 lo) ∧ w'.cell? ⟨w.heap.size, 18, none⟩ = some (.int .i8 hi) ∧ Blk w' w.heap.size 53 #[.int .i64 6, .int .i64 a, .int .i64 b, .int .i64 k, .int .i64 s, .int .i64 p, .int .i64 out, .int .i8 za, .int .i8 zb, .slice W nw cw, .slice B nb cb, .int .i32 qm, .int .i64 qs, .int .i8 qz, .int .i32 rm, .int .i64 rs, .int .i8 rz, .int .i8 lo, .int .i8 hi] ∧ Below w.heap.size w w') (by kernel_rfl) ?_ (fun hS => ?_)
  · exact ⟨BN.out.drew.cell 7, BN.out.drew.cell 17, BN.out.drew.cell 18, BN.out.drew, FR.out.out.drew⟩
  refine wpAnyH_take (i := 0) (v := ?_) rfl (by as_aux_lemma => kernel_rfl) (by as_aux_lemma => kernel_rfl) (by as_aux_lemma => kernel_rfl) (fun _ _ _ h => h) (Or.inl ⟨by rfl, ?_⟩) hS ?_
  rotate_left
  · intro w hSw; (try dsimp only at hSw); go_simp; try with_reducible rfl
  try simp only [Act.put, List.getElem_toArray, List.getElem_cons_succ, List.getElem_cons_zero, List.setIfInBounds_toArray, List.set_cons_zero, List.set_cons_succ]
  refine wpAnyH_take (i := 1) (v := ?_) rfl (by as_aux_lemma => kernel_rfl) (by as_aux_lemma => kernel_rfl) (by as_aux_lemma => kernel_rfl) (fun _ _ _ h => h) (Or.inl ⟨by rfl, ?_⟩) hS ?_
  rotate_left
  · intro w hSw; (try dsimp only at hSw); go_simp; try with_reducible rfl
  try simp only [Act.put, List.getElem_toArray, List.getElem_cons_succ, List.getElem_cons_zero, List.setIfInBounds_toArray, List.set_cons_zero, List.set_cons_succ]
  refine wpAnyH_take (i := 2) (v := ?_) rfl (by as_aux_lemma => kernel_rfl) (by as_aux_lemma => kernel_rfl) (by as_aux_lemma => kernel_rfl) (fun _ _ _ h => h) (Or.inl ⟨by rfl, ?_⟩) hS ?_
  rotate_left
  · intro w hSw; (try dsimp only at hSw); go_simp; try with_reducible rfl
  try simp only [Act.put, List.getElem_toArray, List.getElem_cons_succ, List.getElem_cons_zero, List.setIfInBounds_toArray, List.set_cons_zero, List.set_cons_succ]
  refine wpAnyH_take (i := 3) rfl (by as_aux_lemma => kernel_rfl) (by as_aux_lemma => kernel_rfl) (by as_aux_lemma => kernel_rfl) (fun _ _ _ h => h) (yieldsIf_load_blk (by rfl) 51 (.tmp 85) rfl w.heap.size 11 rfl _ _ #[.int .i32 qm, .int .i64 qs, .int .i8 qz] _ (fun w hs => hs.2.2.2.1) Try.underlying51 rfl (by kernel_rfl) rfl) hS ?_
  try simp only [Act.put, List.getElem_toArray, List.getElem_cons_succ, List.getElem_cons_zero, List.setIfInBounds_toArray, List.set_cons_zero, List.set_cons_succ]
  refine wpAnyH_take (i := 4) (v := ?_) rfl (by as_aux_lemma => kernel_rfl) (by as_aux_lemma => kernel_rfl) (by as_aux_lemma => kernel_rfl) (fun _ _ _ h => h) (Or.inl ⟨by rfl, ?_⟩) hS ?_
  rotate_left
  · intro w hSw; (try dsimp only at hSw); go_simp; try with_reducible rfl
  try simp only [Act.put, List.getElem_toArray, List.getElem_cons_succ, List.getElem_cons_zero, List.setIfInBounds_toArray, List.set_cons_zero, List.set_cons_succ]
  refine wpAnyH_take (i := 5) (v := ?_) rfl (by as_aux_lemma => kernel_rfl) (by as_aux_lemma => kernel_rfl) (by as_aux_lemma => kernel_rfl) (fun _ _ _ h => h) (Or.inl ⟨by rfl, ?_⟩) hS ?_
  rotate_left
  · intro w hSw; (try dsimp only at hSw); go_simp; try with_reducible rfl
  try simp only [Act.put, List.getElem_toArray, List.getElem_cons_succ, List.getElem_cons_zero, List.setIfInBounds_toArray, List.set_cons_zero, List.set_cons_succ]
  refine wpAnyH_take (i := 6) (v := ?_) rfl (by as_aux_lemma => kernel_rfl) (by as_aux_lemma => kernel_rfl) (by as_aux_lemma => kernel_rfl) (fun _ _ _ h => h) (Or.inl ⟨by rfl, ?_⟩) hS ?_
  rotate_left
  · intro w hSw; (try dsimp only at hSw); go_simp; try with_reducible rfl
  try simp only [Act.put, List.getElem_toArray, List.getElem_cons_succ, List.getElem_cons_zero, List.setIfInBounds_toArray, List.set_cons_zero, List.set_cons_succ]
  refine wpAnyH_take (i := 7) (v := ?_) rfl (by as_aux_lemma => kernel_rfl) (by as_aux_lemma => kernel_rfl) (by as_aux_lemma => kernel_rfl) (fun _ _ _ h => h) (Or.inl ⟨by rfl, ?_⟩) hS ?_
  rotate_left
  · intro w hSw; (try dsimp only at hSw); go_simp; try with_reducible rfl
  try simp only [Act.put, List.getElem_toArray, List.getElem_cons_succ, List.getElem_cons_zero, List.setIfInBounds_toArray, List.set_cons_zero, List.set_cons_succ]
  refine wpAnyH_take (i := 8) (v := ?_) rfl (by as_aux_lemma => kernel_rfl) (by as_aux_lemma => kernel_rfl) (by as_aux_lemma => kernel_rfl) (fun _ _ _ h => h) (Or.inl ⟨by rfl, ?_⟩) hS ?_
  rotate_left
  · intro w hSw; (try dsimp only at hSw); go_simp; try with_reducible rfl
  try simp only [Act.put, List.getElem_toArray, List.getElem_cons_succ, List.getElem_cons_zero, List.setIfInBounds_toArray, List.set_cons_zero, List.set_cons_succ]
  refine wpAnyH_ready (rs := [9]) (by kernel_rfl) (by simp) ?_
  refine AllReadyH.cons rfl (fun K hK => ?_) AllReadyH.nil
  (rw [if_pos (by rfl)]; refine oper_store_one 48 (.tmp 91) (.tmp 84) rfl w3.heap.size 7 (.int .i8 za) rfl rfl rfl rfl _ #[.int .i64 6, .int .i64 a, .int .i64 b, .int .i64 0, .int .i64 0, .int .i64 0, .int .i64 0, .int .i8 0, .int .i8 zb, .slice none 0 0, .slice none 0 0, .int .i32 0, .int .i64 0, .int .i8 0, .int .i32 rm, .int .i64 rs, .int .i8 0, .int .i8 0, .int .i8 0] #[.int .i64 6, .int .i64 a, .int .i64 b, .int .i64 0, .int .i64 0, .int .i64 0, .int .i64 0, .int .i8 za, .int .i8 zb, .slice none 0 0, .slice none 0 0, .int .i32 0, .int .i64 0, .int .i8 0, .int .i32 rm, .int .i64 rs, .int .i8 0, .int .i8 0, .int .i8 0] BM8.drew (by simp) (by kernel_rfl) rfl ?_; intro w9 BM9 g9; have BN9 := (hS.2.2.2.1).away g9 (by omega); refine hK.out _ _ ⟨BN9.cell 7, BN9.cell 17, BN9.cell 18, BN9, (hS.2.2.2.2).grown g9 (hS.2.2.2.2).size (fun k h => by have := Option.some.inj h; omega)⟩ (fun hS => ?_))
  clear hK K
  try simp only [Act.put, List.getElem_toArray, List.getElem_cons_succ, List.getElem_cons_zero, List.setIfInBounds_toArray, List.set_cons_zero, List.set_cons_succ]
  refine wpAnyH_take (i := 10) (v := ?_) rfl (by as_aux_lemma => kernel_rfl) (by as_aux_lemma => kernel_rfl) (by as_aux_lemma => kernel_rfl) (fun _ _ _ h => h) (Or.inl ⟨by rfl, ?_⟩) hS ?_
  rotate_left
  · intro w hSw; (try dsimp only at hSw); go_simp; try with_reducible rfl
  try simp only [Act.put, List.getElem_toArray, List.getElem_cons_succ, List.getElem_cons_zero, List.setIfInBounds_toArray, List.set_cons_zero, List.set_cons_succ]
  refine wpAnyH_ready (rs := [11]) (by kernel_rfl) (by simp) ?_
  refine AllReadyH.cons rfl (fun K hK => ?_) AllReadyH.nil
  (rw [if_pos (by rfl)]; refine oper_store_blk 51 (.tmp 92) (.tmp 86) rfl w3.heap.size 11 #[.int .i32 qm, .int .i64 qs, .int .i8 qz] rfl rfl _ #[.int .i64 6, .int .i64 a, .int .i64 b, .int .i64 0, .int .i64 0, .int .i64 0, .int .i64 0, .int .i8 za, .int .i8 zb, .slice none 0 0, .slice none 0 0, .int .i32 0, .int .i64 0, .int .i8 0, .int .i32 rm, .int .i64 rs, .int .i8 0, .int .i8 0, .int .i8 0] #[.int .i64 6, .int .i64 a, .int .i64 b, .int .i64 0, .int .i64 0, .int .i64 0, .int .i64 0, .int .i8 za, .int .i8 zb, .slice none 0 0, .slice none 0 0, .int .i32 qm, .int .i64 qs, .int .i8 qz, .int .i32 rm, .int .i64 rs, .int .i8 0, .int .i8 0, .int .i8 0] BM9 (by simp) (by kernel_rfl) (by simp [Value.oneCell']) rfl ?_; intro w10 BM10 g10; have BN10 := (hS.2.2.2.1).away g10 (by omega); refine hK.out _ _ ⟨BN10.cell 7, BN10.cell 17, BN10.cell 18, BN10, (hS.2.2.2.2).grown g10 (hS.2.2.2.2).size (fun k h => by have := Option.some.inj h; omega)⟩ (fun hS => ?_))
  clear hK K
  try simp only [Act.put, List.getElem_toArray, List.getElem_cons_succ, List.getElem_cons_zero, List.setIfInBounds_toArray, List.set_cons_zero, List.set_cons_succ]
  refine wpAnyH_take (i := 12) (v := ?_) rfl (by as_aux_lemma => kernel_rfl) (by as_aux_lemma => kernel_rfl) (by as_aux_lemma => kernel_rfl) (fun _ _ _ h => h) (Or.inl ⟨by rfl, ?_⟩) hS ?_
  rotate_left
  · intro w hSw; (try dsimp only at hSw); go_simp; try with_reducible rfl
  try simp only [Act.put, List.getElem_toArray, List.getElem_cons_succ, List.getElem_cons_zero, List.setIfInBounds_toArray, List.set_cons_zero, List.set_cons_succ]
  refine wpAnyH_ready (rs := [13]) (by kernel_rfl) (by simp) ?_
  refine AllReadyH.cons rfl (fun K hK => ?_) AllReadyH.nil
  (rw [if_pos (by rfl)]; refine oper_store_one 48 (.tmp 93) (.tmp 88) rfl w3.heap.size 17 (.int .i8 lo) rfl rfl rfl rfl _ #[.int .i64 6, .int .i64 a, .int .i64 b, .int .i64 0, .int .i64 0, .int .i64 0, .int .i64 0, .int .i8 za, .int .i8 zb, .slice none 0 0, .slice none 0 0, .int .i32 qm, .int .i64 qs, .int .i8 qz, .int .i32 rm, .int .i64 rs, .int .i8 0, .int .i8 0, .int .i8 0] #[.int .i64 6, .int .i64 a, .int .i64 b, .int .i64 0, .int .i64 0, .int .i64 0, .int .i64 0, .int .i8 za, .int .i8 zb, .slice none 0 0, .slice none 0 0, .int .i32 qm, .int .i64 qs, .int .i8 qz, .int .i32 rm, .int .i64 rs, .int .i8 0, .int .i8 lo, .int .i8 0] BM10 (by simp) (by kernel_rfl) rfl ?_; intro w11 BM11 g11; have BN11 := (hS.2.2.2.1).away g11 (by omega); refine hK.out _ _ ⟨BN11.cell 7, BN11.cell 17, BN11.cell 18, BN11, (hS.2.2.2.2).grown g11 (hS.2.2.2.2).size (fun k h => by have := Option.some.inj h; omega)⟩ (fun hS => ?_))
  clear hK K
  try simp only [Act.put, List.getElem_toArray, List.getElem_cons_succ, List.getElem_cons_zero, List.setIfInBounds_toArray, List.set_cons_zero, List.set_cons_succ]
  refine wpAnyH_take (i := 14) (v := ?_) rfl (by as_aux_lemma => kernel_rfl) (by as_aux_lemma => kernel_rfl) (by as_aux_lemma => kernel_rfl) (fun _ _ _ h => h) (Or.inl ⟨by rfl, ?_⟩) hS ?_
  rotate_left
  · intro w hSw; (try dsimp only at hSw); go_simp; try with_reducible rfl
  try simp only [Act.put, List.getElem_toArray, List.getElem_cons_succ, List.getElem_cons_zero, List.setIfInBounds_toArray, List.set_cons_zero, List.set_cons_succ]
  refine wpAnyH_ready (rs := [15]) (by kernel_rfl) (by simp) ?_
  refine AllReadyH.cons rfl (fun K hK => ?_) AllReadyH.nil
  (rw [if_pos (by rfl)]; refine oper_store_one 48 (.tmp 94) (.tmp 90) rfl w3.heap.size 18 (.int .i8 hi) rfl rfl rfl rfl _ #[.int .i64 6, .int .i64 a, .int .i64 b, .int .i64 0, .int .i64 0, .int .i64 0, .int .i64 0, .int .i8 za, .int .i8 zb, .slice none 0 0, .slice none 0 0, .int .i32 qm, .int .i64 qs, .int .i8 qz, .int .i32 rm, .int .i64 rs, .int .i8 0, .int .i8 lo, .int .i8 0] #[.int .i64 6, .int .i64 a, .int .i64 b, .int .i64 0, .int .i64 0, .int .i64 0, .int .i64 0, .int .i8 za, .int .i8 zb, .slice none 0 0, .slice none 0 0, .int .i32 qm, .int .i64 qs, .int .i8 qz, .int .i32 rm, .int .i64 rs, .int .i8 0, .int .i8 lo, .int .i8 hi] BM11 (by simp) (by kernel_rfl) rfl ?_; intro w12 BM12 g12; have BN12 := (hS.2.2.2.1).away g12 (by omega); refine hK.out _ _ ⟨BN12.cell 7, BN12.cell 17, BN12.cell 18, BN12, (hS.2.2.2.2).grown g12 (hS.2.2.2.2).size (fun k h => by have := Option.some.inj h; omega)⟩ (fun hS => ?_))
  clear hK K
  try simp only [Act.put, List.getElem_toArray, List.getElem_cons_succ, List.getElem_cons_zero, List.setIfInBounds_toArray, List.set_cons_zero, List.set_cons_succ]
  refine wpAnyH_done (by kernel_rfl) ?_ _
  replace FR := Lib.hid (Far.mk (hS.2.2.2.2))
  replace BN := Lib.hid (hS.2.2.2.1)
  clear hS BN9 BN10 BN11 BN12
  replace HW := Lib.hid (HW.out.draw)
  replace HB := Lib.hid (HB.out.draw)
  replace BR := Lib.hid (BR.out.draw)
  replace HW := Lib.hid (HW.out.away g9 (by omega))
  replace HB := Lib.hid (HB.out.away g9 (by omega))
  replace BR := Lib.hid (BR.out.away g9 (by omega))
  clear g9
  replace HW := Lib.hid (HW.out.away g10 (by omega))
  replace HB := Lib.hid (HB.out.away g10 (by omega))
  replace BR := Lib.hid (BR.out.away g10 (by omega))
  clear g10
  replace HW := Lib.hid (HW.out.away g11 (by omega))
  replace HB := Lib.hid (HB.out.away g11 (by omega))
  replace BR := Lib.hid (BR.out.away g11 (by omega))
  clear g11
  replace HW := Lib.hid (HW.out.away g12 (by omega))
  replace HB := Lib.hid (HB.out.away g12 (by omega))
  replace BR := Lib.hid (BR.out.away g12 (by omega))
  clear g12
  clear BM9
  clear BM10
  clear BM11
  go_wp2_with (first
    | (refine wpList_load_row rfl 53 (.tmp 3) rfl w3.heap.size rfl _ _ (0, 0) _ BM12.heap Try.underlying53 rfl (by kernel_rfl) ?_)
    | (refine wpList_store_all rfl 53 (.tmp 2) (.tmp 95) rfl w1.heap.size #[.int .i64 6, .int .i64 a, .int .i64 b, .int .i64 0, .int .i64 0, .int .i64 0, .int .i64 0, .int .i8 za, .int .i8 zb, .slice none 0 0, .slice none 0 0, .int .i32 qm, .int .i64 qs, .int .i8 qz, .int .i32 rm, .int .i64 rs, .int .i8 0, .int .i8 lo, .int .i8 hi] rfl rfl _ _ BR.out rfl (by kernel_rfl) (by simp [Value.oneCell']) ?_; intro wz BZ gz))
  replace FR := Lib.hid (FR.out.away gz (by have := lr0.out; omega))
  refine ret_cell rfl BZ rfl Try.underlying53 (by kernel_rfl) rfl ⟨none, 0, 0, none, 0, 0, rfl, Sl.nil _ _ _, Sl.nil _ _ _, FR.out.out⟩

set_option maxHeartbeats 8000000 in
theorem plain_7 (a b k s p out za zb qm qs qz rm rs rz lo hi : Int) (wl bl : List Int) (W : Option Addr) (nw cw : Nat) (B : Option Addr) (nb cb : Nat) (w : World) (hw : Sl (tInt .i8) w (blo w.heap.size) W nw cw wl) (hb : Sl (tInt .i32) w (blo w.heap.size) B nb cb bl) (mw : nw ≤ 1048576) (mb : nb ≤ 1048576) :
    Calls Try.prog 46 #[.agg #[.int .i64 7, .int .i64 a, .int .i64 b, .int .i64 k, .int .i64 s, .int .i64 p, .int .i64 out, .int .i8 za, .int .i8 zb, .slice W nw cw, .slice B nb cb, .int .i32 qm, .int .i64 qs, .int .i8 qz, .int .i32 rm, .int .i64 rs, .int .i8 rz, .int .i8 lo, .int .i8 hi]] w (RetNode ⟨7, a, 0, 0, 0, 0, 0, za, 0, [], [], qm, qs, qz, 0, 0, 0, lo, hi⟩ w) := by
  have HW := Lib.hid (Old.now hw)
  have HB := Lib.hid (Old.now hb)
  clear hw hb
  have SC := Lib.hid (fun w => scaledK_any 7 w)
  rw [show scaledK 7 = true from rfl] at SC
  have NM := Lib.hid (fun w => kname_any 7 w)
  have FR := Lib.hid (Far.refl w)
  obtain ⟨w1, hw_w1⟩ : ∃ nw_, w.alloc (.cells #[.int .i64 7, .int .i64 a, .int .i64 b, .int .i64 k, .int .i64 s, .int .i64 p, .int .i64 out, .int .i8 za, .int .i8 zb, .slice W nw cw, .slice B nb cb, .int .i32 qm, .int .i64 qs, .int .i8 qz, .int .i32 rm, .int .i64 rs, .int .i8 rz, .int .i8 lo, .int .i8 hi] 53) = nw_ := ⟨_, rfl⟩
  have k_w1 : Below w.heap.size w w1 := by rw [← hw_w1]; exact (Below.refl _ _).alloc (Nat.le_refl _) _
  replace FR := Lib.hid (FR.out.fut k_w1)
  replace HW := Lib.hid (HW.out.fut k_w1)
  replace HB := Lib.hid (HB.out.fut k_w1)
  have BN := Lib.hid (show Blk w1 w.heap.size 53 #[.int .i64 7, .int .i64 a, .int .i64 b, .int .i64 k, .int .i64 s, .int .i64 p, .int .i64 out, .int .i8 za, .int .i8 zb, .slice W nw cw, .slice B nb cb, .int .i32 qm, .int .i64 qs, .int .i8 qz, .int .i32 rm, .int .i64 rs, .int .i8 rz, .int .i8 lo, .int .i8 hi] by rw [← hw_w1]; exact Blk.now _ _ _ _ rfl)
  clear k_w1
  obtain ⟨w2, hw_w2⟩ : ∃ nw_, w1.alloc (.cells #[.int .i64 0, .int .i64 0, .int .i64 0, .int .i64 0, .int .i64 0, .int .i64 0, .int .i64 0, .int .i8 0, .int .i8 0, .slice none 0 0, .slice none 0 0, .int .i32 0, .int .i64 0, .int .i8 0, .int .i32 0, .int .i64 0, .int .i8 0, .int .i8 0, .int .i8 0] 53) = nw_ := ⟨_, rfl⟩
  have k_w2 : Below w1.heap.size w1 w2 := by rw [← hw_w2]; exact (Below.refl _ _).alloc (Nat.le_refl _) _
  replace FR := Lib.hid (FR.out.fut k_w2)
  replace HW := Lib.hid (HW.out.fut k_w2)
  replace HB := Lib.hid (HB.out.fut k_w2)
  replace BN := Lib.hid (BN.out.fut k_w2)
  have BR := Lib.hid (show Blk w2 w1.heap.size 53 #[.int .i64 0, .int .i64 0, .int .i64 0, .int .i64 0, .int .i64 0, .int .i64 0, .int .i64 0, .int .i8 0, .int .i8 0, .slice none 0 0, .slice none 0 0, .int .i32 0, .int .i64 0, .int .i8 0, .int .i32 0, .int .i64 0, .int .i8 0, .int .i8 0, .int .i8 0] by rw [← hw_w2]; exact Blk.now _ _ _ _ rfl)
  clear k_w2
  have cN0 := BN.out.cell 0
  have cN1 := BN.out.cell 1
  go_enter Try.func46, Try.ntmps46
  go_wp2_with fail
  have lr0 := Lib.hid (show w.heap.size ≤ w1.heap.size by rw [← hw_w1]; simp)
  clear hw_w1 hw_w2
  refine (NM.out _).mono ?_
  rintro e w3 ⟨rfl, hb⟩
  have tn : (nameOf 7).toList.isEmpty = false := by rw [ByteArray.toList_eq]; rfl
  clear cN0 cN1
  replace FR := Lib.hid (FR.out.fut hb)
  replace HW := Lib.hid (HW.out.fut hb)
  replace HB := Lib.hid (HB.out.fut hb)
  replace BN := Lib.hid (BN.out.fut hb)
  replace BR := Lib.hid (BR.out.fut hb)
  clear hb
  have ln : w.heap.size < w3.heap.size := BN.out.lt
  have lr : w1.heap.size < w3.heap.size := BR.out.lt
  have cN0 := BN.out.cell 0
  have cN1 := BN.out.cell 1
  obtain ⟨w4, hw_w4⟩ : ∃ nw_, w3.alloc (.cells #[.int .i64 0, .int .i64 0, .int .i64 0, .int .i64 0, .int .i64 0, .int .i64 0, .int .i64 0, .int .i8 0, .int .i8 0, .slice none 0 0, .slice none 0 0, .int .i32 0, .int .i64 0, .int .i8 0, .int .i32 0, .int .i64 0, .int .i8 0, .int .i8 0, .int .i8 0] 53) = nw_ := ⟨_, rfl⟩
  have k_w4 : Below w3.heap.size w3 w4 := by rw [← hw_w4]; exact (Below.refl _ _).alloc (Nat.le_refl _) _
  replace FR := Lib.hid (FR.out.fut k_w4)
  replace HW := Lib.hid (HW.out.fut k_w4)
  replace HB := Lib.hid (HB.out.fut k_w4)
  replace BN := Lib.hid (BN.out.fut k_w4)
  replace BR := Lib.hid (BR.out.fut k_w4)
  have BM := Lib.hid (show Blk w4 w3.heap.size 53 #[.int .i64 0, .int .i64 0, .int .i64 0, .int .i64 0, .int .i64 0, .int .i64 0, .int .i64 0, .int .i8 0, .int .i8 0, .slice none 0 0, .slice none 0 0, .int .i32 0, .int .i64 0, .int .i8 0, .int .i32 0, .int .i64 0, .int .i8 0, .int .i8 0, .int .i8 0] by rw [← hw_w4]; exact Blk.now _ _ _ _ rfl)
  clear k_w4
  go_wp2_with (refine wpList_store_all rfl 53 (.tmp 3) (.tmp 13) rfl w3.heap.size #[.int .i64 7, .int .i64 a, .int .i64 0, .int .i64 0, .int .i64 0, .int .i64 0, .int .i64 0, .int .i8 0, .int .i8 0, .slice none 0 0, .slice none 0 0, .int .i32 0, .int .i64 0, .int .i8 0, .int .i32 0, .int .i64 0, .int .i8 0, .int .i8 0, .int .i8 0] rfl rfl _ _ BM.out rfl (by kernel_rfl) (by simp [Value.oneCell']) ?_; intro w5 BM5 g5; have cM0 := (BN.out.away g5 (by omega)).cell 0)
  clear hw_w4 cM0
  clear cN0 cN1
  replace FR := Lib.hid (FR.out.away g5 (by omega))
  replace HW := Lib.hid (HW.out.away g5 (by omega))
  replace HB := Lib.hid (HB.out.away g5 (by omega))
  replace BN := Lib.hid (BN.out.away g5 (by omega))
  replace BR := Lib.hid (BR.out.away g5 (by omega))
  clear g5
  have cN0 := BN.out.cell 0
  go_wp2_with (go_at_call 47; refine (SC.out _).mono ?_; rintro e w' ⟨rfl, rfl⟩)
  clear cN0
  refine wp_region_held_drew (S := fun w' => w'.cell? ⟨w.heap.size, 7, none⟩ = some (.int .i8 za) ∧ w'.cell? ⟨w.heap.size, 17, none⟩ = some (.int .i8 lo) ∧ w'.cell? ⟨w.heap.size, 18, none⟩ = some (.int .i8 hi) ∧ Blk w' w.heap.size 53 #[.int .i64 7, .int .i64 a, .int .i64 b, .int .i64 k, .int .i64 s, .int .i64 p, .int .i64 out, .int .i8 za, .int .i8 zb, .slice W nw cw, .slice B nb cb, .int .i32 qm, .int .i64 qs, .int .i8 qz, .int .i32 rm, .int .i64 rs, .int .i8 rz, .int .i8 lo, .int .i8 hi] ∧ Below w.heap.size w w') (by kernel_rfl) ?_ (fun hS => ?_)
  · exact ⟨BN.out.drew.cell 7, BN.out.drew.cell 17, BN.out.drew.cell 18, BN.out.drew, FR.out.out.drew⟩
  refine wpAnyH_take (i := 0) (v := ?_) rfl (by as_aux_lemma => kernel_rfl) (by as_aux_lemma => kernel_rfl) (by as_aux_lemma => kernel_rfl) (fun _ _ _ h => h) (Or.inl ⟨by rfl, ?_⟩) hS ?_
  rotate_left
  · intro w hSw; (try dsimp only at hSw); go_simp; try with_reducible rfl
  try simp only [Act.put, List.getElem_toArray, List.getElem_cons_succ, List.getElem_cons_zero, List.setIfInBounds_toArray, List.set_cons_zero, List.set_cons_succ]
  refine wpAnyH_take (i := 1) (v := ?_) rfl (by as_aux_lemma => kernel_rfl) (by as_aux_lemma => kernel_rfl) (by as_aux_lemma => kernel_rfl) (fun _ _ _ h => h) (Or.inl ⟨by rfl, ?_⟩) hS ?_
  rotate_left
  · intro w hSw; (try dsimp only at hSw); go_simp; try with_reducible rfl
  try simp only [Act.put, List.getElem_toArray, List.getElem_cons_succ, List.getElem_cons_zero, List.setIfInBounds_toArray, List.set_cons_zero, List.set_cons_succ]
  refine wpAnyH_take (i := 2) (v := ?_) rfl (by as_aux_lemma => kernel_rfl) (by as_aux_lemma => kernel_rfl) (by as_aux_lemma => kernel_rfl) (fun _ _ _ h => h) (Or.inl ⟨by rfl, ?_⟩) hS ?_
  rotate_left
  · intro w hSw; (try dsimp only at hSw); go_simp; try with_reducible rfl
  try simp only [Act.put, List.getElem_toArray, List.getElem_cons_succ, List.getElem_cons_zero, List.setIfInBounds_toArray, List.set_cons_zero, List.set_cons_succ]
  refine wpAnyH_take (i := 3) rfl (by as_aux_lemma => kernel_rfl) (by as_aux_lemma => kernel_rfl) (by as_aux_lemma => kernel_rfl) (fun _ _ _ h => h) (yieldsIf_load_blk (by rfl) 51 (.tmp 85) rfl w.heap.size 11 rfl _ _ #[.int .i32 qm, .int .i64 qs, .int .i8 qz] _ (fun w hs => hs.2.2.2.1) Try.underlying51 rfl (by kernel_rfl) rfl) hS ?_
  try simp only [Act.put, List.getElem_toArray, List.getElem_cons_succ, List.getElem_cons_zero, List.setIfInBounds_toArray, List.set_cons_zero, List.set_cons_succ]
  refine wpAnyH_take (i := 4) (v := ?_) rfl (by as_aux_lemma => kernel_rfl) (by as_aux_lemma => kernel_rfl) (by as_aux_lemma => kernel_rfl) (fun _ _ _ h => h) (Or.inl ⟨by rfl, ?_⟩) hS ?_
  rotate_left
  · intro w hSw; (try dsimp only at hSw); go_simp; try with_reducible rfl
  try simp only [Act.put, List.getElem_toArray, List.getElem_cons_succ, List.getElem_cons_zero, List.setIfInBounds_toArray, List.set_cons_zero, List.set_cons_succ]
  refine wpAnyH_take (i := 5) (v := ?_) rfl (by as_aux_lemma => kernel_rfl) (by as_aux_lemma => kernel_rfl) (by as_aux_lemma => kernel_rfl) (fun _ _ _ h => h) (Or.inl ⟨by rfl, ?_⟩) hS ?_
  rotate_left
  · intro w hSw; (try dsimp only at hSw); go_simp; try with_reducible rfl
  try simp only [Act.put, List.getElem_toArray, List.getElem_cons_succ, List.getElem_cons_zero, List.setIfInBounds_toArray, List.set_cons_zero, List.set_cons_succ]
  refine wpAnyH_take (i := 6) (v := ?_) rfl (by as_aux_lemma => kernel_rfl) (by as_aux_lemma => kernel_rfl) (by as_aux_lemma => kernel_rfl) (fun _ _ _ h => h) (Or.inl ⟨by rfl, ?_⟩) hS ?_
  rotate_left
  · intro w hSw; (try dsimp only at hSw); go_simp; try with_reducible rfl
  try simp only [Act.put, List.getElem_toArray, List.getElem_cons_succ, List.getElem_cons_zero, List.setIfInBounds_toArray, List.set_cons_zero, List.set_cons_succ]
  refine wpAnyH_take (i := 7) (v := ?_) rfl (by as_aux_lemma => kernel_rfl) (by as_aux_lemma => kernel_rfl) (by as_aux_lemma => kernel_rfl) (fun _ _ _ h => h) (Or.inl ⟨by rfl, ?_⟩) hS ?_
  rotate_left
  · intro w hSw; (try dsimp only at hSw); go_simp; try with_reducible rfl
  try simp only [Act.put, List.getElem_toArray, List.getElem_cons_succ, List.getElem_cons_zero, List.setIfInBounds_toArray, List.set_cons_zero, List.set_cons_succ]
  refine wpAnyH_take (i := 8) (v := ?_) rfl (by as_aux_lemma => kernel_rfl) (by as_aux_lemma => kernel_rfl) (by as_aux_lemma => kernel_rfl) (fun _ _ _ h => h) (Or.inl ⟨by rfl, ?_⟩) hS ?_
  rotate_left
  · intro w hSw; (try dsimp only at hSw); go_simp; try with_reducible rfl
  try simp only [Act.put, List.getElem_toArray, List.getElem_cons_succ, List.getElem_cons_zero, List.setIfInBounds_toArray, List.set_cons_zero, List.set_cons_succ]
  refine wpAnyH_ready (rs := [9]) (by kernel_rfl) (by simp) ?_
  refine AllReadyH.cons rfl (fun K hK => ?_) AllReadyH.nil
  (rw [if_pos (by rfl)]; refine oper_store_one 48 (.tmp 91) (.tmp 84) rfl w3.heap.size 7 (.int .i8 za) rfl rfl rfl rfl _ #[.int .i64 7, .int .i64 a, .int .i64 0, .int .i64 0, .int .i64 0, .int .i64 0, .int .i64 0, .int .i8 0, .int .i8 0, .slice none 0 0, .slice none 0 0, .int .i32 0, .int .i64 0, .int .i8 0, .int .i32 0, .int .i64 0, .int .i8 0, .int .i8 0, .int .i8 0] #[.int .i64 7, .int .i64 a, .int .i64 0, .int .i64 0, .int .i64 0, .int .i64 0, .int .i64 0, .int .i8 za, .int .i8 0, .slice none 0 0, .slice none 0 0, .int .i32 0, .int .i64 0, .int .i8 0, .int .i32 0, .int .i64 0, .int .i8 0, .int .i8 0, .int .i8 0] BM5.drew (by simp) (by kernel_rfl) rfl ?_; intro w6 BM6 g6; have BN6 := (hS.2.2.2.1).away g6 (by omega); refine hK.out _ _ ⟨BN6.cell 7, BN6.cell 17, BN6.cell 18, BN6, (hS.2.2.2.2).grown g6 (hS.2.2.2.2).size (fun k h => by have := Option.some.inj h; omega)⟩ (fun hS => ?_))
  clear hK K
  try simp only [Act.put, List.getElem_toArray, List.getElem_cons_succ, List.getElem_cons_zero, List.setIfInBounds_toArray, List.set_cons_zero, List.set_cons_succ]
  refine wpAnyH_take (i := 10) (v := ?_) rfl (by as_aux_lemma => kernel_rfl) (by as_aux_lemma => kernel_rfl) (by as_aux_lemma => kernel_rfl) (fun _ _ _ h => h) (Or.inl ⟨by rfl, ?_⟩) hS ?_
  rotate_left
  · intro w hSw; (try dsimp only at hSw); go_simp; try with_reducible rfl
  try simp only [Act.put, List.getElem_toArray, List.getElem_cons_succ, List.getElem_cons_zero, List.setIfInBounds_toArray, List.set_cons_zero, List.set_cons_succ]
  refine wpAnyH_ready (rs := [11]) (by kernel_rfl) (by simp) ?_
  refine AllReadyH.cons rfl (fun K hK => ?_) AllReadyH.nil
  (rw [if_pos (by rfl)]; refine oper_store_blk 51 (.tmp 92) (.tmp 86) rfl w3.heap.size 11 #[.int .i32 qm, .int .i64 qs, .int .i8 qz] rfl rfl _ #[.int .i64 7, .int .i64 a, .int .i64 0, .int .i64 0, .int .i64 0, .int .i64 0, .int .i64 0, .int .i8 za, .int .i8 0, .slice none 0 0, .slice none 0 0, .int .i32 0, .int .i64 0, .int .i8 0, .int .i32 0, .int .i64 0, .int .i8 0, .int .i8 0, .int .i8 0] #[.int .i64 7, .int .i64 a, .int .i64 0, .int .i64 0, .int .i64 0, .int .i64 0, .int .i64 0, .int .i8 za, .int .i8 0, .slice none 0 0, .slice none 0 0, .int .i32 qm, .int .i64 qs, .int .i8 qz, .int .i32 0, .int .i64 0, .int .i8 0, .int .i8 0, .int .i8 0] BM6 (by simp) (by kernel_rfl) (by simp [Value.oneCell']) rfl ?_; intro w7 BM7 g7; have BN7 := (hS.2.2.2.1).away g7 (by omega); refine hK.out _ _ ⟨BN7.cell 7, BN7.cell 17, BN7.cell 18, BN7, (hS.2.2.2.2).grown g7 (hS.2.2.2.2).size (fun k h => by have := Option.some.inj h; omega)⟩ (fun hS => ?_))
  clear hK K
  try simp only [Act.put, List.getElem_toArray, List.getElem_cons_succ, List.getElem_cons_zero, List.setIfInBounds_toArray, List.set_cons_zero, List.set_cons_succ]
  refine wpAnyH_take (i := 12) (v := ?_) rfl (by as_aux_lemma => kernel_rfl) (by as_aux_lemma => kernel_rfl) (by as_aux_lemma => kernel_rfl) (fun _ _ _ h => h) (Or.inl ⟨by rfl, ?_⟩) hS ?_
  rotate_left
  · intro w hSw; (try dsimp only at hSw); go_simp; try with_reducible rfl
  try simp only [Act.put, List.getElem_toArray, List.getElem_cons_succ, List.getElem_cons_zero, List.setIfInBounds_toArray, List.set_cons_zero, List.set_cons_succ]
  refine wpAnyH_ready (rs := [13]) (by kernel_rfl) (by simp) ?_
  refine AllReadyH.cons rfl (fun K hK => ?_) AllReadyH.nil
  (rw [if_pos (by rfl)]; refine oper_store_one 48 (.tmp 93) (.tmp 88) rfl w3.heap.size 17 (.int .i8 lo) rfl rfl rfl rfl _ #[.int .i64 7, .int .i64 a, .int .i64 0, .int .i64 0, .int .i64 0, .int .i64 0, .int .i64 0, .int .i8 za, .int .i8 0, .slice none 0 0, .slice none 0 0, .int .i32 qm, .int .i64 qs, .int .i8 qz, .int .i32 0, .int .i64 0, .int .i8 0, .int .i8 0, .int .i8 0] #[.int .i64 7, .int .i64 a, .int .i64 0, .int .i64 0, .int .i64 0, .int .i64 0, .int .i64 0, .int .i8 za, .int .i8 0, .slice none 0 0, .slice none 0 0, .int .i32 qm, .int .i64 qs, .int .i8 qz, .int .i32 0, .int .i64 0, .int .i8 0, .int .i8 lo, .int .i8 0] BM7 (by simp) (by kernel_rfl) rfl ?_; intro w8 BM8 g8; have BN8 := (hS.2.2.2.1).away g8 (by omega); refine hK.out _ _ ⟨BN8.cell 7, BN8.cell 17, BN8.cell 18, BN8, (hS.2.2.2.2).grown g8 (hS.2.2.2.2).size (fun k h => by have := Option.some.inj h; omega)⟩ (fun hS => ?_))
  clear hK K
  try simp only [Act.put, List.getElem_toArray, List.getElem_cons_succ, List.getElem_cons_zero, List.setIfInBounds_toArray, List.set_cons_zero, List.set_cons_succ]
  refine wpAnyH_take (i := 14) (v := ?_) rfl (by as_aux_lemma => kernel_rfl) (by as_aux_lemma => kernel_rfl) (by as_aux_lemma => kernel_rfl) (fun _ _ _ h => h) (Or.inl ⟨by rfl, ?_⟩) hS ?_
  rotate_left
  · intro w hSw; (try dsimp only at hSw); go_simp; try with_reducible rfl
  try simp only [Act.put, List.getElem_toArray, List.getElem_cons_succ, List.getElem_cons_zero, List.setIfInBounds_toArray, List.set_cons_zero, List.set_cons_succ]
  refine wpAnyH_ready (rs := [15]) (by kernel_rfl) (by simp) ?_
  refine AllReadyH.cons rfl (fun K hK => ?_) AllReadyH.nil
  (rw [if_pos (by rfl)]; refine oper_store_one 48 (.tmp 94) (.tmp 90) rfl w3.heap.size 18 (.int .i8 hi) rfl rfl rfl rfl _ #[.int .i64 7, .int .i64 a, .int .i64 0, .int .i64 0, .int .i64 0, .int .i64 0, .int .i64 0, .int .i8 za, .int .i8 0, .slice none 0 0, .slice none 0 0, .int .i32 qm, .int .i64 qs, .int .i8 qz, .int .i32 0, .int .i64 0, .int .i8 0, .int .i8 lo, .int .i8 0] #[.int .i64 7, .int .i64 a, .int .i64 0, .int .i64 0, .int .i64 0, .int .i64 0, .int .i64 0, .int .i8 za, .int .i8 0, .slice none 0 0, .slice none 0 0, .int .i32 qm, .int .i64 qs, .int .i8 qz, .int .i32 0, .int .i64 0, .int .i8 0, .int .i8 lo, .int .i8 hi] BM8 (by simp) (by kernel_rfl) rfl ?_; intro w9 BM9 g9; have BN9 := (hS.2.2.2.1).away g9 (by omega); refine hK.out _ _ ⟨BN9.cell 7, BN9.cell 17, BN9.cell 18, BN9, (hS.2.2.2.2).grown g9 (hS.2.2.2.2).size (fun k h => by have := Option.some.inj h; omega)⟩ (fun hS => ?_))
  clear hK K
  try simp only [Act.put, List.getElem_toArray, List.getElem_cons_succ, List.getElem_cons_zero, List.setIfInBounds_toArray, List.set_cons_zero, List.set_cons_succ]
  refine wpAnyH_done (by kernel_rfl) ?_ _
  replace FR := Lib.hid (Far.mk (hS.2.2.2.2))
  replace BN := Lib.hid (hS.2.2.2.1)
  clear hS BN6 BN7 BN8 BN9
  replace HW := Lib.hid (HW.out.draw)
  replace HB := Lib.hid (HB.out.draw)
  replace BR := Lib.hid (BR.out.draw)
  replace HW := Lib.hid (HW.out.away g6 (by omega))
  replace HB := Lib.hid (HB.out.away g6 (by omega))
  replace BR := Lib.hid (BR.out.away g6 (by omega))
  clear g6
  replace HW := Lib.hid (HW.out.away g7 (by omega))
  replace HB := Lib.hid (HB.out.away g7 (by omega))
  replace BR := Lib.hid (BR.out.away g7 (by omega))
  clear g7
  replace HW := Lib.hid (HW.out.away g8 (by omega))
  replace HB := Lib.hid (HB.out.away g8 (by omega))
  replace BR := Lib.hid (BR.out.away g8 (by omega))
  clear g8
  replace HW := Lib.hid (HW.out.away g9 (by omega))
  replace HB := Lib.hid (HB.out.away g9 (by omega))
  replace BR := Lib.hid (BR.out.away g9 (by omega))
  clear g9
  clear BM6
  clear BM7
  clear BM8
  go_wp2_with (first
    | (refine wpList_load_row rfl 53 (.tmp 3) rfl w3.heap.size rfl _ _ (0, 0) _ BM9.heap Try.underlying53 rfl (by kernel_rfl) ?_)
    | (refine wpList_store_all rfl 53 (.tmp 2) (.tmp 95) rfl w1.heap.size #[.int .i64 7, .int .i64 a, .int .i64 0, .int .i64 0, .int .i64 0, .int .i64 0, .int .i64 0, .int .i8 za, .int .i8 0, .slice none 0 0, .slice none 0 0, .int .i32 qm, .int .i64 qs, .int .i8 qz, .int .i32 0, .int .i64 0, .int .i8 0, .int .i8 lo, .int .i8 hi] rfl rfl _ _ BR.out rfl (by kernel_rfl) (by simp [Value.oneCell']) ?_; intro wz BZ gz))
  replace FR := Lib.hid (FR.out.away gz (by have := lr0.out; omega))
  refine ret_cell rfl BZ rfl Try.underlying53 (by kernel_rfl) rfl ⟨none, 0, 0, none, 0, 0, rfl, Sl.nil _ _ _, Sl.nil _ _ _, FR.out.out⟩
end Go.Proofs.Ytlpejbopdmledaa
