/-
  A point's bytes (layer 37): the document's laid, Seal.
  Conditions: the row is the caller's own; a tensor with at most 10000 numbers, its sides not below zero; at most 50000 bytes.
-/
import Derived.Test.YtanglfmolnfjeaaChecked
import Derived.Test.YtanglfmolnfjeaaJ39
import Derived.Test.YtanglfmolnfjeaaJ31
namespace Go.Proofs.Ytanglfmolnfjeaa
set_option linter.unusedVariables false
set_option linter.unusedSimpArgs false
open Go.RowKit Go.ChangeShapes Go.WideShapes
set_option maxRecDepth 100000
set_option maxHeartbeats 4000000

theorem numbersV3 (a b c : Int) : numbersV [a, b, c] = lebV a.toNat ++ lebV b.toNat ++ lebV c.toNat := by
  show lebV a.toNat ++ (lebV b.toNat ++ (lebV c.toNat ++ [])) = _
  rw [List.append_nil, List.append_assoc]
theorem numbersV1 (a : Int) : numbersV [a] = lebV a.toNat := by
  show lebV a.toNat ++ [] = _
  rw [List.append_nil]

theorem Grew.sl {α : Type} {t : Ty α} {w w' : World} {v v' : Value} {base : Nat} {A : Option Addr} {n c : Nat} {l : List α} (g : Grew w v w' v') (hv : ∀ k, v.ownBlock = some k → base ≤ k) (hb : base ≤ w.heap.size) (h : Sl t w (blo base) A n c l) : Sl t w' (blo base) A n c l :=
  h.keep fun b hs => g.grown.block b (Nat.lt_of_lt_of_le hs hb) fun e => by have := hv b e.symm; have : b < base := hs; omega
theorem Grew.blk {w w' : World} {v v' : Value} {g : Nat} {e : TypeId} {cs : Array Value} (h : Grew w v w' v') (hb : Blk w g e cs) (hne : some g ≠ v.ownBlock) : Blk w' g e cs := hb.row h.grown hne

theorem rlaid_any (base : Nat) (u : Value) (m : Nat) (l : List Int) (t : Tensor) (A : Option Addr) (n c : Nat) (w : World) (own : Own (tInt .u8) w (fun _ => False) base 5 u m l) (hb : base ≤ w.heap.size) (hm : m ≤ 50000)
    (hs : Sl (tInt .i8) w (blo base) A n c t.data) (hn : n ≤ 10000) (p0 : 0 ≤ t.h) (p1 : 0 ≤ t.v) (p2 : 0 ≤ t.c) (ti : TensorIn t) :
    Calls Try.prog 23 #[u, .agg #[.int .i64 t.h, .int .i64 t.v, .int .i64 t.c, .slice A n c]] w fun e w' => ∃ v' m', e = .returned v' ∧ Own (tInt .u8) w' (fun _ => False) base 5 v' m' (l ++ laidV t) ∧ m' ≤ m + 30 + n ∧ Grew w u w' v' := by
  have H := Lib.hid hs
  have OV := Lib.hid (fun k (e : u.ownBlock = some k) => own.lt k e)
  have LV := Lib.hid (show l ++ laidV t = l ++ lebV t.h.toNat ++ lebV t.v.toNat ++ lebV t.c.toNat ++ octV t.data by unfold laidV; rw [numbersV3]; simp only [List.append_assoc])
  have OL := Lib.hid (octV_length t.data)
  have HN := Lib.hid hs.n_eq
  have b0 := ti.h
  have b1 := ti.v
  have b2 := ti.c
  obtain ⟨h, v, cc, dl⟩ := t
  simp only at H OL HN LV p0 p1 p2 b0 b1 b2 ⊢
  rw [LV.out]
  rw [inK_i64] at b0 b1 b2
  obtain ⟨y0, rfl⟩ : ∃ y : Nat, h = (y : Int) := ⟨h.toNat, by omega⟩
  obtain ⟨y1, rfl⟩ : ∃ y : Nat, v = (y : Int) := ⟨v.toNat, by omega⟩
  obtain ⟨y2, rfl⟩ : ∃ y : Nat, cc = (y : Int) := ⟨cc.toNat, by omega⟩
  simp only [Int.toNat_natCast]
  have d0 : y0 < 9223372036854775808 := by omega
  have d1 : y1 < 9223372036854775808 := by omega
  have d2 : y2 < 9223372036854775808 := by omega
  have ON := Lib.hid own
  clear own hs LV p0 p1 p2 ti b0 b1 b2
  go_enter Try.func23, Try.ntmps23
  go_wp2_with fail
  obtain ⟨w1, hw1⟩ : ∃ x, w.alloc (.cells #[.int .i64 y0, .int .i64 y1, .int .i64 y2, .slice A n c] 26) = x := ⟨_, rfl⟩
  have kb : Below w.heap.size w w1 := by rw [← hw1]; exact (Below.refl _ _).alloc (Nat.le_refl _) _
  have BT := Lib.hid (show Blk w1 w.heap.size 26 #[.int .i64 y0, .int .i64 y1, .int .i64 y2, .slice A n c] by rw [← hw1]; exact Blk.now _ _ _ _ rfl)
  rw [hw1]
  clear hw1
  have O1 := Lib.hid (ON.out.below kb (Nat.le_refl _) (fun _ h => h.elim))
  have G1 := Lib.hid (((Grew.refl w u).below kb).below (Below.refl _ w1).drew)
  have ne0 := Lib.hid (show some w.heap.size ≠ u.ownBlock from fun e => absurd (OV.out _ e.symm).2 (Nat.lt_irrefl _))
  have hb1 : base ≤ w1.heap.size := Nat.le_trans hb kb.size
  have O2 := Lib.hid (O1.out.heap (w' := w1.drew) rfl)
  have B2 := Lib.hid BT.out.drew
  have q := BT.out.drew.cell
  clear kb ON O1 BT
  refine wp_region_held_drew (S := fun w' => w'.cell? ⟨w.heap.size, 0, none⟩ = some (.int .i64 y0) ∧ w'.cell? ⟨w.heap.size, 1, none⟩ = some (.int .i64 y1) ∧ w'.cell? ⟨w.heap.size, 2, none⟩ = some (.int .i64 y2) ∧ w'.cell? ⟨w.heap.size, 3, none⟩ = some (.slice A n c) ∧ True) (by kernel_rfl) ?_ (fun hS => ?_)
  · exact ⟨q 0, q 1, q 2, q 3, trivial⟩
  refine wpAnyH_take (i := 0) (v := ?_) rfl (by as_aux_lemma => kernel_rfl) (by as_aux_lemma => kernel_rfl) (by as_aux_lemma => kernel_rfl) (fun _ _ _ h => h) (Or.inl ⟨by rfl, ?_⟩) hS ?_
  rotate_left
  · intro w hSw; (try dsimp only at hSw); go_simp; try with_reducible rfl
  try simp only [Act.put, List.getElem_toArray, List.getElem_cons_succ, List.getElem_cons_zero, List.setIfInBounds_toArray, List.set_cons_zero, List.set_cons_succ]
  refine wpAnyH_take (i := 1) (v := ?_) rfl (by as_aux_lemma => kernel_rfl) (by as_aux_lemma => kernel_rfl) (by as_aux_lemma => kernel_rfl) (fun _ _ _ h => h) (Or.inl ⟨by rfl, ?_⟩) hS ?_
  rotate_left
  · intro w hSw; (try dsimp only at hSw); go_simp; try with_reducible rfl
  try simp only [Act.put, List.getElem_toArray, List.getElem_cons_succ, List.getElem_cons_zero, List.setIfInBounds_toArray, List.set_cons_zero, List.set_cons_succ]
  refine wpAnyH_take (i := 2) (v := ?_) rfl (by as_aux_lemma => kernel_rfl) (by as_aux_lemma => kernel_rfl) (by as_aux_lemma => kernel_rfl) (fun _ _ _ h => h) (Or.inl ⟨by rfl, ?_⟩) hS ?_
  rotate_left
  · intro w hSw; (try dsimp only at hSw); go_simp; try with_reducible rfl
  try simp only [Act.put, List.getElem_toArray, List.getElem_cons_succ, List.getElem_cons_zero, List.setIfInBounds_toArray, List.set_cons_zero, List.set_cons_succ]
  refine wpAnyH_take (i := 3) (v := ?_) rfl (by as_aux_lemma => kernel_rfl) (by as_aux_lemma => kernel_rfl) (by as_aux_lemma => kernel_rfl) (fun _ _ _ h => h) (Or.inl ⟨by rfl, ?_⟩) hS ?_
  rotate_left
  · intro w hSw; (try dsimp only at hSw); go_simp; try with_reducible rfl
  try simp only [Act.put, List.getElem_toArray, List.getElem_cons_succ, List.getElem_cons_zero, List.setIfInBounds_toArray, List.set_cons_zero, List.set_cons_succ]
  refine wpAnyH_take (i := 5) (v := ?_) rfl (by as_aux_lemma => kernel_rfl) (by as_aux_lemma => kernel_rfl) (by as_aux_lemma => kernel_rfl) (fun _ _ _ h => h) (Or.inl ⟨by rfl, ?_⟩) hS ?_
  rotate_left
  · intro w hSw; (try dsimp only at hSw); go_simp; try with_reducible rfl
  try simp only [Act.put, List.getElem_toArray, List.getElem_cons_succ, List.getElem_cons_zero, List.setIfInBounds_toArray, List.set_cons_zero, List.set_cons_succ]
  refine wpAnyH_take (i := 6) (v := ?_) rfl (by as_aux_lemma => kernel_rfl) (by as_aux_lemma => kernel_rfl) (by as_aux_lemma => kernel_rfl) (fun _ _ _ h => h) (Or.inl ⟨by rfl, ?_⟩) hS ?_
  rotate_left
  · intro w hSw; (try dsimp only at hSw); go_simp; try with_reducible rfl
  try simp only [Act.put, List.getElem_toArray, List.getElem_cons_succ, List.getElem_cons_zero, List.setIfInBounds_toArray, List.set_cons_zero, List.set_cons_succ]
  refine wpAnyH_take (i := 7) (v := ?_) rfl (by as_aux_lemma => kernel_rfl) (by as_aux_lemma => kernel_rfl) (by as_aux_lemma => kernel_rfl) (fun _ _ _ h => h) (Or.inl ⟨by rfl, ?_⟩) hS ?_
  rotate_left
  · intro w hSw; (try dsimp only at hSw); go_simp; try with_reducible rfl
  try simp only [Act.put, List.getElem_toArray, List.getElem_cons_succ, List.getElem_cons_zero, List.setIfInBounds_toArray, List.set_cons_zero, List.set_cons_succ]
  refine wpAnyH_take (i := 9) (v := ?_) rfl (by as_aux_lemma => kernel_rfl) (by as_aux_lemma => kernel_rfl) (by as_aux_lemma => kernel_rfl) (fun _ _ _ h => h) (Or.inl ⟨by rfl, ?_⟩) hS ?_
  rotate_left
  · intro w hSw; (try dsimp only at hSw); go_simp; try with_reducible rfl
  try simp only [Act.put, List.getElem_toArray, List.getElem_cons_succ, List.getElem_cons_zero, List.setIfInBounds_toArray, List.set_cons_zero, List.set_cons_succ]
  refine wpAnyH_take (i := 10) (v := ?_) rfl (by as_aux_lemma => kernel_rfl) (by as_aux_lemma => kernel_rfl) (by as_aux_lemma => kernel_rfl) (fun _ _ _ h => h) (Or.inl ⟨by rfl, ?_⟩) hS ?_
  rotate_left
  · intro w hSw; (try dsimp only at hSw); go_simp; try with_reducible rfl
  try simp only [Act.put, List.getElem_toArray, List.getElem_cons_succ, List.getElem_cons_zero, List.setIfInBounds_toArray, List.set_cons_zero, List.set_cons_succ]
  refine wpAnyH_take (i := 11) (v := ?_) rfl (by as_aux_lemma => kernel_rfl) (by as_aux_lemma => kernel_rfl) (by as_aux_lemma => kernel_rfl) (fun _ _ _ h => h) (Or.inl ⟨by rfl, ?_⟩) hS ?_
  rotate_left
  · intro w hSw; (try dsimp only at hSw); go_simp; try with_reducible rfl
  try simp only [Act.put, List.getElem_toArray, List.getElem_cons_succ, List.getElem_cons_zero, List.setIfInBounds_toArray, List.set_cons_zero, List.set_cons_succ]
  refine wpAnyH_ready (rs := [4]) (by kernel_rfl) (by simp) ?_
  refine AllReadyH.cons rfl (fun K hK => ?_) AllReadyH.nil
  (go_simp; refine (rput37_any base u m l y0 _ O2.out (by simpa using hb1) (by omega) d0).mono ?_; rintro e w3 ⟨v3, m3, rfl, own3, hm3, gr3⟩; have O3 := Lib.hid own3; have G3 := Lib.hid ((Grew.trans ⟨G1.out.grown, .inl rfl⟩ gr3)); have B3 := Lib.hid (gr3.blk B2.out ne0.out); have z3 : base ≤ w3.heap.size := Nat.le_trans hb1 gr3.grown.size; refine hK.out _ _ ⟨B3.out.cell 0, B3.out.cell 1, B3.out.cell 2, B3.out.cell 3, trivial⟩ (fun hS => ?_))
  clear hK K
  try simp only [Act.put, List.getElem_toArray, List.getElem_cons_succ, List.getElem_cons_zero, List.setIfInBounds_toArray, List.set_cons_zero, List.set_cons_succ]
  refine wpAnyH_ready (rs := [8]) (by kernel_rfl) (by simp) ?_
  refine AllReadyH.cons rfl (fun K hK => ?_) AllReadyH.nil
  (go_simp; refine (rput37_any base v3 m3 _ y1 _ O3.out z3 (by omega) d1).mono ?_; rintro e w4 ⟨v4, m4, rfl, own4, hm4, gr4⟩; have O4 := Lib.hid own4; have G4 := Lib.hid (G3.out.trans gr4); have z4 : base ≤ w4.heap.size := Nat.le_trans z3 gr4.grown.size; have B4 := Lib.hid ((Grew.trans gr3 gr4).blk B2.out ne0.out); refine hK.out _ _ ⟨B4.out.cell 0, B4.out.cell 1, B4.out.cell 2, B4.out.cell 3, trivial⟩ (fun hS => ?_))
  clear hK K
  try simp only [Act.put, List.getElem_toArray, List.getElem_cons_succ, List.getElem_cons_zero, List.setIfInBounds_toArray, List.set_cons_zero, List.set_cons_succ]
  refine wpAnyH_ready (rs := [12]) (by kernel_rfl) (by simp) ?_
  refine AllReadyH.cons rfl (fun K hK => ?_) AllReadyH.nil
  (go_simp; refine (rput37_any base v4 m4 _ y2 _ O4.out z4 (by omega) d2).mono ?_; rintro e w5 ⟨v5, m5, rfl, own5, hm5, gr5⟩; have O5 := Lib.hid own5; have G5 := Lib.hid (G4.out.trans gr5); have z5 : base ≤ w5.heap.size := Nat.le_trans z4 gr5.grown.size; have B5 := Lib.hid ((Grew.trans (Grew.trans gr3 gr4) gr5).blk B2.out ne0.out); refine hK.out _ _ ⟨B5.out.cell 0, B5.out.cell 1, B5.out.cell 2, B5.out.cell 3, trivial⟩ (fun hS => ?_))
  clear hK K
  try simp only [Act.put, List.getElem_toArray, List.getElem_cons_succ, List.getElem_cons_zero, List.setIfInBounds_toArray, List.set_cons_zero, List.set_cons_succ]
  refine wpAnyH_take (i := 13) (v := ?_) rfl (by as_aux_lemma => kernel_rfl) (by as_aux_lemma => kernel_rfl) (by as_aux_lemma => kernel_rfl) (fun _ _ _ h => h) (Or.inl ⟨by rfl, ?_⟩) hS ?_
  rotate_left
  · intro w hSw; (try dsimp only at hSw); go_simp; try with_reducible rfl
  try simp only [Act.put, List.getElem_toArray, List.getElem_cons_succ, List.getElem_cons_zero, List.setIfInBounds_toArray, List.set_cons_zero, List.set_cons_succ]
  refine wpAnyH_done (by kernel_rfl) ?_ _
  have c3 := B5.out.cell 3
  have HS := Lib.hid ((G5.out.sl (fun k e => (OV.out k e).1) hb H.out).more (S' := blo w5.heap.size) (fun b h => Nat.lt_of_lt_of_le h z5))
  clear hS q O2 O3 O4 B2 B3 B4 G1 G3 G4 gr3 gr4 gr5 own3 own4 own5
  go_wp2_with fail
  refine (roctSmall_any A n c dl w5 HS.out (by omega)).mono ?_
  rintro e w6 ⟨A6, n6, c6, rfl, hs6, hb6⟩
  have S6 := Lib.hid hs6
  have O6 := Lib.hid (O5.out.below hb6 (Nat.le_refl _) (fun _ h => h.elim))
  have G6 := Lib.hid (G5.out.below hb6)
  have z6 : base ≤ w6.heap.size := Nat.le_trans z5 hb6.size
  have hn6 : n6 ≤ n := by rw [← hs6.n_eq, OL.out, HN.out]; exact Nat.le_refl _
  clear hs6 hb6 c3 O5 G5 B5
  go_wp2_with (at_builtin; refine wpList_extend rfl (.tmp 18) (.tmp 21) rfl ei_u8 rfl O6.out rfl S6.out (by unfold maxLen; omega) (by omega) z6 ?_; intro v7 w7 own7 g7 at7)
  go_ret
  exact ⟨v7, m5 + n6, rfl, own7, by omega, G6.out.push g7 at7⟩

theorem Own.empty {α : Type} (t : Ty α) (w : World) (S : Nat → Prop) (E : TypeId) : Own t (w.alloc (.cells #[] E)) S w.heap.size E (.slice (some ⟨w.heap.size, 0, none⟩) 0 0) 0 ([] : List α) :=
  ⟨[], ⟨by simp, .inr ⟨w.heap.size, 0, #[], rfl, Nat.le_refl _, heap_now _ _ _ rfl, Nat.le_refl _, Nat.zero_le _, by simp, by simp⟩⟩, rfl⟩

theorem seal_any (A : Option Addr) (n cap : Nat) (l : List Int) (w : World) (hs : Sl (tInt .u8) w (blo w.heap.size) A n cap l) (hn : n ≤ 100000) :
    Calls Try.prog 10 #[.slice A n cap] w (RetSl (tInt .u8) w (sealV l)) := by
  have H := Lib.hid hs
  have SV := Lib.hid (show sealV l = l ++ put32V (crcV l).toNat from rfl)
  rw [SV.out]
  clear hs SV
  go_enter Try.func10, Try.ntmps10
  have k0 : Below w.heap.size w (w.alloc (.cells #[] 5)) := (Below.refl _ _).alloc (Nat.le_refl _) _
  have H0 := Lib.hid (H.out.later k0 (Nat.le_refl _))
  have O0 := Lib.hid (Own.empty (tInt .u8) w (fun _ => False) 5)
  have K0 := Lib.hid k0
  have z0 := k0.size
  clear k0
  go_wp2_with (at_builtin; refine wpList_extend (base := w.heap.size) rfl (.tmp 4) (.tmp 5) rfl ei_u8 rfl O0.out rfl H0.out (by unfold maxLen; omega) (by omega) z0 ?_; intro v1 w1 own1 g1 at1)
  have F1 := Lib.hid (show Far w w1 from ⟨K0.out.grown g1 z0 (fun k h => by have := (O0.out.lt k h).1; omega)⟩)
  have O1 := Lib.hid own1
  have z1 := F1.out.size
  rw [List.nil_append, Nat.zero_add] at O1
  clear own1 g1 at1 O0 K0 H0 z0
  refine (rcrcOf_any A n cap l w1 (H.out.later F1.out.out (Nat.le_refl _))).mono ?_
  rintro e w2 ⟨rfl, rfl⟩
  go_wp2_with fail
  refine (rput32_any (crcV l).toNat _ (crcV l).isLt).mono ?_
  rintro e w3 ⟨A3, n3, c3, rfl, hs3, hb⟩
  have S3 := Lib.hid hs3
  have O3 := Lib.hid (O1.out.below hb (Nat.le_refl _) (fun _ h => h.elim))
  have F3 := Lib.hid (F1.out.fut hb)
  have hn3 : n3 ≤ 4 := by rw [← hs3.n_eq]; simp [put32V]
  have z3 := F3.out.size
  clear hs3 hb O1 F1 z1
  go_wp2_with (at_builtin; refine wpList_extend rfl (.tmp 7) (.tmp 10) rfl ei_u8 rfl O3.out rfl S3.out (by unfold maxLen; omega) (by omega) z3 ?_; intro v4 w4 own4 g4 at4)
  have F4 := F3.out.out.grown g4 z3 (fun k h => (O3.out.lt k h).1)
  go_ret
  exact own4.ret (by decide) F4 (fun _ h => h.elim)
end Go.Proofs.Ytanglfmolnfjeaa
