/-
  A point's bytes (layer 37): the document's Put.
  Conditions: none.
-/
import Derived.Test.YtanglfmolnfjeaaChecked
import Derived.Test.YtanglfmolnfjeaaJ40
namespace Go.Proofs.Ytanglfmolnfjeaa
set_option linter.unusedVariables false
set_option linter.unusedSimpArgs false
open Go.RowKit Go.ChangeShapes Go.WideShapes
set_option maxRecDepth 100000
set_option maxHeartbeats 4000000

theorem rput37_int (base : Nat) (v : Value) (m : Nat) (l : List Int) (y : Int) (w : World) (own : Own (tInt .u8) w (fun _ => False) base 5 v m l) (hb : base ≤ w.heap.size) (hm : m ≤ 100000) (hy : 0 ≤ y ∧ y < 9223372036854775808) :
    Calls Try.prog 24 #[v, .int .i64 y] w fun e w' => ∃ v' m', e = .returned v' ∧ Own (tInt .u8) w' (fun _ => False) base 5 v' m' (l ++ lebV y.toNat) ∧ m' ≤ m + 10 ∧ Grew w v w' v' := by
  obtain ⟨k, rfl⟩ : ∃ k : Nat, y = (k : Int) := ⟨y.toNat, by omega⟩
  exact rput37_any base v m l k w own hb hm (by omega)
theorem Grew.far {w w' : World} {n c : Nat} {v' : Value} (h : Grew w (.slice none n c) w' v') : Below w.heap.size w w' := ⟨h.grown.os, h.grown.tape, h.grown.output, h.grown.size, fun k hk => h.grown.block k hk (by intro e; cases e)⟩

theorem rPut37_any (p : Pt) (A B : Option Addr) (n c m d : Nat) (w : World) (hs : Sl (tInt .i8) w (blo w.heap.size) A n c p.input.data) (hs' : Sl (tInt .i8) w (blo w.heap.size) B m d p.value.data) (hp : PtIn p) :
    Calls Try.prog 7 #[.agg (ptCells p A n c B m d)] w (RetB w (putV p)) := by
  have i4 := hp.input
  have i5 := hp.value
  have RI := Lib.hid (fun w => rtensorRight_any p.input.h p.input.v p.input.c A n c w i4.h i4.v i4.c (Nat.le_trans hs.cap_le hs.max_le))
  have RV := Lib.hid (fun w => rtensorRight_any p.value.h p.value.v p.value.c B m d w i5.h i5.v i5.c (Nat.le_trans hs'.cap_le hs'.max_le))
  have PV := Lib.hid (show putV p = if inV p.model 3 = true ∧ inV p.block 6 = true ∧ inV p.spent 1099511627776 = true then (if rightT p.input = true ∧ rightT p.value = true then (sealV (bodyV p), 0) else ([], 5)) else ([], 3) from rfl)
  have b4 := Lib.hid (show rightT p.input = decide (0 < elems p.input.h p.input.v p.input.c ∧ elems p.input.h p.input.v p.input.c = n) by rw [← hs.n_eq]; rfl)
  have b5 := Lib.hid (show rightT p.value = decide (0 < elems p.value.h p.value.v p.value.c ∧ elems p.value.h p.value.v p.value.c = m) by rw [← hs'.n_eq]; rfl)
  rw [← b4.out] at RI
  rw [← b5.out] at RV
  have H := Lib.hid hs
  have H' := Lib.hid hs'
  have i1 := hp.model
  have i2 := hp.block
  have i3 := hp.spent
  rw [inK_i64] at i1 i2 i3
  obtain ⟨r, hr⟩ : ∃ r, putV p = r := ⟨_, rfl⟩
  rw [hr] at PV ⊢
  obtain ⟨x4, hx4⟩ : ∃ x, rightT p.input = x := ⟨_, rfl⟩
  obtain ⟨x5, hx5⟩ : ∃ x, rightT p.value = x := ⟨_, rfl⟩
  rw [hx4] at RI PV
  rw [hx5] at RV PV
  have X4 := Lib.hid hx4
  have X5 := Lib.hid hx5
  have IP := Lib.hid hp
  clear b4 b5 hs hs' hr hx4 hx5 hp i4 i5
  obtain ⟨w1, hw1⟩ : ∃ x, w.alloc (.cells #[.int .i64 p.model, .int .i64 p.block, .int .i64 p.spent, .int .i64 p.input.h, .int .i64 p.input.v, .int .i64 p.input.c, .slice A n c, .int .i64 p.value.h, .int .i64 p.value.v, .int .i64 p.value.c, .slice B m d] 36) = x := ⟨_, rfl⟩
  have BB := Lib.hid (show Blk w1 w.heap.size 36 #[.int .i64 p.model, .int .i64 p.block, .int .i64 p.spent, .int .i64 p.input.h, .int .i64 p.input.v, .int .i64 p.input.c, .slice A n c, .int .i64 p.value.h, .int .i64 p.value.v, .int .i64 p.value.c, .slice B m d] by rw [← hw1]; exact Blk.now _ _ _ _ rfl)
  have FR := Lib.hid (show Far w w1 by rw [← hw1]; exact ⟨(Below.refl _ _).alloc (Nat.le_refl _) _⟩)
  have HW := Lib.hid hw1
  clear hw1
  unfold ptCells
  have cA := fun i => BB.out.cell i
  go_enter Try.func7, Try.ntmps7
  go_upto_region 1 with fail
  rw [HW.out]
  clear HW
  by_cases q0 : p.model < 0
  · have u0 : decide (p.model < 0) = true := by simp; omega
    rw [if_neg (by unfold inV; simp only [decide_eq_true_eq]; omega)] at PV
    go_wp2_with fail
    go_ret2
    rw [PV.out]
    exact RetB.none FR.out.out
  have u0 : decide (p.model < 0) = false := by simp; omega
  by_cases q1 : 3 < p.model
  · have u1 : decide (3 < p.model) = true := by simp; omega
    rw [if_neg (by unfold inV; simp only [decide_eq_true_eq]; omega)] at PV
    go_wp2_with fail
    go_ret2
    rw [PV.out]
    exact RetB.none FR.out.out
  have u1 : decide (3 < p.model) = false := by simp; omega
  by_cases q2 : p.block < 0
  · have u2 : decide (p.block < 0) = true := by simp; omega
    rw [if_neg (by unfold inV; simp only [decide_eq_true_eq]; omega)] at PV
    go_wp2_with fail
    go_ret2
    rw [PV.out]
    exact RetB.none FR.out.out
  have u2 : decide (p.block < 0) = false := by simp; omega
  by_cases q3 : 6 < p.block
  · have u3 : decide (6 < p.block) = true := by simp; omega
    rw [if_neg (by unfold inV; simp only [decide_eq_true_eq]; omega)] at PV
    go_wp2_with fail
    go_ret2
    rw [PV.out]
    exact RetB.none FR.out.out
  have u3 : decide (6 < p.block) = false := by simp; omega
  by_cases q4 : p.spent < 0
  · have u4 : decide (p.spent < 0) = true := by simp; omega
    rw [if_neg (by unfold inV; simp only [decide_eq_true_eq]; omega)] at PV
    go_wp2_with fail
    go_ret2
    rw [PV.out]
    exact RetB.none FR.out.out
  have u4 : decide (p.spent < 0) = false := by simp; omega
  by_cases q5 : 1099511627776 < p.spent
  · have u5 : decide (1099511627776 < p.spent) = true := by simp; omega
    rw [if_neg (by unfold inV; simp only [decide_eq_true_eq]; omega)] at PV
    go_wp2_with fail
    go_ret2
    rw [PV.out]
    exact RetB.none FR.out.out
  have u5 : decide (1099511627776 < p.spent) = false := by simp; omega
  rw [if_pos ⟨decide_eq_true (by omega), decide_eq_true (by omega), decide_eq_true (by omega)⟩] at PV
  go_wp2_with fail
  refine (RI.out _).mono ?_
  rintro e w2 ⟨rfl, hb⟩
  replace BB := Lib.hid (BB.out.fut hb)
  replace FR := Lib.hid (FR.out.fut hb)
  clear hb
  clear cA
  have cA := fun i => BB.out.cell i
  cases x4 with
  | false =>
    rw [if_neg (by simp)] at PV
    go_wp2_with fail
    go_ret2
    rw [PV.out]
    exact RetB.none FR.out.out
  | true =>
  go_wp2_with fail
  refine (RV.out _).mono ?_
  rintro e w3 ⟨rfl, hb⟩
  replace BB := Lib.hid (BB.out.fut hb)
  replace FR := Lib.hid (FR.out.fut hb)
  clear hb
  clear cA
  cases x5 with
  | false =>
    rw [if_neg (by simp)] at PV
    go_wp2_with fail
    go_ret2
    rw [PV.out]
    exact RetB.none FR.out.out
  | true =>
  rw [if_pos (by simp)] at PV
  obtain ⟨k1, k1', k2, k3, k4⟩ := rightT_spec X4.out
  obtain ⟨m1, m1', m2, m3, m4⟩ := rightT_spec X5.out
  rw [H.out.n_eq] at k1 k1'
  rw [H'.out.n_eq] at m1 m1'
  have LI := Lib.hid (fun (W : World) (u : Value) (q : Nat) (l : List Int) (own : Own (tInt .u8) W (fun _ => False) (w.heap.size + 1) 5 u q l) (hb : w.heap.size + 1 ≤ W.heap.size) (hq : q ≤ 50000) (hs : Sl (tInt .i8) W (blo w.heap.size) A n c p.input.data) => rlaid_any (w.heap.size + 1) u q l p.input A n c W own hb hq (hs.more (blo_more (Nat.le_succ _))) (by omega) k2 k3 k4 IP.out.input)
  have LJ := Lib.hid (fun (W : World) (u : Value) (q : Nat) (l : List Int) (own : Own (tInt .u8) W (fun _ => False) (w.heap.size + 1) 5 u q l) (hb : w.heap.size + 1 ≤ W.heap.size) (hq : q ≤ 50000) (hs : Sl (tInt .i8) W (blo w.heap.size) B m d p.value.data) => rlaid_any (w.heap.size + 1) u q l p.value B m d W own hb hq (hs.more (blo_more (Nat.le_succ _))) (by omega) m2 m3 m4 IP.out.value)
  have BV := Lib.hid (show bodyV p = (lebV p.model.toNat ++ lebV p.block.toNat ++ lebV p.spent.toNat ++ laidV p.input) ++ (if likeT p.input p.value = true then lebV 0 else lebV 1 ++ laidV p.value) by unfold bodyV; rw [numbersV3, numbersV1, numbersV1]; rfl)
  have d0 : 0 ≤ p.model ∧ p.model < 9223372036854775808 := by omega
  have d1 : 0 ≤ p.block ∧ p.block < 9223372036854775808 := by omega
  have d2 : 0 ≤ p.spent ∧ p.spent < 9223372036854775808 := by omega
  have D0 := Lib.hid d0
  have D1 := Lib.hid d1
  have D2 := Lib.hid d2
  have z0 : w.heap.size + 1 ≤ w3.heap.size := BB.out.lt
  have zb := BB.out.lt
  have q := BB.out.drew.cell
  have B3 := Lib.hid BB.out.drew
  clear k2 k3 k4 m2 m3 m4 d0 d1 d2 X4 X5 RI RV u0 u1 u2 u3 u4 u5 q0 q1 q2 q3 q4 q5 i1 i2 i3
  go_wp2_with fail
  refine wp_region_held_drew (S := fun w' => w'.cell? ⟨w.heap.size, 0, none⟩ = some (.int .i64 p.model) ∧ w'.cell? ⟨w.heap.size, 1, none⟩ = some (.int .i64 p.block) ∧ w'.cell? ⟨w.heap.size, 2, none⟩ = some (.int .i64 p.spent) ∧ Blk w' w.heap.size 36 #[.int .i64 p.model, .int .i64 p.block, .int .i64 p.spent, .int .i64 p.input.h, .int .i64 p.input.v, .int .i64 p.input.c, .slice A n c, .int .i64 p.value.h, .int .i64 p.value.v, .int .i64 p.value.c, .slice B m d] ∧ True) (by kernel_rfl) ?_ (fun hS => ?_)
  · exact ⟨q 0, q 1, q 2, BB.out.drew, trivial⟩
  refine wpAnyH_take (i := 0) (v := ?_) rfl (by as_aux_lemma => kernel_rfl) (by as_aux_lemma => kernel_rfl) (by as_aux_lemma => kernel_rfl) (fun _ _ _ h => h) (Or.inl ⟨by rfl, ?_⟩) hS ?_
  rotate_left
  · intro w hSw; (try dsimp only at hSw); go_simp; try with_reducible rfl
  try simp only [Act.put, List.getElem_toArray, List.getElem_cons_succ, List.getElem_cons_zero, List.setIfInBounds_toArray, List.set_cons_zero, List.set_cons_succ]
  refine wpAnyH_take (i := 1) (v := ?_) rfl (by as_aux_lemma => kernel_rfl) (by as_aux_lemma => kernel_rfl) (by as_aux_lemma => kernel_rfl) (fun _ _ _ h => h) (Or.inl ⟨by rfl, ?_⟩) hS ?_
  rotate_left
  · intro w hSw; (try dsimp only at hSw); go_simp; try with_reducible rfl
  try simp only [Act.put, List.getElem_toArray, List.getElem_cons_succ, List.getElem_cons_zero, List.setIfInBounds_toArray, List.set_cons_zero, List.set_cons_succ]
  refine wpAnyH_take (i := 3) (v := ?_) rfl (by as_aux_lemma => kernel_rfl) (by as_aux_lemma => kernel_rfl) (by as_aux_lemma => kernel_rfl) (fun _ _ _ h => h) (Or.inl ⟨by rfl, ?_⟩) hS ?_
  rotate_left
  · intro w hSw; (try dsimp only at hSw); go_simp; try with_reducible rfl
  try simp only [Act.put, List.getElem_toArray, List.getElem_cons_succ, List.getElem_cons_zero, List.setIfInBounds_toArray, List.set_cons_zero, List.set_cons_succ]
  refine wpAnyH_take (i := 4) (v := ?_) rfl (by as_aux_lemma => kernel_rfl) (by as_aux_lemma => kernel_rfl) (by as_aux_lemma => kernel_rfl) (fun _ _ _ h => h) (Or.inl ⟨by rfl, ?_⟩) hS ?_
  rotate_left
  · intro w hSw; (try dsimp only at hSw); go_simp; try with_reducible rfl
  try simp only [Act.put, List.getElem_toArray, List.getElem_cons_succ, List.getElem_cons_zero, List.setIfInBounds_toArray, List.set_cons_zero, List.set_cons_succ]
  refine wpAnyH_take (i := 6) (v := ?_) rfl (by as_aux_lemma => kernel_rfl) (by as_aux_lemma => kernel_rfl) (by as_aux_lemma => kernel_rfl) (fun _ _ _ h => h) (Or.inl ⟨by rfl, ?_⟩) hS ?_
  rotate_left
  · intro w hSw; (try dsimp only at hSw); go_simp; try with_reducible rfl
  try simp only [Act.put, List.getElem_toArray, List.getElem_cons_succ, List.getElem_cons_zero, List.setIfInBounds_toArray, List.set_cons_zero, List.set_cons_succ]
  refine wpAnyH_take (i := 7) (v := ?_) rfl (by as_aux_lemma => kernel_rfl) (by as_aux_lemma => kernel_rfl) (by as_aux_lemma => kernel_rfl) (fun _ _ _ h => h) (Or.inl ⟨by rfl, ?_⟩) hS ?_
  rotate_left
  · intro w hSw; (try dsimp only at hSw); go_simp; try with_reducible rfl
  try simp only [Act.put, List.getElem_toArray, List.getElem_cons_succ, List.getElem_cons_zero, List.setIfInBounds_toArray, List.set_cons_zero, List.set_cons_succ]
  refine wpAnyH_take (i := 9) (v := ?_) rfl (by as_aux_lemma => kernel_rfl) (by as_aux_lemma => kernel_rfl) (by as_aux_lemma => kernel_rfl) (fun _ _ _ h => h) (Or.inl ⟨by rfl, ?_⟩) hS ?_
  rotate_left
  · intro w hSw; (try dsimp only at hSw); go_simp; try with_reducible rfl
  try simp only [Act.put, List.getElem_toArray, List.getElem_cons_succ, List.getElem_cons_zero, List.setIfInBounds_toArray, List.set_cons_zero, List.set_cons_succ]
  refine wpAnyH_take (i := 10) rfl (by as_aux_lemma => kernel_rfl) (by as_aux_lemma => kernel_rfl) (by as_aux_lemma => kernel_rfl) (fun _ _ _ h => h) (yieldsIf_load_blk (by rfl) 26 (.tmp 52) rfl w.heap.size 3 rfl _ _ #[.int .i64 p.input.h, .int .i64 p.input.v, .int .i64 p.input.c, .slice A n c] _ (fun w hs => hs.2.2.2.1) Try.underlying26 rfl (by kernel_rfl) rfl) hS ?_
  try simp only [Act.put, List.getElem_toArray, List.getElem_cons_succ, List.getElem_cons_zero, List.setIfInBounds_toArray, List.set_cons_zero, List.set_cons_succ]
  refine wpAnyH_ready (rs := [2]) (by kernel_rfl) (by simp) ?_
  refine AllReadyH.cons rfl (fun K hK => ?_) AllReadyH.nil
  (go_simp; refine (rput37_int (w.heap.size + 1) (.slice none 0 0) 0 [] p.model _ (Own.nil _ _ _ _ _) (by simpa using z0) (by omega) D0.out).mono ?_; rintro e w4 ⟨v4, m4, rfl, own4, hm4, gr4⟩; have O4 := Lib.hid own4; have G4 := Lib.hid gr4; have z4 : w.heap.size + 1 ≤ w4.heap.size := Nat.le_trans z0 gr4.grown.size; have B4 := Lib.hid (gr4.blk B3.out (by intro e; cases e)); refine hK.out _ _ ⟨B4.out.cell 0, B4.out.cell 1, B4.out.cell 2, B4.out, trivial⟩ (fun hS => ?_))
  clear hK K
  try simp only [Act.put, List.getElem_toArray, List.getElem_cons_succ, List.getElem_cons_zero, List.setIfInBounds_toArray, List.set_cons_zero, List.set_cons_succ]
  refine wpAnyH_ready (rs := [5]) (by kernel_rfl) (by simp) ?_
  refine AllReadyH.cons rfl (fun K hK => ?_) AllReadyH.nil
  (go_simp; refine (rput37_int (w.heap.size + 1) v4 m4 _ p.block _ O4.out z4 (by omega) D1.out).mono ?_; rintro e w5 ⟨v5, m5, rfl, own5, hm5, gr5⟩; have O5 := Lib.hid own5; have G5 := Lib.hid (G4.out.trans gr5); have z5 : w.heap.size + 1 ≤ w5.heap.size := Nat.le_trans z4 gr5.grown.size; have B5 := Lib.hid (G5.out.blk B3.out (by intro e; cases e)); refine hK.out _ _ ⟨B5.out.cell 0, B5.out.cell 1, B5.out.cell 2, B5.out, trivial⟩ (fun hS => ?_))
  clear hK K
  try simp only [Act.put, List.getElem_toArray, List.getElem_cons_succ, List.getElem_cons_zero, List.setIfInBounds_toArray, List.set_cons_zero, List.set_cons_succ]
  refine wpAnyH_ready (rs := [8]) (by kernel_rfl) (by simp) ?_
  refine AllReadyH.cons rfl (fun K hK => ?_) AllReadyH.nil
  (go_simp; refine (rput37_int (w.heap.size + 1) v5 m5 _ p.spent _ O5.out z5 (by omega) D2.out).mono ?_; rintro e w6 ⟨v6, m6, rfl, own6, hm6, gr6⟩; have O6 := Lib.hid own6; have G6 := Lib.hid (G5.out.trans gr6); have z6 : w.heap.size + 1 ≤ w6.heap.size := Nat.le_trans z5 gr6.grown.size; have B6 := Lib.hid (G6.out.blk B3.out (by intro e; cases e)); refine hK.out _ _ ⟨B6.out.cell 0, B6.out.cell 1, B6.out.cell 2, B6.out, trivial⟩ (fun hS => ?_))
  clear hK K
  try simp only [Act.put, List.getElem_toArray, List.getElem_cons_succ, List.getElem_cons_zero, List.setIfInBounds_toArray, List.set_cons_zero, List.set_cons_succ]
  refine wpAnyH_ready (rs := [11]) (by kernel_rfl) (by simp) ?_
  refine AllReadyH.cons rfl (fun K hK => ?_) AllReadyH.nil
  (go_simp; have F6 := (FR.out.fut (Below.refl _ w3).drew).fut G6.out.far; refine (LI.out _ v6 m6 _ O6.out z6 (by omega) (H.out.below F6.out (fun _ h => h))).mono ?_; rintro e w7 ⟨v7, m7, rfl, own7, hm7, gr7⟩; have O7 := Lib.hid own7; have G7 := Lib.hid (G6.out.trans gr7); have z7 : w.heap.size + 1 ≤ w7.heap.size := Nat.le_trans z6 gr7.grown.size; have B7 := Lib.hid (G7.out.blk B3.out (by intro e; cases e)); refine hK.out _ _ ⟨B7.out.cell 0, B7.out.cell 1, B7.out.cell 2, B7.out, trivial⟩ (fun hS => ?_))
  clear hK K
  try simp only [Act.put, List.getElem_toArray, List.getElem_cons_succ, List.getElem_cons_zero, List.setIfInBounds_toArray, List.set_cons_zero, List.set_cons_succ]
  refine wpAnyH_take (i := 12) (v := ?_) rfl (by as_aux_lemma => kernel_rfl) (by as_aux_lemma => kernel_rfl) (by as_aux_lemma => kernel_rfl) (fun _ _ _ h => h) (Or.inl ⟨by rfl, ?_⟩) hS ?_
  rotate_left
  · intro w hSw; (try dsimp only at hSw); go_simp; try with_reducible rfl
  try simp only [Act.put, List.getElem_toArray, List.getElem_cons_succ, List.getElem_cons_zero, List.setIfInBounds_toArray, List.set_cons_zero, List.set_cons_succ]
  refine wpAnyH_done (by kernel_rfl) ?_ _
  have F7 := Lib.hid ((FR.out.fut (Below.refl _ w3).drew).fut G7.out.far)
  rw [List.nil_append] at O7
  have hm7' : m7 ≤ 5000 := by omega
  clear hS q O4 O5 O6 B4 B5 B6 B3 G4 G5 G6 G7 gr4 gr5 gr6 gr7 own4 own5 own6 own7 BB FR hm4 hm5 hm6 hm7 LI
  have cA := fun i => B7.out.cell i
  go_wp2_with fail
  refine (same05_any p.input p.value A B n c m d w7 (H.out.later F7.out.out (Nat.le_refl _)) (H'.out.later F7.out.out (Nat.le_refl _))).mono ?_
  rintro e w8 ⟨rfl, hb⟩
  replace F7 := Lib.hid (F7.out.fut hb)
  replace B7 := Lib.hid (B7.out.fut hb)
  replace O7 := Lib.hid (O7.out.below hb (Nat.le_refl _) (fun _ h => h.elim))
  have z8 : w.heap.size + 1 ≤ w8.heap.size := Nat.le_trans z7 hb.size
  clear hb cA
  cases hl : likeT p.input p.value with
  | true =>
    rw [hl, if_pos rfl] at BV
    clear hl
    go_wp2_with fail
    refine (rput37_int (w.heap.size + 1) v7 m7 _ 0 _ O7.out z8 (by omega) (by omega)).mono ?_
    rintro e w9 ⟨v9, m9, rfl, own9, hm9, gr9⟩
    have F9 := Lib.hid (show Far w w9 from ⟨F7.out.out.grown gr9.grown F7.out.size (fun k h => Nat.le_of_succ_le (O7.out.lt k h).1)⟩)
    rw [Int.toNat_zero, ← BV.out] at own9
    have O9 := Lib.hid own9
    clear own9 gr9 O7 F7 B7
    go_wp2_with fail
    obtain ⟨A9, c9, rfl, sl9⟩ := O9.out.sl (S' := blo w9.heap.size) (by decide) (fun b h1 h2 => h2) (fun _ h => h.elim)
    have S9 := Lib.hid sl9
    clear sl9 O9
    go_wp2_with fail
    refine (seal_any A9 m9 c9 _ w9 S9.out (by omega)).mono ?_
    rintro e wa ⟨Aa, na, ca, rfl, hsa, hb⟩
    have SA := Lib.hid (hsa.more (bin_more F9.out.size (Nat.le_refl _)))
    have FA := Lib.hid (F9.out.fut hb)
    clear hsa hb S9 F9
    go_wp2_with fail
    go_ret2
    rw [PV.out]
    exact ⟨⟨Aa, na, ca, rfl, SA.out⟩, FA.out.out⟩
  | false =>
    rw [hl, if_neg (by decide), ← List.append_assoc] at BV
    clear hl
    have B8 := Lib.hid B7.out.drew
    have O8 := Lib.hid (O7.out.heap (w' := w8.drew) rfl)
    have ne0 := Lib.hid (show some w.heap.size ≠ v7.ownBlock from fun e => absurd (O7.out.lt _ e.symm).1 (by omega))
    go_wp2_with fail
    refine wp_region_held_drew (S := fun w' => Blk w' w.heap.size 36 #[.int .i64 p.model, .int .i64 p.block, .int .i64 p.spent, .int .i64 p.input.h, .int .i64 p.input.v, .int .i64 p.input.c, .slice A n c, .int .i64 p.value.h, .int .i64 p.value.v, .int .i64 p.value.c, .slice B m d] ∧ True) (by kernel_rfl) ?_ (fun hS => ?_)
    · exact ⟨B7.out.drew, trivial⟩
    refine wpAnyH_take (i := 0) (v := ?_) rfl (by as_aux_lemma => kernel_rfl) (by as_aux_lemma => kernel_rfl) (by as_aux_lemma => kernel_rfl) (fun _ _ _ h => h) (Or.inl ⟨by rfl, ?_⟩) hS ?_
    rotate_left
    · intro w hSw; (try dsimp only at hSw); go_simp; try with_reducible rfl
    try simp only [Act.put, List.getElem_toArray, List.getElem_cons_succ, List.getElem_cons_zero, List.setIfInBounds_toArray, List.set_cons_zero, List.set_cons_succ]
    refine wpAnyH_take (i := 2) (v := ?_) rfl (by as_aux_lemma => kernel_rfl) (by as_aux_lemma => kernel_rfl) (by as_aux_lemma => kernel_rfl) (fun _ _ _ h => h) (Or.inl ⟨by rfl, ?_⟩) hS ?_
    rotate_left
    · intro w hSw; (try dsimp only at hSw); go_simp; try with_reducible rfl
    try simp only [Act.put, List.getElem_toArray, List.getElem_cons_succ, List.getElem_cons_zero, List.setIfInBounds_toArray, List.set_cons_zero, List.set_cons_succ]
    refine wpAnyH_take (i := 3) rfl (by as_aux_lemma => kernel_rfl) (by as_aux_lemma => kernel_rfl) (by as_aux_lemma => kernel_rfl) (fun _ _ _ h => h) (yieldsIf_load_blk (by rfl) 26 (.tmp 64) rfl w.heap.size 7 rfl _ _ #[.int .i64 p.value.h, .int .i64 p.value.v, .int .i64 p.value.c, .slice B m d] _ (fun w hs => hs.1) Try.underlying26 rfl (by kernel_rfl) rfl) hS ?_
    try simp only [Act.put, List.getElem_toArray, List.getElem_cons_succ, List.getElem_cons_zero, List.setIfInBounds_toArray, List.set_cons_zero, List.set_cons_succ]
    refine wpAnyH_ready (rs := [1]) (by kernel_rfl) (by simp) ?_
    refine AllReadyH.cons rfl (fun K hK => ?_) AllReadyH.nil
    (go_simp; refine (rput37_int (w.heap.size + 1) v7 m7 _ 1 _ O8.out (by simpa using z8) (by omega) (by omega)).mono ?_; rintro e wx ⟨vx, mx, rfl, ownx, hmx, grx⟩; have OX := Lib.hid ownx; have FX := Lib.hid (show Far w wx from ⟨(F7.out.fut (Below.refl _ w8).drew).out.grown grx.grown F7.out.size (fun k h => Nat.le_of_succ_le (O8.out.lt k h).1)⟩); have zx : w.heap.size + 1 ≤ wx.heap.size := Nat.le_trans z8 grx.grown.size; refine hK.out _ _ ⟨grx.blk B8.out ne0.out, trivial⟩ (fun hS => ?_))
    clear hK K
    try simp only [Act.put, List.getElem_toArray, List.getElem_cons_succ, List.getElem_cons_zero, List.setIfInBounds_toArray, List.set_cons_zero, List.set_cons_succ]
    refine wpAnyH_ready (rs := [4]) (by kernel_rfl) (by simp) ?_
    refine AllReadyH.cons rfl (fun K hK => ?_) AllReadyH.nil
    (go_simp; refine (LJ.out _ vx mx _ OX.out zx (by omega) (H'.out.below FX.out.out (fun _ h => h))).mono ?_; rintro e w9 ⟨v9, m9, rfl, own9, hm9, gr9⟩; have F9 := Lib.hid (show Far w w9 from ⟨FX.out.out.grown gr9.grown FX.out.size (fun k h => Nat.le_of_succ_le (OX.out.lt k h).1)⟩); refine hK.out _ _ ⟨(grx.trans gr9).blk B8.out ne0.out, trivial⟩ (fun hS => ?_))
    clear hK K
    try simp only [Act.put, List.getElem_toArray, List.getElem_cons_succ, List.getElem_cons_zero, List.setIfInBounds_toArray, List.set_cons_zero, List.set_cons_succ]
    refine wpAnyH_take (i := 5) (v := ?_) rfl (by as_aux_lemma => kernel_rfl) (by as_aux_lemma => kernel_rfl) (by as_aux_lemma => kernel_rfl) (fun _ _ _ h => h) (Or.inl ⟨by rfl, ?_⟩) hS ?_
    rotate_left
    · intro w hSw; (try dsimp only at hSw); go_simp; try with_reducible rfl
    try simp only [Act.put, List.getElem_toArray, List.getElem_cons_succ, List.getElem_cons_zero, List.setIfInBounds_toArray, List.set_cons_zero, List.set_cons_succ]
    refine wpAnyH_done (by kernel_rfl) ?_ _
    rw [show ((1 : Int).toNat) = 1 from rfl, ← BV.out] at own9
    have O9 := Lib.hid own9
    clear own9 gr9 grx ownx O7 F7 B7 O8 B8 OX FX hS
    go_wp2_with fail
    obtain ⟨A9, c9, rfl, sl9⟩ := O9.out.sl (S' := blo w9.heap.size) (by decide) (fun b h1 h2 => h2) (fun _ h => h.elim)
    have S9 := Lib.hid sl9
    clear sl9 O9
    go_wp2_with fail
    refine (seal_any A9 m9 c9 _ w9 S9.out (by omega)).mono ?_
    rintro e wa ⟨Aa, na, ca, rfl, hsa, hb⟩
    have SA := Lib.hid (hsa.more (bin_more F9.out.size (Nat.le_refl _)))
    have FA := Lib.hid (F9.out.fut hb)
    clear hsa hb S9 F9
    go_wp2_with fail
    go_ret2
    rw [PV.out]
    exact ⟨⟨Aa, na, ca, rfl, SA.out⟩, FA.out.out⟩
end Go.Proofs.Ytanglfmolnfjeaa
