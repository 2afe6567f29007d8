/-
  store.Cancel (layer 42).
  Conditions: fewer than 2^39 requests.
-/
import Derived.Test.YtcppkpcbfadapaaGreatChecked
import Derived.Test.YtcppkpcbfadapaaGreatStoreL
namespace Go.Proofs.YtcppkpcbfadapaaGreat
set_option linter.unusedVariables false
set_option linter.unusedSimpArgs false
open Go.RowKit Go.ChangeShapes Go.WideShapes
set_option maxRecDepth 100000
set_option maxHeartbeats 2000000

theorem storeCancel_any (g b : Nat) (m : Int) (rs : List Req) (id : Int) (w : World) (h : StoreAt w g b m rs) (hid : InK .i64 id) (hk : rs.length < 549755813888) :
    Calls Tryz.prog 32 #[.pointer (some ⟨g, 0, none⟩), .int .i64 id] w (Did g b m (cancelOp rs id) w) := by
  have H := Lib.hid h
  clear h
  obtain ⟨oc, hoc⟩ : ∃ oc, openCode rs id = oc := ⟨_, rfl⟩
  obtain ⟨x, hx⟩ : ∃ x, cancelOp rs id = x := ⟨_, rfl⟩
  have N := Lib.hid (storeOpen_any g b m rs id w w H.out (Below.refl _ _) hid)
  rw [hoc] at N
  rw [hx]
  unfold openCode at hoc
  unfold cancelOp at hx
  go_enter Tryz.func32, Tryz.ntmps32
  go_wp2_with fail
  refine N.out.mono ?_
  rintro e w1 ⟨r, A, n, c, B, q, d, L, nl, cl, rfl, hr, hs, b1⟩
  have HS := Lib.hid hs
  have B1 := Lib.hid b1
  clear N hs b1
  by_cases h0 : oc = 0
  · have hr1 := hr h0
    clear hr
    rw [hr1] at hoc hx
    replace hoc : (if r.state = 1 ∨ r.state = 2 then (0 : Int) else 33) = oc := hoc
    subst h0
    obtain ⟨i, rfl, hi, hri⟩ := reqOf_some hr1
    clear hr1
    have hi2 : ((i : Int) + 1 - 1).toNat = i := by omega
    have h12 : r.state = 1 ∨ r.state = 2 := by
      rcases Classical.em (r.state = 1 ∨ r.state = 2) with h | h
      · exact h
      · rw [if_neg h] at hoc; cases hoc
    replace hx : (if r.state = 1 ∨ r.state = 2 then ((0 : Int), rs.set ((i : Int) + 1 - 1).toNat { r with state := 4, p := noPoint }) else (33, rs)) = x := hx
    rw [if_pos h12, hi2] at hx
    subst hx
    clear h12 hoc
    go_wp2_with (first
      | (refine wpList_store_all rfl 75 (.tmp 5) (.tmp 11) rfl (w1.heap.size) (reqCells r A n c B q d L nl cl) rfl rfl _ _ (Blk.now _ _ _ _ rfl) rfl (by kernel_rfl) (by simp [Value.oneCell', reqCells]) ?_; intro w2 B2 g2; have s2 : w2.cell? ⟨w1.heap.size, 1, none⟩ = some (.int .i64 r.state) := B2.cell 1; have f2 := B2.frozen 1; have c0 := ((H.out.later B1.out).later (((Below.refl _ _).alloc (Nat.le_refl _) _).grown g2 (by simp) (fun k h => by have := Option.some.inj h; omega))).cells.1)
      | (refine wpList_store_blk rfl 67 (.tmp 18) (.tmp 16) rfl w1.heap.size 3 (ptCells noPoint none 0 0 none 0 0) rfl rfl 75 (reqCells { r with state := 4 } A n c B q d L nl cl) (reqCells { r with state := 4, p := noPoint } none 0 0 none 0 0 L nl cl) (show Blk _ w1.heap.size _ _ from B2.set_ 1 _) (by simp [reqCells, ptCells]) (by kernel_rfl) (by simp [Value.oneCell', ptCells, noPoint, noTensor]) rfl ?_; intro w3 B3 g3))
    have z2 := g2.size
    have zz := B1.out.size
    simp at z2
    have G3 := Lib.hid ((B1.out.alloc B1.out.size _).grown g2 (by simp; omega) (fun k h => by have := Option.some.inj h; omega))
    have hb12 : Below w1.heap.size w1 w2 := (((Below.refl _ _).alloc (Nat.le_refl _) _).grown g2 (by simp) (fun k h => by have := Option.some.inj h; omega))
    have G4 : Below w.heap.size w w3 := (G3.out.setCell (by omega) _).grown g3 (by simp; omega) (fun k h => by have := Option.some.inj h; omega)
    have hb0 : Below w1.heap.size w1 w3 := (hb12.setCell (Nat.le_refl _) _).grown g3 (by simp; omega) (fun k h => by have := Option.some.inj h; omega)
    have B3 := Lib.hid B3
    clear B2 g2 s2 f2 c0 G3 z2 g3 hb12
    have H3 := H.out.later G4
    have c0 := H3.cells.1
    have hb13 := Lib.hid (hb0.drew)
    have z1 := B1.out.size
    refine wp_region_T (fun w' => w'.cell? ⟨g, 0, none⟩ = some (.map (some b)) ∧ Blk w' w1.heap.size 75 (reqCells { r with state := 4, p := noPoint } none 0 0 none 0 0 L nl cl)) 6 (by kernel_rfl) ?_ (fun hS => ?_)
    · exact ⟨c0, B3.out.drew⟩
    refine wpAnyT_take (i := 0) (v := ?_) rfl (by as_aux_lemma => kernel_rfl) (by as_aux_lemma => kernel_rfl) (by as_aux_lemma => kernel_rfl) (by as_aux_lemma => kernel_rfl) rfl (fun _ _ _ h => h) (Or.inl ⟨by rfl, ?_⟩) hS ?_
    rotate_left
    · intro w hSw; (try dsimp only at hSw); go_simp; try with_reducible rfl
    try simp only [Act.put, List.getElem_toArray, List.getElem_cons_succ, List.getElem_cons_zero, List.setIfInBounds_toArray, List.set_cons_zero, List.set_cons_succ]
    refine wpAnyT_take (i := 1) (v := ?_) rfl (by as_aux_lemma => kernel_rfl) (by as_aux_lemma => kernel_rfl) (by as_aux_lemma => kernel_rfl) (by as_aux_lemma => kernel_rfl) rfl (fun _ _ _ h => h) (Or.inl ⟨by rfl, ?_⟩) hS ?_
    rotate_left
    · intro w hSw; (try dsimp only at hSw); go_simp; try with_reducible rfl
    try simp only [Act.put, List.getElem_toArray, List.getElem_cons_succ, List.getElem_cons_zero, List.setIfInBounds_toArray, List.set_cons_zero, List.set_cons_succ]
    refine wpAnyT_take (i := 2) (v := ?_) rfl (by as_aux_lemma => kernel_rfl) (by as_aux_lemma => kernel_rfl) (by as_aux_lemma => kernel_rfl) (by as_aux_lemma => kernel_rfl) rfl (fun _ _ _ h => h) (Or.inl ⟨by rfl, ?_⟩) hS ?_
    rotate_left
    · intro w hSw; (try dsimp only at hSw); go_simp; try with_reducible rfl
    try simp only [Act.put, List.getElem_toArray, List.getElem_cons_succ, List.getElem_cons_zero, List.setIfInBounds_toArray, List.set_cons_zero, List.set_cons_succ]
    refine wpAnyT_take (i := 3) (v := ?_) rfl (by as_aux_lemma => kernel_rfl) (by as_aux_lemma => kernel_rfl) (by as_aux_lemma => kernel_rfl) (by as_aux_lemma => kernel_rfl) rfl (fun _ _ _ h => h) (Or.inl ⟨by rfl, ?_⟩) hS ?_
    rotate_left
    · intro w hSw; (try dsimp only at hSw); go_simp; try with_reducible rfl
    try simp only [Act.put, List.getElem_toArray, List.getElem_cons_succ, List.getElem_cons_zero, List.setIfInBounds_toArray, List.set_cons_zero, List.set_cons_succ]
    refine wpAnyT_take (i := 4) (v := ?_) rfl (by as_aux_lemma => kernel_rfl) (by as_aux_lemma => kernel_rfl) (by as_aux_lemma => kernel_rfl) (by as_aux_lemma => kernel_rfl) rfl (fun _ _ _ h => h) (Or.inl ⟨by rfl, ?_⟩) hS ?_
    rotate_left
    · intro w hSw; (try dsimp only at hSw); go_simp; try with_reducible rfl
    try simp only [Act.put, List.getElem_toArray, List.getElem_cons_succ, List.getElem_cons_zero, List.setIfInBounds_toArray, List.set_cons_zero, List.set_cons_succ]
    refine wpAnyT_take (i := 5) rfl (by as_aux_lemma => kernel_rfl) (by as_aux_lemma => kernel_rfl) (by as_aux_lemma => kernel_rfl) (by as_aux_lemma => kernel_rfl) rfl (fun _ _ _ h => h) (yieldsIf_load_blk (by rfl) 75 (.tmp 5) rfl w1.heap.size 0 rfl _ _ (reqCells { r with state := 4, p := noPoint } none 0 0 none 0 0 L nl cl) _ (fun w hs => hs.2) Tryz.underlying75 rfl (by kernel_rfl) rfl) hS ?_
    try simp only [Act.put, List.getElem_toArray, List.getElem_cons_succ, List.getElem_cons_zero, List.setIfInBounds_toArray, List.set_cons_zero, List.set_cons_succ]
    refine wpAnyT_tail _ _ rfl rfl (by kernel_rfl) ?_
    obtain ⟨D, vs, hin⟩ := (H3.later (Below.refl _ _).drew).out
    have hlen := hin.len
    refine wpList_mapUpdate_own _ rfl (.tmp 22) (.tmp 23) (.tmp 24) 111 rfl 3 75 keyed Tryz.underlying111 reqR b vs.length D rfl hin.own (by unfold maxLen; omega) _ _ (nth i) rfl rfl (key_nth i (by omega)) (.held (reqCells { r with state := 4, p := noPoint } none 0 0 none 0 0 L nl cl)) [] (reqR_mk _) ?_
    intro w5 own5 g5
    have R5 := Lib.hid (hin.putat i hi (r := { r with state := 4, p := noPoint }) (cs := reqCells { r with state := 4, p := noPoint } none 0 0 none 0 0 L nl cl) (ReqSl.rep (S := fun x => x < w3.drew.heap.size ∧ x ≠ b) ((⟨{ HS.out.ok with state := (by rw [inK_i64]; simp), p := inPt_no }, Sl.nil _ _ _, Sl.nil _ _ _, HS.out.logits⟩ : ReqSl w1 (offM w b) { r with state := 4, p := noPoint } none 0 0 none 0 0 L nl cl).keep (fun x hx => (hb13.out.block x (by have := hx.1; omega))) |>.more (fun x hx => ⟨by have := hx.1; have := G4.size; exact Nat.lt_of_lt_of_le hx.1 G4.size, hx.2⟩))) own5 g5)
    have g6 : w.grownBy w5 (some b) := grown_grown' G4.drew g5
    clear own5 g5 hS
    go_wp2_with fail
    go_ret
    exact ⟨rfl, R5.out, g6⟩
  · have ho : x = (oc, rs) := by
      cases hro : reqOf rs id with
      | none => rw [hro] at hoc hx; rw [← hx, ← hoc]
      | some r' =>
        rw [hro] at hoc hx
        replace hoc : (if r'.state = 1 ∨ r'.state = 2 then (0 : Int) else 33) = oc := hoc
        replace hx : (if r'.state = 1 ∨ r'.state = 2 then ((0 : Int), rs.set (id - 1).toNat { r' with state := 4, p := noPoint }) else (33, rs)) = x := hx
        by_cases h12 : r'.state = 1 ∨ r'.state = 2
        · rw [if_pos h12] at hoc; exact absurd hoc.symm h0
        · rw [if_neg h12] at hoc
          rw [if_neg h12] at hx
          rw [← hoc, ← hx]
    subst ho
    have t0 : (oc != 0) = true := by simp [h0]
    clear hoc hx h0 hr
    go_wp2_with ((refine wpList_store_all rfl 75 (.tmp 5) (.tmp 11) rfl (w1.heap.size) (reqCells r A n c B q d L nl cl) rfl rfl _ _ (Blk.now _ _ _ _ rfl) rfl (by kernel_rfl) (by simp [Value.oneCell', reqCells]) ?_; intro w2 B2 g2; have s2 : w2.cell? ⟨w1.heap.size, 1, none⟩ = some (.int .i64 r.state) := B2.cell 1; have f2 := B2.frozen 1; have c0 := ((H.out.later B1.out).later (((Below.refl _ _).alloc (Nat.le_refl _) _).grown g2 (by simp) (fun k h => by have := Option.some.inj h; omega))).cells.1))
    go_ret
    have g3 := ((B1.out.alloc B1.out.size _).grown g2 (by have := B1.out.size; simp; omega) (fun k h => by have := Option.some.inj h; have := B1.out.size; omega))
    exact ⟨rfl, H.out.later g3, grown_none g3⟩
end Go.Proofs.YtcppkpcbfadapaaGreat
