/-
  store.Move (layer 42).
  Conditions: fewer than 2^39 requests.
-/
import Derived.Test.YtcppkpcbfadapaaGreatChecked
import Derived.Test.YtcppkpcbfadapaaGreatStoreM
namespace Go.Proofs.YtcppkpcbfadapaaGreat
set_option linter.unusedVariables false
set_option linter.unusedSimpArgs false
open Go.RowKit Go.ChangeShapes Go.WideShapes
set_option maxRecDepth 100000
set_option maxHeartbeats 2000000

/-- What is done, as a code and the requests behind it. -/
def moveOp (rs : List Req) (id : Int) (p : Pt) : Int × List Req := match reqOf rs id with
  | none => (32, rs)
  | some r => if r.state = 1 then (31, rs) else if r.state = 2 then (0, rs.set (id - 1).toNat { r with p := p }) else (33, rs)

theorem storeMove_any (g b : Nat) (m : Int) (rs : List Req) (id : Int) (p : Pt) (PA PB : Option Addr) (pn pc pm pd : Nat) (w : World) (h : StoreAt w g b m rs) (hid : InK .i64 id) (hk : rs.length < 549755813888) (hp : PtIn p)
    (ha : Sl (tInt .i8) w (blo w.heap.size) PA pn pc p.input.data) (hb : Sl (tInt .i8) w (blo w.heap.size) PB pm pd p.value.data) (hn : pn ≤ 140737488351232) (hm : pm ≤ 140737488351232) :
    Calls Tryz.prog 68 #[.pointer (some ⟨g, 0, none⟩), .int .i64 id, .agg (ptCells p PA pn pc PB pm pd)] w (Did g b m (moveOp rs id p) w) := by
  have H := Lib.hid h
  have HA := Lib.hid ha
  have HB := Lib.hid hb
  have HP := Lib.hid hp
  have KB := Lib.hid (show b < w.heap.size from by obtain ⟨D0, vs0, hin0⟩ := h.out; exact hin0.own.lt)
  clear h ha hb hp
  have k0 : Below w.heap.size w (w.alloc (.cells (ptCells p PA pn pc PB pm pd) 67)) := (Below.refl _ _).alloc (Nat.le_refl _) _
  have HN := Lib.hid hn
  obtain ⟨oc, hoc⟩ : ∃ oc, runCode rs id = oc := ⟨_, rfl⟩
  obtain ⟨x, hx⟩ : ∃ x, moveOp rs id p = x := ⟨_, rfl⟩
  have N := Lib.hid (storeRunning_any g b m rs id w (w.alloc (.cells (ptCells p PA pn pc PB pm pd) 67)) H.out k0 hid)
  rw [hoc] at N
  rw [hx]
  unfold runCode at hoc
  unfold moveOp at hx
  have BX0 := Lib.hid (Blk.now w w.heap.size 67 (ptCells p PA pn pc PB pm pd) rfl)
  unfold ptCells at N ⊢
  change Calls _ _ _ _ _
  go_enter Tryz.func68, Tryz.ntmps68
  go_wp2_with fail
  refine N.out.mono ?_
  rintro e w1 ⟨r, A, n, c, B, q, d, L, nl, cl, rfl, hr, hs, b1⟩
  have HS := Lib.hid hs
  have B1 := Lib.hid (below_call k0 b1 k0.size)
  have BX := Lib.hid (BX0.out.later b1)
  have lb1 : w.heap.size < w1.heap.size := BX.out.lt
  clear N hs b1 k0 BX0
  by_cases h0 : oc = 0
  · have hr1 := hr h0
    clear hr
    rw [hr1] at hoc hx
    replace hoc : (if r.state = 1 then (31 : Int) else if r.state = 2 then 0 else 33) = oc := hoc
    subst h0
    obtain ⟨i, rfl, hi, hri⟩ := reqOf_some hr1
    clear hr1
    have hi2 : ((i : Int) + 1 - 1).toNat = i := by omega
    have h1 : r.state ≠ 1 := fun h => by rw [if_pos h] at hoc; cases hoc
    have h2 : r.state = 2 := by
      rcases Classical.em (r.state = 2) with h | h
      · exact h
      · rw [if_neg h1, if_neg h] at hoc; cases hoc
    replace hx : (if r.state = 1 then ((31 : Int), rs) else if r.state = 2 then (0, rs.set ((i : Int) + 1 - 1).toNat { r with p := p }) else (33, rs)) = x := hx
    rw [if_neg h1, if_pos h2, hi2] at hx
    subst hx
    clear h1 h2 hoc
    go_wp2_with (first
      | (refine wpList_store_all rfl 75 (.tmp 7) (.tmp 13) rfl (w1.heap.size) (reqCells r A n c B q d L nl cl) rfl rfl _ _ (Blk.now _ _ _ _ rfl) rfl (by kernel_rfl) (by simp [Value.oneCell', reqCells]) ?_; intro w2 B2 g2; have s2 : w2.cell? ⟨w1.heap.size, 1, none⟩ = some (.int .i64 r.state) := B2.cell 1; have f2 := B2.frozen 1; have hb12 := Lib.hid (show Below w1.heap.size w1 w2 from ((Below.refl _ _).alloc (Nat.le_refl _) _).grown g2 (by simp) (fun k h => by have := Option.some.inj h; omega)); have BX2 := BX.out.later hb12.out)
      | (refine wpList_load_row rfl 67 (.tmp 5) rfl w.heap.size rfl _ _ (0, 0) _ BX2.heap Tryz.underlying67 rfl (by kernel_rfl) ?_))
    have z2 := g2.size
    simp at z2
    have G2 : Below w.heap.size w w2 := (B1.out.alloc B1.out.size _).grown g2 (by have := B1.out.size; simp; omega) (fun k h => by have := Option.some.inj h; omega)
    refine (moved_any p PA PB pn pc pm pd w2 (HA.out.later G2 (Nat.le_refl _)) (HB.out.later G2 (Nat.le_refl _)) hn hm).mono ?_
    rintro e wm ⟨A', n', c', B', m', d', rfl, hs1, hs2, hb3⟩
    have HI1 := Lib.hid hs1
    have HI2 := Lib.hid hs2
    have BM := B2.later hb3
    have zm := hb3.size
    clear hs1 hs2 B2 s2 f2
    go_wp2_with ((refine wpList_store_blk rfl 67 (.tmp 20) (.tmp 19) rfl w1.heap.size 3 (ptCells p A' n' c' B' m' d') rfl rfl 75 (reqCells r A n c B q d L nl cl) (reqCells { r with p := p } A' n' c' B' m' d' L nl cl) BM (by simp [reqCells, ptCells]) (by kernel_rfl) (by simp [Value.oneCell', ptCells]) rfl ?_; intro w3 B3 g3))
    have G4 : Below w.heap.size w w3 := (below_call G2 hb3 G2.size).grown g3 (by have := G2.size; omega) (fun k h => by have := Option.some.inj h; omega)
    have hb0 : Below w1.heap.size w1 w3 := (below_call hb12.out hb3 hb12.out.size).grown g3 (by omega) (fun k h => by have := Option.some.inj h; omega)
    have B3 := Lib.hid B3
    have zb := KB.out
    have zw := G2.size
    clear BM
    have H3 := H.out.later G4
    have c0 := H3.cells.1
    have hb13 := Lib.hid (hb0.drew)
    have z1 := B1.out.size
    refine wp_region_T (fun w' => w'.cell? ⟨g, 0, none⟩ = some (.map (some b)) ∧ Blk w' w1.heap.size 75 (reqCells { r with p := p } A' n' c' B' m' d' L nl cl)) 6 (by kernel_rfl) ?_ (fun hS => ?_)
    · exact ⟨c0, B3.out.drew⟩
    refine wpAnyT_take (i := 0) (v := ?_) rfl (by as_aux_lemma => kernel_rfl) (by as_aux_lemma => kernel_rfl) (by as_aux_lemma => kernel_rfl) (by as_aux_lemma => kernel_rfl) rfl (fun _ _ _ h => h) (Or.inl ⟨by rfl, ?_⟩) hS ?_
    rotate_left
    · intro w hSw; (try dsimp only at hSw); go_simp; try with_reducible rfl
    try simp only [Act.put, List.getElem_toArray, List.getElem_cons_succ, List.getElem_cons_zero, List.setIfInBounds_toArray, List.set_cons_zero, List.set_cons_succ]
    refine wpAnyT_take (i := 1) (v := ?_) rfl (by as_aux_lemma => kernel_rfl) (by as_aux_lemma => kernel_rfl) (by as_aux_lemma => kernel_rfl) (by as_aux_lemma => kernel_rfl) rfl (fun _ _ _ h => h) (Or.inl ⟨by rfl, ?_⟩) hS ?_
    rotate_left
    · intro w hSw; (try dsimp only at hSw); go_simp; try with_reducible rfl
    try simp only [Act.put, List.getElem_toArray, List.getElem_cons_succ, List.getElem_cons_zero, List.setIfInBounds_toArray, List.set_cons_zero, List.set_cons_succ]
    refine wpAnyT_take (i := 2) (v := ?_) rfl (by as_aux_lemma => kernel_rfl) (by as_aux_lemma => kernel_rfl) (by as_aux_lemma => kernel_rfl) (by as_aux_lemma => kernel_rfl) rfl (fun _ _ _ h => h) (Or.inl ⟨by rfl, ?_⟩) hS ?_
    rotate_left
    · intro w hSw; (try dsimp only at hSw); go_simp; try with_reducible rfl
    try simp only [Act.put, List.getElem_toArray, List.getElem_cons_succ, List.getElem_cons_zero, List.setIfInBounds_toArray, List.set_cons_zero, List.set_cons_succ]
    refine wpAnyT_take (i := 3) (v := ?_) rfl (by as_aux_lemma => kernel_rfl) (by as_aux_lemma => kernel_rfl) (by as_aux_lemma => kernel_rfl) (by as_aux_lemma => kernel_rfl) rfl (fun _ _ _ h => h) (Or.inl ⟨by rfl, ?_⟩) hS ?_
    rotate_left
    · intro w hSw; (try dsimp only at hSw); go_simp; try with_reducible rfl
    try simp only [Act.put, List.getElem_toArray, List.getElem_cons_succ, List.getElem_cons_zero, List.setIfInBounds_toArray, List.set_cons_zero, List.set_cons_succ]
    refine wpAnyT_take (i := 4) (v := ?_) rfl (by as_aux_lemma => kernel_rfl) (by as_aux_lemma => kernel_rfl) (by as_aux_lemma => kernel_rfl) (by as_aux_lemma => kernel_rfl) rfl (fun _ _ _ h => h) (Or.inl ⟨by rfl, ?_⟩) hS ?_
    rotate_left
    · intro w hSw; (try dsimp only at hSw); go_simp; try with_reducible rfl
    try simp only [Act.put, List.getElem_toArray, List.getElem_cons_succ, List.getElem_cons_zero, List.setIfInBounds_toArray, List.set_cons_zero, List.set_cons_succ]
    refine wpAnyT_take (i := 5) rfl (by as_aux_lemma => kernel_rfl) (by as_aux_lemma => kernel_rfl) (by as_aux_lemma => kernel_rfl) (by as_aux_lemma => kernel_rfl) rfl (fun _ _ _ h => h) (yieldsIf_load_blk (by rfl) 75 (.tmp 7) rfl w1.heap.size 0 rfl _ _ (reqCells { r with p := p } A' n' c' B' m' d' L nl cl) _ (fun w hs => hs.2) Tryz.underlying75 rfl (by kernel_rfl) rfl) hS ?_
    try simp only [Act.put, List.getElem_toArray, List.getElem_cons_succ, List.getElem_cons_zero, List.setIfInBounds_toArray, List.set_cons_zero, List.set_cons_succ]
    refine wpAnyT_tail _ _ rfl rfl (by kernel_rfl) ?_
    obtain ⟨D, vs, hin⟩ := (H3.later (Below.refl _ _).drew).out
    have hlen := hin.len
    refine wpList_mapUpdate_own _ rfl (.tmp 24) (.tmp 25) (.tmp 26) 111 rfl 3 75 keyed Tryz.underlying111 reqR b vs.length D rfl hin.own (by unfold maxLen; omega) _ _ (nth i) rfl rfl (key_nth i (by omega)) (.held (reqCells { r with p := p } A' n' c' B' m' d' L nl cl)) [] (reqR_mk _) ?_
    intro w5 own5 g5
    have R5 := Lib.hid (hin.putat i hi (r := { r with p := p }) (cs := reqCells { r with p := p } A' n' c' B' m' d' L nl cl) (ReqSl.rep (S := fun x => x < w3.drew.heap.size ∧ x ≠ b) (⟨{ HS.out.ok with p := HP.out }, (HI1.out.keep (w' := w3.drew) (fun x hx => g3.block x hx.2 (by intro e; have := Option.some.inj e; have := hx.1; omega))).more (fun x hx => ⟨Nat.lt_of_lt_of_le hx.2 g3.size, by have := hx.1; omega⟩), (HI2.out.keep (w' := w3.drew) (fun x hx => g3.block x hx.2 (by intro e; have := Option.some.inj e; have := hx.1; omega))).more (fun x hx => ⟨Nat.lt_of_lt_of_le hx.2 g3.size, by have := hx.1; omega⟩), (HS.out.logits.keep (w' := w3.drew) (fun x hx => (hb13.out.block x (by have := hx.1; omega)))).more (fun x hx => ⟨by have := hx.1; have := G4.size; exact Nat.lt_of_lt_of_le hx.1 G4.size, hx.2⟩)⟩ : ReqSl w3.drew (fun x => x < w3.drew.heap.size ∧ x ≠ b) { r with p := p } A' n' c' B' m' d' L nl cl)) own5 g5)
    have g6 : w.grownBy w5 (some b) := grown_grown' G4.drew g5
    clear own5 g5 hS
    go_wp2_with fail
    go_ret
    exact ⟨rfl, R5.out, g6⟩
  · have ho : x = (oc, rs) := by
      cases hro : reqOf rs id with
      | none => rw [hro] at hoc hx; rw [← hx, ← hoc]
      | some r' =>
        rw [hro] at hoc hx
        replace hoc : (if r'.state = 1 then (31 : Int) else if r'.state = 2 then 0 else 33) = oc := hoc
        replace hx : (if r'.state = 1 then ((31 : Int), rs) else if r'.state = 2 then (0, rs.set (id - 1).toNat { r' with p := p }) else (33, rs)) = x := hx
        by_cases h1 : r'.state = 1
        · rw [if_pos h1] at hoc hx; rw [← hoc, ← hx]
        · by_cases h2 : r'.state = 2
          · rw [if_neg h1, if_pos h2] at hoc; exact absurd hoc.symm h0
          · rw [if_neg h1, if_neg h2] at hoc hx
            rw [← hoc, ← hx]
    subst ho
    have t0 : (oc != 0) = true := by simp [h0]
    clear hoc hx h0 hr
    go_wp2_with ((refine wpList_store_all rfl 75 (.tmp 7) (.tmp 13) rfl (w1.heap.size) (reqCells r A n c B q d L nl cl) rfl rfl _ _ (Blk.now _ _ _ _ rfl) rfl (by kernel_rfl) (by simp [Value.oneCell', reqCells]) ?_; intro w2 B2 g2; have s2 : w2.cell? ⟨w1.heap.size, 1, none⟩ = some (.int .i64 r.state) := B2.cell 1; have f2 := B2.frozen 1; have hb12 := Lib.hid (show Below w1.heap.size w1 w2 from ((Below.refl _ _).alloc (Nat.le_refl _) _).grown g2 (by simp) (fun k h => by have := Option.some.inj h; omega)); have BX2 := BX.out.later hb12.out))
    go_ret
    have g3 := ((B1.out.alloc B1.out.size _).grown g2 (by have := B1.out.size; simp; omega) (fun k h => by have := Option.some.inj h; have := B1.out.size; omega))
    exact ⟨rfl, H.out.later g3, grown_none g3⟩
end Go.Proofs.YtcppkpcbfadapaaGreat
