/-
  store.Answer (layer 42).
  Conditions: fewer than 2^39 requests.
-/
import Derived.Test.YtcppkpcbfadapaaGreatChecked
import Derived.Test.YtcppkpcbfadapaaGreatStoreN
namespace Go.Proofs.YtcppkpcbfadapaaGreat
set_option linter.unusedVariables false
set_option linter.unusedSimpArgs false
open Go.RowKit Go.ChangeShapes Go.WideShapes
set_option maxRecDepth 100000
set_option maxHeartbeats 2000000

theorem grown2 {w w1 w2 : World} {g : Nat} (h : w.grownBy w1 (some g)) (h2 : w1.grownBy w2 (some g)) : w.grownBy w2 (some g) :=
  ⟨h2.os.trans h.os, h2.tape.trans h.tape, h2.output.trans h.output, Nat.le_trans h.size h2.size, fun k hk hne => (h2.block k (Nat.lt_of_lt_of_le hk h.size) hne).trans (h.block k hk hne)⟩

/-- What is done, as a code and the requests behind it. -/
def answerOp (rs : List Req) (id : Int) (a : Ans) : Int × List Req := match reqOf rs id with
  | none => (32, rs)
  | some r => if r.state = 1 then (31, rs) else if r.state = 2 then (0, rs.set (id - 1).toNat { r with state := 3, p := noPoint, a := { a with id := id } }) else (33, rs)

theorem storeAnswer_any (g b : Nat) (m : Int) (rs : List Req) (id : Int) (a : Ans) (PL : Option Addr) (pn pc : Nat) (w : World) (h : StoreAt w g b m rs) (hid : InK .i64 id) (hk : rs.length < 549755813888) (hp : AnsIn a)
    (ha : Sl (tInt .i32) w (blo w.heap.size) PL pn pc a.logits) (hn : pn ≤ 35184372087808) :
    Calls Tryz.prog 66 #[.pointer (some ⟨g, 0, none⟩), .int .i64 id, .agg (ansCells a PL pn pc)] w (Did g b m (answerOp rs id a) w) := by
  have H := Lib.hid h
  have HA := Lib.hid ha
  have HP := Lib.hid hp
  have KB := Lib.hid (show b < w.heap.size from by obtain ⟨D0, vs0, hin0⟩ := h.out; exact hin0.own.lt)
  clear h ha hp
  have k0 : Below w.heap.size w (w.alloc (.cells (ansCells a PL pn pc) 33)) := (Below.refl _ _).alloc (Nat.le_refl _) _
  have HN := Lib.hid hn
  obtain ⟨oc, hoc⟩ : ∃ oc, runCode rs id = oc := ⟨_, rfl⟩
  obtain ⟨x, hx⟩ : ∃ x, answerOp rs id a = x := ⟨_, rfl⟩
  have N := Lib.hid (storeRunning_any g b m rs id w (w.alloc (.cells (ansCells a PL pn pc) 33)) H.out k0 hid)
  rw [hoc] at N
  rw [hx]
  unfold runCode at hoc
  unfold answerOp at hx
  have BX0 := Lib.hid (Blk.now w w.heap.size 33 (ansCells a PL pn pc) rfl)
  unfold ansCells at N BX0 ⊢
  change Calls _ _ _ _ _
  go_enter Tryz.func66, Tryz.ntmps66
  go_wp2_with fail
  refine N.out.mono ?_
  rintro e w1 ⟨r, A, n, c, B, q, d, L, nl, cl, rfl, hr, hs, b1⟩
  have HS := Lib.hid hs
  have B1 := Lib.hid (below_call k0 b1 k0.size)
  have BX := Lib.hid (BX0.out.later b1)
  have lb1 : w.heap.size < w1.heap.size := BX.out.lt
  clear N hs b1 k0 BX0
  by_cases h0 : oc = 0
  · have hr1 := hr h0
    clear hr
    rw [hr1] at hoc hx
    replace hoc : (if r.state = 1 then (31 : Int) else if r.state = 2 then 0 else 33) = oc := hoc
    subst h0
    obtain ⟨i, rfl, hi, hri⟩ := reqOf_some hr1
    clear hr1
    have hi2 : ((i : Int) + 1 - 1).toNat = i := by omega
    have h1 : r.state ≠ 1 := fun h => by rw [if_pos h] at hoc; cases hoc
    have h2 : r.state = 2 := by
      rcases Classical.em (r.state = 2) with h | h
      · exact h
      · rw [if_neg h1, if_neg h] at hoc; cases hoc
    replace hx : (if r.state = 1 then ((31 : Int), rs) else if r.state = 2 then (0, rs.set ((i : Int) + 1 - 1).toNat { r with state := 3, p := noPoint, a := { a with id := (i : Int) + 1 } }) else (33, rs)) = x := hx
    rw [if_neg h1, if_pos h2, hi2] at hx
    subst hx
    clear h1 h2 hoc
    go_wp2_with ((refine wpList_store_all rfl 75 (.tmp 7) (.tmp 13) rfl (w1.heap.size) (reqCells r A n c B q d L nl cl) rfl rfl _ _ (Blk.now _ _ _ _ rfl) rfl (by kernel_rfl) (by simp [Value.oneCell', reqCells]) ?_; intro w2 B2 g2; have s2 : w2.cell? ⟨w1.heap.size, 1, none⟩ = some (.int .i64 r.state) := B2.cell 1; have f2 := B2.frozen 1; have hb12 := Lib.hid (show Below w1.heap.size w1 w2 from ((Below.refl _ _).alloc (Nat.le_refl _) _).grown g2 (by simp) (fun k h => by have := Option.some.inj h; omega)); have BX2 := BX.out.later hb12.out; have c5 : w2.cell? ⟨w.heap.size, 5, none⟩ = some (.slice PL pn pc) := BX2.cell 5))
    have z2 := g2.size
    simp at z2
    have G2 : Below w.heap.size w w2 := (B1.out.alloc B1.out.size _).grown g2 (by have := B1.out.size; simp; omega) (fun k h => by have := Option.some.inj h; omega)
    refine (clone32_any PL pn pc a.logits w2 (HA.out.later G2 (Nat.le_refl _)) hn).mono ?_
    rintro e wm ⟨L', n', c', rfl, hs1, hb3⟩
    have HI1 := Lib.hid hs1
    have BM := Lib.hid (B2.later hb3)
    have BY := Lib.hid (BX2.later hb3)
    have fY := fun i => BY.out.frozen i
    have zm := hb3.size
    have lw : w.heap.size < wm.heap.size := BY.out.lt
    clear hs1 B2 s2 f2 BX2 c5
    have cY := fun i => BY.out.cell i
    go_wp2_with fail
    obtain ⟨wa, hwa⟩ : ∃ wa, (wm.setCell ⟨w.heap.size, 0, none⟩ (.int .i64 ((i : Int) + 1))).setCell ⟨w.heap.size, 5, none⟩ (.slice L' n' c') = wa := ⟨_, rfl⟩
    have BZ := Lib.hid (show Blk wa w.heap.size 33 (#[.int .i64 ((i : Int) + 1), .int .i64 a.model, .int .i64 a.block, .int .i64 a.cls, .int .i64 a.margin, .slice L' n' c', .int .i64 a.spent, .int .i64 a.why, .int .i64 a.tick]) by rw [← hwa]; exact ((BY.out.set_ 0 _).set_ 5 _))
    have BR := Lib.hid (show Blk wa w1.heap.size 75 (reqCells r A n c B q d L nl cl) by rw [← hwa]; exact ((BM.out.far _ _ (by simp; omega)).far _ _ (by simp; omega)))
    have ga : wm.grownBy wa (some w.heap.size) := by rw [← hwa]; exact grown2 (grown_setCells [.int .i64 ((i : Int) + 1)] 0 _) (grown_setCells [.slice L' n' c'] 5 _)
    rw [hwa]
    clear hwa cY fY BY BM
    refine wp_region_held_drew (S := fun w' => Blk w' w.heap.size 33 (#[.int .i64 ((i : Int) + 1), .int .i64 a.model, .int .i64 a.block, .int .i64 a.cls, .int .i64 a.margin, .slice L' n' c', .int .i64 a.spent, .int .i64 a.why, .int .i64 a.tick])) (by kernel_rfl) ?_ (fun hS => ?_)
    · exact BZ.out.drew
    refine wpAnyH_take (i := 0) (v := ?_) rfl (by as_aux_lemma => kernel_rfl) (by as_aux_lemma => kernel_rfl) (by as_aux_lemma => kernel_rfl) (fun _ _ _ h => h) (Or.inl ⟨by rfl, ?_⟩) hS ?_
    rotate_left
    · intro w hSw; (try dsimp only at hSw); go_simp; try with_reducible rfl
    try simp only [Act.put, List.getElem_toArray, List.getElem_cons_succ, List.getElem_cons_zero, List.setIfInBounds_toArray, List.set_cons_zero, List.set_cons_succ]
    refine wpAnyH_take (i := 1) rfl (by as_aux_lemma => kernel_rfl) (by as_aux_lemma => kernel_rfl) (by as_aux_lemma => kernel_rfl) (fun _ _ _ h => h) (yieldsIf_load_blk (by rfl) 33 (.tmp 5) rfl w.heap.size 0 rfl _ _ (#[.int .i64 ((i : Int) + 1), .int .i64 a.model, .int .i64 a.block, .int .i64 a.cls, .int .i64 a.margin, .slice L' n' c', .int .i64 a.spent, .int .i64 a.why, .int .i64 a.tick]) _ (fun w hs => hs) Tryz.underlying33 rfl (by kernel_rfl) rfl) hS ?_
    try simp only [Act.put, List.getElem_toArray, List.getElem_cons_succ, List.getElem_cons_zero, List.setIfInBounds_toArray, List.set_cons_zero, List.set_cons_succ]
    refine wpAnyH_take (i := 2) (v := ?_) rfl (by as_aux_lemma => kernel_rfl) (by as_aux_lemma => kernel_rfl) (by as_aux_lemma => kernel_rfl) (fun _ _ _ h => h) (Or.inl ⟨by rfl, ?_⟩) hS ?_
    rotate_left
    · intro w hSw; (try dsimp only at hSw); go_simp; try with_reducible rfl
    try simp only [Act.put, List.getElem_toArray, List.getElem_cons_succ, List.getElem_cons_zero, List.setIfInBounds_toArray, List.set_cons_zero, List.set_cons_succ]
    refine wpAnyH_ready (rs := [3]) (by kernel_rfl) (by simp) ?_
    refine AllReadyH.cons rfl (fun K hK => ?_) AllReadyH.nil
    (rw [if_pos (by rfl)]; refine oper_store_int 3 (.tmp 26) (.const (.int .i64 3)) rfl w1.heap.size 1 .i64 3 rfl rfl 75 (reqCells r A n c B q d L nl cl) (reqCells { r with state := 3 } A n c B q d L nl cl) BR.out.drew (by simp [reqCells]) (by kernel_rfl) rfl ?_; intro wb Bb gb; refine hK.out _ _ ⟨(gb.block _ BZ.out.lt (by intro e; have := Option.some.inj e; omega)).trans BZ.out.heap⟩ (fun hS => ?_))
    clear hK K
    try simp only [Act.put, List.getElem_toArray, List.getElem_cons_succ, List.getElem_cons_zero, List.setIfInBounds_toArray, List.set_cons_zero, List.set_cons_succ]
    refine wpAnyH_take (i := 4) (v := ?_) rfl (by as_aux_lemma => kernel_rfl) (by as_aux_lemma => kernel_rfl) (by as_aux_lemma => kernel_rfl) (fun _ _ _ h => h) (Or.inl ⟨by rfl, ?_⟩) hS ?_
    rotate_left
    · intro w hSw; (try dsimp only at hSw); go_simp; try with_reducible rfl
    try simp only [Act.put, List.getElem_toArray, List.getElem_cons_succ, List.getElem_cons_zero, List.setIfInBounds_toArray, List.set_cons_zero, List.set_cons_succ]
    refine wpAnyH_ready (rs := [5]) (by kernel_rfl) (by simp) ?_
    refine AllReadyH.cons rfl (fun K hK => ?_) AllReadyH.nil
    (rw [if_pos (by rfl)]; refine oper_store_blk 67 (.tmp 27) (.tmp 24) rfl w1.heap.size 3 (ptCells noPoint none 0 0 none 0 0) rfl rfl 75 (reqCells { r with state := 3 } A n c B q d L nl cl) (reqCells { r with state := 3, p := noPoint } none 0 0 none 0 0 L nl cl) Bb (by simp [reqCells, ptCells]) (by kernel_rfl) (by simp [Value.oneCell', ptCells, noPoint, noTensor]) rfl ?_; intro wc Bc gc; refine hK.out _ _ ⟨(gc.block _ hS.lt (by intro e; have := Option.some.inj e; omega)).trans hS.heap⟩ (fun hS => ?_))
    clear hK K
    try simp only [Act.put, List.getElem_toArray, List.getElem_cons_succ, List.getElem_cons_zero, List.setIfInBounds_toArray, List.set_cons_zero, List.set_cons_succ]
    refine wpAnyH_take (i := 6) (v := ?_) rfl (by as_aux_lemma => kernel_rfl) (by as_aux_lemma => kernel_rfl) (by as_aux_lemma => kernel_rfl) (fun _ _ _ h => h) (Or.inl ⟨by rfl, ?_⟩) hS ?_
    rotate_left
    · intro w hSw; (try dsimp only at hSw); go_simp; try with_reducible rfl
    try simp only [Act.put, List.getElem_toArray, List.getElem_cons_succ, List.getElem_cons_zero, List.setIfInBounds_toArray, List.set_cons_zero, List.set_cons_succ]
    refine wpAnyH_ready (rs := [7]) (by kernel_rfl) (by simp) ?_
    refine AllReadyH.cons rfl (fun K hK => ?_) AllReadyH.nil
    (rw [if_pos (by rfl)]; refine oper_store_blk 33 (.tmp 28) (.tmp 25) rfl w1.heap.size 14 (#[.int .i64 ((i : Int) + 1), .int .i64 a.model, .int .i64 a.block, .int .i64 a.cls, .int .i64 a.margin, .slice L' n' c', .int .i64 a.spent, .int .i64 a.why, .int .i64 a.tick]) rfl rfl 75 (reqCells { r with state := 3, p := noPoint } none 0 0 none 0 0 L nl cl) (reqCells { r with state := 3, p := noPoint, a := { a with id := (i : Int) + 1 } } none 0 0 none 0 0 L' n' c') Bc (by simp [reqCells]) (by kernel_rfl) (by simp [Value.oneCell']) rfl ?_; intro w3 B3 g3; refine hK.out _ _ ⟨(g3.block _ hS.lt (by intro e; have := Option.some.inj e; omega)).trans hS.heap⟩ (fun hS => ?_))
    clear hK K
    try simp only [Act.put, List.getElem_toArray, List.getElem_cons_succ, List.getElem_cons_zero, List.setIfInBounds_toArray, List.set_cons_zero, List.set_cons_succ]
    refine wpAnyH_done (by kernel_rfl) ?_ _
    have za := ga.size
    have zb : wa.heap.size ≤ wb.heap.size := gb.size
    have zc := gc.size
    have z3 := g3.size
    have zm3 : wm.heap.size ≤ w3.heap.size := by omega
    have zw2 : w.heap.size ≤ w2.heap.size := G2.size
    have kb := KB.out
    have hkw : ∀ x, w2.heap.size ≤ x → x < wm.heap.size → w3.drew.heap[x]? = wm.heap[x]? := fun x h1 h2 =>
      (g3.block x (by omega) (by intro e; have := Option.some.inj e; omega)).trans ((gc.block x (by omega) (by intro e; have := Option.some.inj e; omega)).trans ((gb.block x (show x < wa.heap.size by omega) (by intro e; have := Option.some.inj e; omega)).trans (ga.block x h2 (by intro e; have := Option.some.inj e; omega))))
    have Ga : Below w.heap.size w wa := (below_call G2 hb3 G2.size).grown ga (by omega) (fun k h => by have := Option.some.inj h; omega)
    have G4 : Below w.heap.size w w3 := ((Ga.drew.grown gb (show w.heap.size ≤ wa.heap.size by omega) (fun k h => by have := Option.some.inj h; omega)).grown gc (by omega) (fun k h => by have := Option.some.inj h; omega)).grown g3 (by omega) (fun k h => by have := Option.some.inj h; omega)
    have B3 := Lib.hid B3
    clear Bb Bc gb gc g3 ga BR hS BZ
    go_wp2_with fail
    have H3 := H.out.later G4
    have c0 := H3.cells.1
    have hb13 := Lib.hid (G4.drew)
    have z1 := B1.out.size
    refine wp_region_T (fun w' => w'.cell? ⟨g, 0, none⟩ = some (.map (some b)) ∧ Blk w' w1.heap.size 75 (reqCells { r with state := 3, p := noPoint, a := { a with id := (i : Int) + 1 } } none 0 0 none 0 0 L' n' c')) 6 (by kernel_rfl) ?_ (fun hS => ?_)
    · exact ⟨c0, B3.out.drew⟩
    refine wpAnyT_take (i := 0) (v := ?_) rfl (by as_aux_lemma => kernel_rfl) (by as_aux_lemma => kernel_rfl) (by as_aux_lemma => kernel_rfl) (by as_aux_lemma => kernel_rfl) rfl (fun _ _ _ h => h) (Or.inl ⟨by rfl, ?_⟩) hS ?_
    rotate_left
    · intro w hSw; (try dsimp only at hSw); go_simp; try with_reducible rfl
    try simp only [Act.put, List.getElem_toArray, List.getElem_cons_succ, List.getElem_cons_zero, List.setIfInBounds_toArray, List.set_cons_zero, List.set_cons_succ]
    refine wpAnyT_take (i := 1) (v := ?_) rfl (by as_aux_lemma => kernel_rfl) (by as_aux_lemma => kernel_rfl) (by as_aux_lemma => kernel_rfl) (by as_aux_lemma => kernel_rfl) rfl (fun _ _ _ h => h) (Or.inl ⟨by rfl, ?_⟩) hS ?_
    rotate_left
    · intro w hSw; (try dsimp only at hSw); go_simp; try with_reducible rfl
    try simp only [Act.put, List.getElem_toArray, List.getElem_cons_succ, List.getElem_cons_zero, List.setIfInBounds_toArray, List.set_cons_zero, List.set_cons_succ]
    refine wpAnyT_take (i := 2) (v := ?_) rfl (by as_aux_lemma => kernel_rfl) (by as_aux_lemma => kernel_rfl) (by as_aux_lemma => kernel_rfl) (by as_aux_lemma => kernel_rfl) rfl (fun _ _ _ h => h) (Or.inl ⟨by rfl, ?_⟩) hS ?_
    rotate_left
    · intro w hSw; (try dsimp only at hSw); go_simp; try with_reducible rfl
    try simp only [Act.put, List.getElem_toArray, List.getElem_cons_succ, List.getElem_cons_zero, List.setIfInBounds_toArray, List.set_cons_zero, List.set_cons_succ]
    refine wpAnyT_take (i := 3) (v := ?_) rfl (by as_aux_lemma => kernel_rfl) (by as_aux_lemma => kernel_rfl) (by as_aux_lemma => kernel_rfl) (by as_aux_lemma => kernel_rfl) rfl (fun _ _ _ h => h) (Or.inl ⟨by rfl, ?_⟩) hS ?_
    rotate_left
    · intro w hSw; (try dsimp only at hSw); go_simp; try with_reducible rfl
    try simp only [Act.put, List.getElem_toArray, List.getElem_cons_succ, List.getElem_cons_zero, List.setIfInBounds_toArray, List.set_cons_zero, List.set_cons_succ]
    refine wpAnyT_take (i := 4) (v := ?_) rfl (by as_aux_lemma => kernel_rfl) (by as_aux_lemma => kernel_rfl) (by as_aux_lemma => kernel_rfl) (by as_aux_lemma => kernel_rfl) rfl (fun _ _ _ h => h) (Or.inl ⟨by rfl, ?_⟩) hS ?_
    rotate_left
    · intro w hSw; (try dsimp only at hSw); go_simp; try with_reducible rfl
    try simp only [Act.put, List.getElem_toArray, List.getElem_cons_succ, List.getElem_cons_zero, List.setIfInBounds_toArray, List.set_cons_zero, List.set_cons_succ]
    refine wpAnyT_take (i := 5) rfl (by as_aux_lemma => kernel_rfl) (by as_aux_lemma => kernel_rfl) (by as_aux_lemma => kernel_rfl) (by as_aux_lemma => kernel_rfl) rfl (fun _ _ _ h => h) (yieldsIf_load_blk (by rfl) 75 (.tmp 7) rfl w1.heap.size 0 rfl _ _ (reqCells { r with state := 3, p := noPoint, a := { a with id := (i : Int) + 1 } } none 0 0 none 0 0 L' n' c') _ (fun w hs => hs.2) Tryz.underlying75 rfl (by kernel_rfl) rfl) hS ?_
    try simp only [Act.put, List.getElem_toArray, List.getElem_cons_succ, List.getElem_cons_zero, List.setIfInBounds_toArray, List.set_cons_zero, List.set_cons_succ]
    refine wpAnyT_tail _ _ rfl rfl (by kernel_rfl) ?_
    obtain ⟨D, vs, hin⟩ := (H3.later (Below.refl _ _).drew).out
    have hlen := hin.len
    refine wpList_mapUpdate_own _ rfl (.tmp 32) (.tmp 33) (.tmp 34) 111 rfl 3 75 keyed Tryz.underlying111 reqR b vs.length D rfl hin.own (by unfold maxLen; omega) _ _ (nth i) rfl rfl (key_nth i (by omega)) (.held (reqCells { r with state := 3, p := noPoint, a := { a with id := (i : Int) + 1 } } none 0 0 none 0 0 L' n' c')) [] (reqR_mk _) ?_
    intro w5 own5 g5
    have R5 := Lib.hid (hin.putat i hi (r := { r with state := 3, p := noPoint, a := { a with id := (i : Int) + 1 } }) (cs := reqCells { r with state := 3, p := noPoint, a := { a with id := (i : Int) + 1 } } none 0 0 none 0 0 L' n' c') (ReqSl.rep (S := fun x => x < w3.drew.heap.size ∧ x ≠ b) (⟨{ HS.out.ok with state := (by rw [inK_i64]; simp), p := inPt_no, a := { HP.out with id := hid } }, Sl.nil _ _ _, Sl.nil _ _ _, (HI1.out.keep (w' := w3.drew) (fun x hx => hkw x (by have := hx.1; omega) hx.2)).more (fun x hx => ⟨by have := hx.2; have : wm.heap.size ≤ w3.heap.size := zm3; exact Nat.lt_of_lt_of_le hx.2 zm3, by have := hx.1; omega⟩)⟩ : ReqSl w3.drew (fun x => x < w3.drew.heap.size ∧ x ≠ b) { r with state := 3, p := noPoint, a := { a with id := (i : Int) + 1 } } none 0 0 none 0 0 L' n' c')) own5 g5)
    have g6 : w.grownBy w5 (some b) := grown_grown' G4.drew g5
    clear own5 g5 hS
    go_wp2_with fail
    go_ret
    exact ⟨rfl, R5.out, g6⟩

  · have ho : x = (oc, rs) := by
      cases hro : reqOf rs id with
      | none => rw [hro] at hoc hx; rw [← hx, ← hoc]
      | some r' =>
        rw [hro] at hoc hx
        replace hoc : (if r'.state = 1 then (31 : Int) else if r'.state = 2 then 0 else 33) = oc := hoc
        replace hx : (if r'.state = 1 then ((31 : Int), rs) else if r'.state = 2 then (0, rs.set (id - 1).toNat { r' with state := 3, p := noPoint, a := { a with id := id } }) else (33, rs)) = x := hx
        by_cases h1 : r'.state = 1
        · rw [if_pos h1] at hoc hx; rw [← hoc, ← hx]
        · by_cases h2 : r'.state = 2
          · rw [if_neg h1, if_pos h2] at hoc; exact absurd hoc.symm h0
          · rw [if_neg h1, if_neg h2] at hoc hx
            rw [← hoc, ← hx]
    subst ho
    have t0 : (oc != 0) = true := by simp [h0]
    clear hoc hx h0 hr
    go_wp2_with ((refine wpList_store_all rfl 75 (.tmp 7) (.tmp 13) rfl (w1.heap.size) (reqCells r A n c B q d L nl cl) rfl rfl _ _ (Blk.now _ _ _ _ rfl) rfl (by kernel_rfl) (by simp [Value.oneCell', reqCells]) ?_; intro w2 B2 g2; have s2 : w2.cell? ⟨w1.heap.size, 1, none⟩ = some (.int .i64 r.state) := B2.cell 1; have f2 := B2.frozen 1; have hb12 := Lib.hid (show Below w1.heap.size w1 w2 from ((Below.refl _ _).alloc (Nat.le_refl _) _).grown g2 (by simp) (fun k h => by have := Option.some.inj h; omega)); have BX2 := BX.out.later hb12.out))
    go_ret
    have g3 := ((B1.out.alloc B1.out.size _).grown g2 (by have := B1.out.size; simp; omega) (fun k h => by have := Option.some.inj h; have := B1.out.size; omega))
    exact ⟨rfl, H.out.later g3, grown_none g3⟩
end Go.Proofs.YtcppkpcbfadapaaGreat
