/-
  store.Add where there is room; Count (layer 42).
  Conditions: fewer than 2^39 requests.
-/
import Derived.Test.YtcppkpcbfadapaaGreatChecked
import Derived.Test.YtcppkpcbfadapaaGreatStoreD
namespace Go.Proofs.YtcppkpcbfadapaaGreat
set_option linter.unusedVariables false
set_option linter.unusedSimpArgs false
open Go.RowKit Go.ChangeShapes Go.WideShapes
set_option maxRecDepth 100000

theorem rep_grown {w w' : World} {b : Nat} (hg : w.grownBy w' (some b)) {c : List Value} {y : Req} (hy : tReq.rep w (fun x => x < w.heap.size ∧ x ≠ b) c y) : tReq.rep w' (fun x => x < w'.heap.size ∧ x ≠ b) c y :=
  tReq.more (tReq.keep hy fun x hx => hg.block x hx.1 (by simpa using hx.2)) fun x hx => ⟨Nat.lt_of_lt_of_le hx.1 hg.size, hx.2⟩

/-- A request is added. -/
theorem StoreIn.pushed {w w' : World} {g b : Nat} {m : Int} {rs : List Req} {D : DataW (Array Value)} {vs : List (Array Value)} (h : StoreIn w g b m rs D vs) {cs : Array Value} {r : Req} (hr : tReq.rep w (fun x => x < w.heap.size ∧ x ≠ b) cs.toList r)
    (o : w'.ownsMap Tryz.prog 3 reqR b (vs.length + 1) (D.put (nth vs.length) (.held cs))) (hg : w.grownBy w' (some b)) : StoreAt w' g b m (rs ++ [r]) := by
  obtain ⟨h1, h2, h3, h4, h5, h6⟩ := h
  refine ⟨_, vs ++ [cs], ⟨⟨(hg.block g h1.lt (by simpa using h4)).trans h1.heap⟩, by simpa using o, h3.push (h2.tidy keyed) cs, h4, by simp [h5], fun i x hi => ?_⟩⟩
  rcases Nat.lt_or_ge i rs.length with hlt | hge
  · rw [List.getElem?_append_left hlt] at hi
    obtain ⟨c, hc, hy⟩ := h6 i x hi
    exact ⟨c, by rw [List.getElem?_append_left (by omega)]; exact hc, rep_grown hg hy⟩
  · have hl := (List.getElem?_eq_some_iff.1 hi).1
    simp at hl
    obtain rfl : i = rs.length := by omega
    simp at hi
    subst hi
    exact ⟨cs, by rw [← h5]; simp, rep_grown hg hr⟩

/-- One is put in another's place. -/
theorem StoreIn.putat {w w' : World} {g b : Nat} {m : Int} {rs : List Req} {D : DataW (Array Value)} {vs : List (Array Value)} (h : StoreIn w g b m rs D vs) (j : Nat) (hj : j < rs.length) {cs : Array Value} {r : Req} (hr : tReq.rep w (fun x => x < w.heap.size ∧ x ≠ b) cs.toList r)
    (o : w'.ownsMap Tryz.prog 3 reqR b (vs.length + 1) (D.put (nth j) (.held cs))) (hg : w.grownBy w' (some b)) : StoreAt w' g b m (rs.set j r) := by
  obtain ⟨h1, h2, h3, h4, h5, h6⟩ := h
  have hs := h3.set (h2.tidy keyed) j (by omega) cs
  have o2 : w'.ownsMap Tryz.prog 3 reqR b (vs.set j cs).length (D.put (nth j) (.held cs)) := by
    obtain ⟨es, clock, e1, e2, e3, e4⟩ := o
    refine ⟨es, clock, e1, e2, ?_, e4⟩
    have e5 := hs.size
    rw [e4] at e5
    have e6 := length_read (P := Tryz.prog) (k := 3) (R0 := reqR) es
    rw [← e5]
    exact Nat.le_of_eq e6.symm
  refine ⟨_, vs.set j cs, ⟨⟨(hg.block g h1.lt (by simpa using h4)).trans h1.heap⟩, o2, hs, h4, by simp [h5], fun i x hi => ?_⟩⟩
  rw [List.getElem?_set] at hi
  by_cases e : j = i
  · subst e
    rw [if_pos rfl, if_pos hj] at hi
    cases hi
    exact ⟨cs, by rw [List.getElem?_set_self (by omega)], rep_grown hg hr⟩
  · rw [if_neg e] at hi
    obtain ⟨c, hc, hy⟩ := h6 i x hi
    exact ⟨c, by rw [List.getElem?_set_ne e]; exact hc, rep_grown hg hy⟩

theorem grown_grown' {w w1 w2 : World} {g : Nat} (h : Below w.heap.size w w1) (h2 : w1.grownBy w2 (some g)) : w.grownBy w2 (some g) :=
  ⟨h2.os.trans h.os, h2.tape.trans h.tape, h2.output.trans h.output, Nat.le_trans h.size h2.size, fun k hk hne => (h2.block k (Nat.lt_of_lt_of_le hk h.size) hne).trans (h.block k hk)⟩

set_option maxHeartbeats 4000000 in
theorem storeAdd_room (g b : Nat) (m : Int) (rs : List Req) (p : Pt) (A B : Option Addr) (n c k d : Nat) (due : Int) (w : World) (h : StoreAt w g b m rs) (hf : (rs.length : Int) ≠ m) (hk : rs.length < 549755813888) (hm : InK .i64 m)
    (hp : PtIn p) (hd : InK .i64 due) (ha : Sl (tInt .i8) w (blo w.heap.size) A n c p.input.data) (hb : Sl (tInt .i8) w (blo w.heap.size) B k d p.value.data) (hn : n ≤ 140737488351232) (hk2 : k ≤ 140737488351232) :
    Calls Tryz.prog 19 #[.pointer (some ⟨g, 0, none⟩), .agg (ptCells p A n c B k d), .int .i64 due] w fun e w' =>
      e = .returned (.tuple #[.int .i64 (rs.length + 1), .int .i64 0]) ∧ StoreAt w' g b m (rs ++ [⟨rs.length + 1, 1, due, p, noAns⟩]) ∧ w.grownBy w' (some b) := by
  have H := Lib.hid h
  have HA := Lib.hid ha
  have HB := Lib.hid hb
  have HP := Lib.hid hp
  clear h ha hb hp
  unfold ptCells
  go_enter Tryz.func19, Tryz.ntmps19
  go_wp2_with fail
  obtain ⟨w1, hw1⟩ : ∃ w1, w.alloc (.cells (ptCells p A n c B k d) 67) = w1 := ⟨_, rfl⟩
  have g1 : Below w.heap.size w w1 := by rw [← hw1]; exact (Below.refl _ _).alloc (Nat.le_refl _) _
  have BX := Lib.hid (show Blk w1 w.heap.size 67 (ptCells p A n c B k d) by rw [← hw1]; exact Blk.now _ _ _ _ rfl)
  simp only [ptCells] at hw1 BX
  rw [hw1]
  have H1 := Lib.hid (H.out.later g1)
  clear hw1
  have hl := fun (x : Ext w1) => (H1.out.later x.2).len
  have c0 := fun (x : Ext w1) => (H1.out.later x.2).cells.1
  have c1 := fun (x : Ext w1) => (H1.out.later x.2).cells.2
  have tm : ((rs.length : Int) == m) = false := by simp [hf]
  refine wp_region_ext w1 (by kernel_rfl) (by kernel_rfl) (Below.refl _ _) ?_
  repeat (go_big_quiet_step (fail))
  refine wpQuiet_nil ?_
  rintro w3 ⟨⟨_, hb⟩, rfl⟩
  have G3 := Lib.hid (below_call g1 hb g1.size)
  have BX := Lib.hid (BX.out.later hb)
  have H3 := Lib.hid (H1.out.later hb)
  clear hl c0 c1 tm g1 hb H1
  have hl := H3.out.len
  have c0 := H3.out.cells.1
  go_wp2_with fail
  refine wp_region_T (fun w' => w'.cell? ⟨g, 0, none⟩ = some (.map (some b)) ∧ w'.cell? ⟨w.heap.size, 0, none⟩ = some (.int .i64 p.model) ∧ w'.cell? ⟨w.heap.size, 1, none⟩ = some (.int .i64 p.block) ∧ w'.cell? ⟨w.heap.size, 2, none⟩ = some (.int .i64 p.spent) ∧ w'.cell? ⟨w.heap.size, 3, none⟩ = some (.int .i64 p.input.h) ∧ w'.cell? ⟨w.heap.size, 4, none⟩ = some (.int .i64 p.input.v) ∧ w'.cell? ⟨w.heap.size, 5, none⟩ = some (.int .i64 p.input.c) ∧ w'.cell? ⟨w.heap.size, 6, none⟩ = some (.slice A n c) ∧ w'.cell? ⟨w.heap.size, 7, none⟩ = some (.int .i64 p.value.h) ∧ w'.cell? ⟨w.heap.size, 8, none⟩ = some (.int .i64 p.value.v) ∧ w'.cell? ⟨w.heap.size, 9, none⟩ = some (.int .i64 p.value.c) ∧ w'.cell? ⟨w.heap.size, 10, none⟩ = some (.slice B k d) ∧ Below w.heap.size w w') 10 (by kernel_rfl) ?_ (fun hS => ?_)
  · exact ⟨c0, BX.out.cell 0, BX.out.cell 1, BX.out.cell 2, BX.out.cell 3, BX.out.cell 4, BX.out.cell 5, BX.out.cell 6, BX.out.cell 7, BX.out.cell 8, BX.out.cell 9, BX.out.cell 10, G3.out.drew⟩
  refine wpAnyT_take (i := 0) (v := ?_) rfl (by as_aux_lemma => kernel_rfl) (by as_aux_lemma => kernel_rfl) (by as_aux_lemma => kernel_rfl) (by as_aux_lemma => kernel_rfl) rfl (fun _ _ _ h => h) (Or.inl ⟨by rfl, ?_⟩) hS ?_
  rotate_left
  · intro w hSw; (try dsimp only at hSw); go_simp; try with_reducible rfl
  try simp only [Act.put, List.getElem_toArray, List.getElem_cons_succ, List.getElem_cons_zero, List.setIfInBounds_toArray, List.set_cons_zero, List.set_cons_succ]
  refine wpAnyT_take (i := 1) (v := ?_) rfl (by as_aux_lemma => kernel_rfl) (by as_aux_lemma => kernel_rfl) (by as_aux_lemma => kernel_rfl) (by as_aux_lemma => kernel_rfl) rfl (fun _ _ _ h => h) (Or.inl ⟨by rfl, ?_⟩) hS ?_
  rotate_left
  · intro w hSw; (try dsimp only at hSw); go_simp; try with_reducible rfl
  try simp only [Act.put, List.getElem_toArray, List.getElem_cons_succ, List.getElem_cons_zero, List.setIfInBounds_toArray, List.set_cons_zero, List.set_cons_succ]
  refine wpAnyT_take (i := 2) (v := ?_) rfl (by as_aux_lemma => kernel_rfl) (by as_aux_lemma => kernel_rfl) (by as_aux_lemma => kernel_rfl) (by as_aux_lemma => kernel_rfl) rfl (fun _ _ _ h => h) (Or.inl ⟨by rfl, ?_⟩) hS ?_
  rotate_left
  · intro w hSw; (try dsimp only at hSw); go_simp; try with_reducible rfl
  try simp only [Act.put, List.getElem_toArray, List.getElem_cons_succ, List.getElem_cons_zero, List.setIfInBounds_toArray, List.set_cons_zero, List.set_cons_succ]
  refine wpAnyT_take (i := 3) (v := ?_) rfl (by as_aux_lemma => kernel_rfl) (by as_aux_lemma => kernel_rfl) (by as_aux_lemma => kernel_rfl) (by as_aux_lemma => kernel_rfl) rfl (fun _ _ _ h => h) (Or.inl ⟨by rfl, ?_⟩) hS ?_
  rotate_left
  · intro w hSw; (try dsimp only at hSw); go_simp; try with_reducible rfl
  try simp only [Act.put, List.getElem_toArray, List.getElem_cons_succ, List.getElem_cons_zero, List.setIfInBounds_toArray, List.set_cons_zero, List.set_cons_succ]
  refine wpAnyT_take (i := 4) (v := ?_) rfl (by as_aux_lemma => kernel_rfl) (by as_aux_lemma => kernel_rfl) (by as_aux_lemma => kernel_rfl) (by as_aux_lemma => kernel_rfl) rfl (fun _ _ _ h => h) (Or.inl ⟨by rfl, ?_⟩) hS ?_
  rotate_left
  · intro w hSw; (try dsimp only at hSw); go_simp; try with_reducible rfl
  try simp only [Act.put, List.getElem_toArray, List.getElem_cons_succ, List.getElem_cons_zero, List.setIfInBounds_toArray, List.set_cons_zero, List.set_cons_succ]
  refine wpAnyT_take (i := 5) (v := ?_) rfl (by as_aux_lemma => kernel_rfl) (by as_aux_lemma => kernel_rfl) (by as_aux_lemma => kernel_rfl) (by as_aux_lemma => kernel_rfl) rfl (fun _ _ _ h => h) (Or.inl ⟨by rfl, ?_⟩) hS ?_
  rotate_left
  · intro w hSw; (try dsimp only at hSw); go_simp; try with_reducible rfl
  try simp only [Act.put, List.getElem_toArray, List.getElem_cons_succ, List.getElem_cons_zero, List.setIfInBounds_toArray, List.set_cons_zero, List.set_cons_succ]
  refine wpAnyT_take (i := 6) (v := ?_) rfl (by as_aux_lemma => kernel_rfl) (by as_aux_lemma => kernel_rfl) (by as_aux_lemma => kernel_rfl) (by as_aux_lemma => kernel_rfl) rfl (fun _ _ _ h => h) (Or.inl ⟨by rfl, ?_⟩) hS ?_
  rotate_left
  · intro w hSw; (try dsimp only at hSw); go_simp; try with_reducible rfl
  try simp only [Act.put, List.getElem_toArray, List.getElem_cons_succ, List.getElem_cons_zero, List.setIfInBounds_toArray, List.set_cons_zero, List.set_cons_succ]
  refine wpAnyT_take (i := 7) (v := ?_) rfl (by as_aux_lemma => kernel_rfl) (by as_aux_lemma => kernel_rfl) (by as_aux_lemma => kernel_rfl) (by as_aux_lemma => kernel_rfl) rfl (fun _ _ _ h => h) (Or.inl ⟨by rfl, ?_⟩) hS ?_
  rotate_left
  · intro w hSw; (try dsimp only at hSw); go_simp; try with_reducible rfl
  try simp only [Act.put, List.getElem_toArray, List.getElem_cons_succ, List.getElem_cons_zero, List.setIfInBounds_toArray, List.set_cons_zero, List.set_cons_succ]
  refine wpAnyT_one (i := 8) (by kernel_rfl) rfl rfl (fun K hK => ?_)
  go_simp
  refine (moved_any p A B n c k d _ (HA.out.later G3.out.drew (Nat.le_refl _)) (HB.out.later G3.out.drew (Nat.le_refl _)) hn hk2).mono ?_; rintro e w4 ⟨A1, n1, c1, B1, m1, d1, rfl, hs1, hs2, hb⟩; have HS1 := Lib.hid hs1; have HS2 := Lib.hid hs2; have G4 := Lib.hid (below_call G3.out.drew hb G3.out.drew.size); have HX := Lib.hid hb; clear hs1 hs2; unfold ptCells
  refine hK.out _ _ ?_ (fun hS => ?_)
  · exact ⟨(by first | exact cell_later hb hS.1 | exact Blk.later hS.1 hb), (by first | exact cell_later hb hS.2.1 | exact Blk.later hS.2.1 hb), (by first | exact cell_later hb hS.2.2.1 | exact Blk.later hS.2.2.1 hb), (by first | exact cell_later hb hS.2.2.2.1 | exact Blk.later hS.2.2.2.1 hb), (by first | exact cell_later hb hS.2.2.2.2.1 | exact Blk.later hS.2.2.2.2.1 hb), (by first | exact cell_later hb hS.2.2.2.2.2.1 | exact Blk.later hS.2.2.2.2.2.1 hb), (by first | exact cell_later hb hS.2.2.2.2.2.2.1 | exact Blk.later hS.2.2.2.2.2.2.1 hb), (by first | exact cell_later hb hS.2.2.2.2.2.2.2.1 | exact Blk.later hS.2.2.2.2.2.2.2.1 hb), (by first | exact cell_later hb hS.2.2.2.2.2.2.2.2.1 | exact Blk.later hS.2.2.2.2.2.2.2.2.1 hb), (by first | exact cell_later hb hS.2.2.2.2.2.2.2.2.2.1 | exact Blk.later hS.2.2.2.2.2.2.2.2.2.1 hb), (by first | exact cell_later hb hS.2.2.2.2.2.2.2.2.2.2.1 | exact Blk.later hS.2.2.2.2.2.2.2.2.2.2.1 hb), (by first | exact cell_later hb hS.2.2.2.2.2.2.2.2.2.2.2.1 | exact Blk.later hS.2.2.2.2.2.2.2.2.2.2.2.1 hb), (by first | exact below_later hb hS.2.2.2.2.2.2.2.2.2.2.2.2 | exact grown_below hS.2.2.2.2.2.2.2.2.2.2.2.2 hb)⟩
  clear hK K
  try simp only [Act.put, List.getElem_toArray, List.getElem_cons_succ, List.getElem_cons_zero, List.setIfInBounds_toArray, List.set_cons_zero, List.set_cons_succ]
  refine wpAnyT_take (i := 9) (v := ?_) rfl (by as_aux_lemma => kernel_rfl) (by as_aux_lemma => kernel_rfl) (by as_aux_lemma => kernel_rfl) (by as_aux_lemma => kernel_rfl) rfl (fun _ _ _ h => h) (Or.inl ⟨by rfl, ?_⟩) hS ?_
  rotate_left
  · intro w hSw; (try dsimp only at hSw); go_simp; try with_reducible rfl
  try simp only [Act.put, List.getElem_toArray, List.getElem_cons_succ, List.getElem_cons_zero, List.setIfInBounds_toArray, List.set_cons_zero, List.set_cons_succ]
  refine wpAnyT_tail _ _ rfl rfl (by kernel_rfl) ?_
  have H4 := (H3.out.later (Below.refl _ _).drew).later HX.out
  obtain ⟨D, vs, hin⟩ := H4.out
  have hlen := hin.len
  have hgb := HX.out.size
  have hlt : b < w4.heap.size := hin.own.lt
  have hb3 : b < w.heap.size := by obtain ⟨D0, vs0, hin0⟩ := H.out.out; exact hin0.own.lt
  have g3s := G3.out.size
  refine wpList_mapUpdate_own _ rfl (.tmp 30) (.tmp 31) (.tmp 36) 111 rfl 3 75 keyed Tryz.underlying111 reqR b vs.length D rfl hin.own (by unfold maxLen; omega) _ _ (nth rs.length) rfl rfl (key_nth rs.length (by omega))
    (.held (reqCells ⟨rs.length + 1, 1, due, p, noAns⟩ A1 n1 c1 B1 m1 d1 none 0 0)) [] (reqR_mk _) ?_
  intro w5 own5 g5
  have hS : ∀ x, bin w3.drew.heap.size w4.heap.size x → x < w4.heap.size ∧ x ≠ b := fun x hx => ⟨hx.2, fun e => by have : w3.heap.size ≤ x := hx.1; omega⟩
  have R5 := Lib.hid (hin.pushed (r := ⟨rs.length + 1, 1, due, p, noAns⟩) (req_rep ⟨by rw [inK_i64]; simp; omega, by rw [inK_i64]; simp, hd, HP.out, by constructor <;> (rw [inK_i64]; simp [noAns])⟩ (HS1.out.more hS) (HS2.out.more hS) (Sl.nil _ _ _)) (by rw [show nth vs.length = nth rs.length by rw [hlen]]; exact own5) g5)
  have g6 : w.grownBy w5 (some b) := grown_grown' G4.out g5
  clear own5 g5 hb
  go_wp2_with fail
  go_ret2
  exact ⟨rfl, R5.out, g6⟩
end Go.Proofs.YtcppkpcbfadapaaGreat
