/-
  A reader of bytes (layer 8): the document's Small.
  Conditions: at most 1000000 bytes.
-/
import Derived.Test.YtanglfmolnfjeaaChecked
import Derived.Test.YtanglfmolnfjeaaJ36
import Derived.Test.YtanglfmolnfjeaaJ10
import Derived.Test.YtanglfmolnfjeaaJ15
import Derived.Test.YtanglfmolnfjeaaJ33
namespace Go.Proofs.Ytanglfmolnfjeaa
set_option linter.unusedVariables false
set_option linter.unusedSimpArgs false
open Go.RowKit Go.ChangeShapes Go.WideShapes
set_option maxRecDepth 100000
set_option maxHeartbeats 8000000

/-- A row of small numbers in new memory, and the document's reader's next state. -/
structure RetSmallR (X : Nat → Prop) (w : World) (g : Nat) (r : List Int × (List Int × Int)) (e : Ending) (w' : World) : Prop where
  out : ∃ A m c, e = .returned (.slice A m c) ∧ Sl (tInt .i8) w' (bin w.heap.size w'.heap.size) A m c r.1
  rd : RrAt X w' g r.2
  but : But (one g) w w'

theorem rrSmall_any (X : Nat → Prop) (g : Nat) (s : List Int × Int) (n : Nat) (hn : n ≤ 1000000) (w : World) (h : RrAt X w g s) (hX : X g) :
    Calls Try.prog 49 #[.pointer (some ⟨g, 0, none⟩), .int .i64 (n : Int)] w (RetSmallR X w g (smallV n s)) := by
  have H := Lib.hid h
  obtain ⟨A, m, c, L, k, hB, hs, hk, hd, hA⟩ := h.out
  have BB := Lib.hid hB
  have c2 : w.cell? ⟨g, 2, none⟩ = some (.int .i64 s.2) := hB.cell 2
  have c1 : w.cell? ⟨g, 1, none⟩ = some (.int .i64 (k : Int)) := hB.cell 1
  have c0 : w.cell? ⟨g, 0, none⟩ = some (.slice A m c) := hB.cell 0
  have f2 := hB.frozen 2
  have lt := hB.lt
  have hm := hs.n_eq
  have hmx : m ≤ 9223372036854775807 := Nat.le_trans hs.cap_le hs.max_le
  have SV := Lib.hid (show smallV n s = if s.2 = 0 ∧ 0 < n then (if s.1.length < n then ([], fails 20 s) else ((s.1.take n).map s8, (s.1.drop n, 0))) else ([], s) from rfl)
  obtain ⟨r, hr⟩ : ∃ r, smallV n s = r := ⟨_, rfl⟩
  rw [hr] at SV ⊢
  obtain ⟨l, bad⟩ := s
  simp only at c2 SV hd
  have SS := Lib.hid hs
  have HA := Lib.hid hA
  have HM := Lib.hid hm
  clear h hB hs hr hA
  by_cases q : bad = 0 ∧ 0 < n
  rotate_left
  · rw [if_neg q] at SV
    by_cases q1 : bad = 0
    · subst q1
      obtain rfl : n = 0 := by omega
      clear hd hm
      go_enter Try.func49, Try.ntmps49
      go_wp2_with fail
      go_ret
      rw [SV.out]
      exact ⟨⟨none, 0, 0, rfl, Sl.nil _ _ _⟩, H.out, But.refl _ _⟩
    · have t1 : (bad != 0) = true := by simpa using q1
      clear hd hm
      go_enter Try.func49, Try.ntmps49
      go_wp2_with fail
      go_ret
      rw [SV.out]
      exact ⟨⟨none, 0, 0, rfl, Sl.nil _ _ _⟩, H.out, But.refl _ _⟩
  rw [if_pos q] at SV
  obtain ⟨rfl, hn0⟩ := q
  have hl := hd rfl
  subst hl
  have t1 : decide ((n : Int) < 1) = false := by simp; omega
  have t2 : (n == 0) = false := by simp; omega
  rw [List.length_drop, hm] at SV
  clear hd hm
  have mk : 0 ≤ (m : Int) - (k : Int) := by omega
  go_enter Try.func49, Try.ntmps49
  by_cases hc : m - k < n
  · rw [if_pos hc] at SV
    have t3 : decide ((m : Int) - (k : Int) < (n : Int)) = true := by simp; omega
    go_wp2_with fail
    go_quiet (fail)
    have BD := Lib.hid (show Blk (w.drewN nq) g _ _ from ⟨BB.out.heap⟩)
    have SD := Lib.hid (SS.out.keep (w' := w.drewN nq) (fun b hb => rfl))
    have b0 : But (one g) w (w.drewN nq) := ⟨rfl, rfl, rfl, Nat.le_refl _, fun _ _ _ => rfl⟩
    obtain ⟨wd, hwd⟩ : ∃ x, w.drewN nq = x := ⟨_, rfl⟩
    rw [hwd] at BD SD b0
    rw [hwd]
    have B0 := Lib.hid b0
    have zd : wd.heap.size = w.heap.size := by rw [← hwd]; rfl
    have zd' := Nat.le_of_eq zd
    rw [← zd] at SD
    clear BB SS hwd b0 c0 c1 c2 f2 H
    have f2 := BD.out.frozen 2
    have c2 := BD.out.cell 2
    go_wp2_with fail
    go_ret
    rw [SV.out]
    exact ⟨⟨none, 0, 0, rfl, Sl.nil _ _ _⟩, ⟨A, m, c, L, k, by simpa [fails] using BD.out.set_ 2 (.int .i64 20), (SD.out.but (X := X) (But.one_set wd g 2 (.int .i64 20) |>.upto hX)), hk, fun h => absurd h (show ¬ (20 : Int) = 0 by decide), HA.out⟩, B0.out.trans (But.one_set _ _ _ _)⟩
  · rw [if_neg hc] at SV
    have t3 : decide ((m : Int) - (k : Int) < (n : Int)) = false := by simp; omega
    have hnm : k + n ≤ m := by omega
    go_wp2_with fail
    go_quiet (fail)
    have BD := Lib.hid (show Blk (w.drewN nq) g _ _ from ⟨BB.out.heap⟩)
    have SD := Lib.hid (SS.out.keep (w' := w.drewN nq) (fun b hb => rfl))
    have b0 : But (one g) w (w.drewN nq) := ⟨rfl, rfl, rfl, Nat.le_refl _, fun _ _ _ => rfl⟩
    obtain ⟨wd, hwd⟩ : ∃ x, w.drewN nq = x := ⟨_, rfl⟩
    rw [hwd] at BD SD b0
    rw [hwd]
    have B0 := Lib.hid b0
    have zd : wd.heap.size = w.heap.size := by rw [← hwd]; rfl
    have zd' := Nat.le_of_eq zd
    rw [← zd] at SD
    clear BB SS hwd b0 c0 c1 c2 f2 H
    go_wp2_with fail
    clear t1 t2 t3 mk hc
    go_loopw [5, 6] (fun u i wr => ∃ j : Nat, j ≤ n ∧ i = .int .i64 j ∧ Own (tInt .i8) wr (fun _ => False) wd.heap.size 47 u j (((L.drop k).take j).map s8) ∧ Blk wr g 67 #[.slice A m c, .int .i64 ((k : Int) + (j : Int)), .int .i64 0] ∧ But (one g) wd wr) (fun _ i _ => n - (intOf i).toNat)
    case atStart => exact ⟨0, Nat.zero_le _, rfl, by simpa using Own.nil _ _ _ _ _, by simpa using BD.out, But.refl _ _⟩
    case round =>
      obtain ⟨j, hj, rfl, hown, hbl, hb⟩ := hrel
      have ON := Lib.hid hown
      have BL := Lib.hid hbl
      have HB := Lib.hid hb
      have zr := hb.size
      clear hown hbl hb
      by_cases hlt : j < n
      · have p1 : (j : Int) < (n : Int) := by omega
        have ST := Lib.hid (smalls_take (L.drop k) j (by rw [List.length_drop, HM.out]; omega))
        have DE := Lib.hid (show (L.drop k).getD j 0 = L.getD (k + j) 0 by simp [List.getD_eq_getElem?_getD])
        rw [DE.out] at ST
        have SR := Lib.hid ((SD.out.but' HB.out (fun q hq => ⟨hq.1, fun e => hq.2 (by cases e; exact hX)⟩)) : Sl (tInt .u8) wr _ A m c L)
        obtain ⟨b, off, rfl, hb1, _, ce, ie⟩ := SR.out.int_at (k + j) (by omega)
        have hb2 : b < wd.heap.size := hb1.1
        have hyi := s8_in (L.getD (k + j) 0)
        have SE := Lib.hid (show s8 (L.getD (k + j) 0) = IntKind.i8.wrap (L.getD (k + j) 0) from rfl)
        obtain ⟨x, hx⟩ : ∃ x, L.getD (k + j) 0 = x := ⟨_, rfl⟩
        rw [hx] at ST ce ie hyi SE
        rw [inK_u8] at ie
        obtain ⟨ie1, ie2⟩ := ie
        rw [SE.out] at ST hyi
        obtain ⟨kj, hkj⟩ : ∃ q, k + j = q := ⟨_, rfl⟩
        have kjc : (k : Int) + (j : Int) = (kj : Int) := by omega
        rw [hkj] at ce
        have b3 : kj < m := by omega
        have b4 : 0 ≤ (kj : Int) := by omega
        have b5 : (kj : Int) < (m : Int) := by omega
        rw [kjc] at BL
        have YI := Lib.hid hyi
        have OD := Lib.hid (ON.out.heap (w' := wr.drew) rfl)
        have BLd := Lib.hid BL.out.drew
        clear hx DE SE hyi SR ON
        go_wp2_with fail
        refine wp_region_held_drew (S := fun w' => w'.cell? ⟨g, 0, none⟩ = some (.slice (some ⟨b, off, none⟩) m c) ∧ w'.cell? ⟨g, 1, none⟩ = some (.int .i64 (kj : Int)) ∧ w'.cell? ⟨b, off + kj, none⟩ = some (.int .u8 x) ∧ True) (by kernel_rfl) ?_ (fun hS => ?_)
        · exact ⟨BLd.out.cell 0, BLd.out.cell 1, ce, trivial⟩
        refine wpAnyH_take (i := 0) (v := ?_) rfl (by as_aux_lemma => kernel_rfl) (by as_aux_lemma => kernel_rfl) (by as_aux_lemma => kernel_rfl) (fun _ _ _ h => h) (Or.inl ⟨by rfl, ?_⟩) hS ?_
        rotate_left
        · intro w hSw; (try dsimp only at hSw); go_simp; try with_reducible rfl
        try simp only [Act.put, List.getElem_toArray, List.getElem_cons_succ, List.getElem_cons_zero, List.setIfInBounds_toArray, List.set_cons_zero, List.set_cons_succ]
        refine wpAnyH_take (i := 1) (v := ?_) rfl (by as_aux_lemma => kernel_rfl) (by as_aux_lemma => kernel_rfl) (by as_aux_lemma => kernel_rfl) (fun _ _ _ h => h) (Or.inl ⟨by rfl, ?_⟩) hS ?_
        rotate_left
        · intro w hSw; (try dsimp only at hSw); go_simp; try with_reducible rfl
        try simp only [Act.put, List.getElem_toArray, List.getElem_cons_succ, List.getElem_cons_zero, List.setIfInBounds_toArray, List.set_cons_zero, List.set_cons_succ]
        refine wpAnyH_take (i := 2) (v := ?_) rfl (by as_aux_lemma => kernel_rfl) (by as_aux_lemma => kernel_rfl) (by as_aux_lemma => kernel_rfl) (fun _ _ _ h => h) (Or.inl ⟨by rfl, ?_⟩) hS ?_
        rotate_left
        · intro w hSw; (try dsimp only at hSw); go_simp; try with_reducible rfl
        try simp only [Act.put, List.getElem_toArray, List.getElem_cons_succ, List.getElem_cons_zero, List.setIfInBounds_toArray, List.set_cons_zero, List.set_cons_succ]
        refine wpAnyH_take (i := 3) (v := ?_) rfl (by as_aux_lemma => kernel_rfl) (by as_aux_lemma => kernel_rfl) (by as_aux_lemma => kernel_rfl) (fun _ _ _ h => h) (Or.inl ⟨by rfl, ?_⟩) hS ?_
        rotate_left
        · intro w hSw; (try dsimp only at hSw); go_simp; try with_reducible rfl
        try simp only [Act.put, List.getElem_toArray, List.getElem_cons_succ, List.getElem_cons_zero, List.setIfInBounds_toArray, List.set_cons_zero, List.set_cons_succ]
        refine wpAnyH_take (i := 4) (v := ?_) rfl (by as_aux_lemma => kernel_rfl) (by as_aux_lemma => kernel_rfl) (by as_aux_lemma => kernel_rfl) (fun _ _ _ h => h) (Or.inl ⟨by rfl, ?_⟩) hS ?_
        rotate_left
        · intro w hSw; (try dsimp only at hSw); go_simp; try with_reducible rfl
        try simp only [Act.put, List.getElem_toArray, List.getElem_cons_succ, List.getElem_cons_zero, List.setIfInBounds_toArray, List.set_cons_zero, List.set_cons_succ]
        refine wpAnyH_take (i := 5) (v := ?_) rfl (by as_aux_lemma => kernel_rfl) (by as_aux_lemma => kernel_rfl) (by as_aux_lemma => kernel_rfl) (fun _ _ _ h => h) (Or.inl ⟨by rfl, ?_⟩) hS ?_
        rotate_left
        · intro w hSw; (try dsimp only at hSw); go_simp; try with_reducible rfl
        try simp only [Act.put, List.getElem_toArray, List.getElem_cons_succ, List.getElem_cons_zero, List.setIfInBounds_toArray, List.set_cons_zero, List.set_cons_succ]
        refine wpAnyH_take (i := 6) (v := ?_) rfl (by as_aux_lemma => kernel_rfl) (by as_aux_lemma => kernel_rfl) (by as_aux_lemma => kernel_rfl) (fun _ _ _ h => h) (Or.inl ⟨by rfl, ?_⟩) hS ?_
        rotate_left
        · intro w hSw; (try dsimp only at hSw); go_simp; try with_reducible rfl
        try simp only [Act.put, List.getElem_toArray, List.getElem_cons_succ, List.getElem_cons_zero, List.setIfInBounds_toArray, List.set_cons_zero, List.set_cons_succ]
        refine wpAnyH_take (i := 7) (v := ?_) rfl (by as_aux_lemma => kernel_rfl) (by as_aux_lemma => kernel_rfl) (by as_aux_lemma => kernel_rfl) (fun _ _ _ h => h) (Or.inl ⟨by rfl, ?_⟩) hS ?_
        rotate_left
        · intro w hSw; (try dsimp only at hSw); go_simp; try with_reducible rfl
        try simp only [Act.put, List.getElem_toArray, List.getElem_cons_succ, List.getElem_cons_zero, List.setIfInBounds_toArray, List.set_cons_zero, List.set_cons_succ]
        refine wpAnyH_take (i := 8) (v := ?_) rfl (by as_aux_lemma => kernel_rfl) (by as_aux_lemma => kernel_rfl) (by as_aux_lemma => kernel_rfl) (fun _ _ _ h => h) (Or.inl ⟨by rfl, ?_⟩) hS ?_
        rotate_left
        · intro w hSw; (try dsimp only at hSw); go_simp; try with_reducible rfl
        try simp only [Act.put, List.getElem_toArray, List.getElem_cons_succ, List.getElem_cons_zero, List.setIfInBounds_toArray, List.set_cons_zero, List.set_cons_succ]
        refine wpAnyH_take (i := 9) (v := ?_) rfl (by as_aux_lemma => kernel_rfl) (by as_aux_lemma => kernel_rfl) (by as_aux_lemma => kernel_rfl) (fun _ _ _ h => h) (Or.inl ⟨by rfl, ?_⟩) hS ?_
        rotate_left
        · intro w hSw; (try dsimp only at hSw); go_simp; try with_reducible rfl
        try simp only [Act.put, List.getElem_toArray, List.getElem_cons_succ, List.getElem_cons_zero, List.setIfInBounds_toArray, List.set_cons_zero, List.set_cons_succ]
        refine wpAnyH_take (i := 10) (v := ?_) rfl (by as_aux_lemma => kernel_rfl) (by as_aux_lemma => kernel_rfl) (by as_aux_lemma => kernel_rfl) (fun _ _ _ h => h) (Or.inl ⟨by rfl, ?_⟩) hS ?_
        rotate_left
        · intro w hSw; (try dsimp only at hSw); go_simp; try with_reducible rfl
        try simp only [Act.put, List.getElem_toArray, List.getElem_cons_succ, List.getElem_cons_zero, List.setIfInBounds_toArray, List.set_cons_zero, List.set_cons_succ]
        refine wpAnyH_take (i := 11) (v := ?_) rfl (by as_aux_lemma => kernel_rfl) (by as_aux_lemma => kernel_rfl) (by as_aux_lemma => kernel_rfl) (fun _ _ _ h => h) (Or.inl ⟨by rfl, ?_⟩) hS ?_
        rotate_left
        · intro w hSw; (try dsimp only at hSw); go_simp; try with_reducible rfl
        try simp only [Act.put, List.getElem_toArray, List.getElem_cons_succ, List.getElem_cons_zero, List.setIfInBounds_toArray, List.set_cons_zero, List.set_cons_succ]
        refine wpAnyH_ready (rs := [12]) (by kernel_rfl) (by simp) ?_
        refine AllReadyH.cons rfl (fun K hK => ?_) AllReadyH.nil
        go_simp; have hb : Below wr.drew.heap.size wr.drew (wr.drew.alloc (.cells #[.int .i8 (IntKind.i8.wrap x)] 47)) := (Below.refl _ _).alloc (Nat.le_refl _) _; refine hK.out _ _ ⟨cell_later hb hS.1, cell_later hb hS.2.1, cell_later hb hS.2.2.1, trivial⟩ (fun hS => ?_)
        clear hK K
        try simp only [Act.put, List.getElem_toArray, List.getElem_cons_succ, List.getElem_cons_zero, List.setIfInBounds_toArray, List.set_cons_zero, List.set_cons_succ]
        refine wpAnyH_ready (rs := [13]) (by kernel_rfl) (by simp) ?_
        refine AllReadyH.cons rfl (fun K hK => ?_) AllReadyH.nil
        (rw [if_pos (by rfl)]; have ne0 := Lib.hid (show some g ≠ u5.ownBlock from fun e => absurd (OD.out.lt _ e.symm).1 (by omega)); have ne1 := Lib.hid (show some b ≠ u5.ownBlock from fun e => absurd (OD.out.lt _ e.symm).1 (by omega)); refine oper_push (W := wr.drew) (cs := #[.int .i8 (IntKind.i8.wrap x)]) (E := 47) (S := fun _ => False) (base := wd.heap.size) (n := j) (v := u5) (t := tInt .i8) (.tmp 36) (.tmp 48) rfl ei_i8 rfl OD.out 1 rfl (IntKind.i8.wrap x) ⟨rfl, YI.out⟩ (by unfold maxLen; omega) (by omega) zr (fun _ h => h.elim) ?_; intro v1 w1 own1 g1 at1; have O1 := Lib.hid own1; have BX := Lib.hid (BLd.out.row g1 ne0.out); have B1 := Lib.hid ((HB.out.later (Below.refl _ wr).drew).step (But.of_row (X := fun q => wd.heap.size ≤ q) g1 (fun q e => (OD.out.lt q e).1)) (fun q h1 h2 => by omega)); refine hK.out _ _ ⟨BX.out.cell 0, BX.out.cell 1, cell_grown g1 ce ne1.out, trivial⟩ (fun hS => ?_))
        clear hK K
        try simp only [Act.put, List.getElem_toArray, List.getElem_cons_succ, List.getElem_cons_zero, List.setIfInBounds_toArray, List.set_cons_zero, List.set_cons_succ]
        refine wpAnyH_take (i := 14) (v := ?_) rfl (by as_aux_lemma => kernel_rfl) (by as_aux_lemma => kernel_rfl) (by as_aux_lemma => kernel_rfl) (fun _ _ _ h => h) (Or.inl ⟨by rfl, ?_⟩) hS ?_
        rotate_left
        · intro w hSw; (try dsimp only at hSw); go_simp; try with_reducible rfl
        try simp only [Act.put, List.getElem_toArray, List.getElem_cons_succ, List.getElem_cons_zero, List.setIfInBounds_toArray, List.set_cons_zero, List.set_cons_succ]
        refine wpAnyH_done (by kernel_rfl) ?_ _
        clear hS hb own1 g1 at1
        have c1 := BX.out.cell 1
        have f1 := BX.out.frozen 1
        go_wp2_with fail
        refine ⟨⟨j + 1, by omega, by go_num, by rw [ST.out]; exact O1.out.but1 (But.one_set _ _ _ _) (by omega), ?_, B1.out.trans (But.one_set _ _ _ _)⟩, by simp [intOf]; omega⟩
        have e2 : (k : Int) + ((j + 1 : Nat) : Int) = (kj : Int) + 1 := by omega
        rw [e2]
        simpa using BX.out.set_ 1 (.int .i64 ((kj : Int) + 1))
      · obtain rfl : j = n := by omega
        obtain ⟨A8, c8, rfl, s8'⟩ := ON.out.sl (S' := bin wd.heap.size wr.heap.size) (by decide) (fun b h1 h2 => ⟨h1, h2⟩) (fun _ h => h.elim)
        have S8 := Lib.hid s8'
        clear s8' ON hlt hj
        go_wp2_with fail
        go_ret
        rw [SV.out]
        exact ⟨⟨A8, _, c8, rfl, S8.out.more (bin_more (by omega) (Nat.le_refl _))⟩, ⟨A, m, c, L, k + j, by simpa using BL.out, SD.out.but (HB.out.upto hX), hnm, fun _ => (List.drop_drop ..).symm, HA.out⟩, B0.out.trans HB.out⟩
end Go.Proofs.Ytanglfmolnfjeaa
