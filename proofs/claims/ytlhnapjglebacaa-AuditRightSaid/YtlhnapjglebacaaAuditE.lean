/-
  The walk of the law AuditRight: what is wrong with an answer, by any exits, is what the document says.
  Conditions: none.
-/
import Derived.Test.YtlhnapjglebacaaChecked
import Derived.Test.YtlhnapjglebacaaAuditD
import Derived.Test.YtlhnapjglebacaaPush
import Derived.Deep.RegionHeld3
namespace Go.Proofs.Ytlhnapjglebacaa
set_option linter.unusedVariables false
set_option linter.unusedSimpArgs false
open Go.RowKit Go.ChangeShapes Go.WideShapes
set_option maxRecDepth 100000

theorem ei_x : EI Try.prog 39 46 (.agg #[.int .i64 0, .int .i64 0, .int .i64 0, .int .i64 0, .int .i64 0, .int .i64 0, .slice none 0 0, .bool false]) 8 80 := ⟨Try.underlying39, by kernel_rfl, rfl, by decide⟩

set_option maxHeartbeats 12800000 in
theorem auditRight_any (A : Option Addr) (n cap : Nat) (l : List Exit) (a : Ans) (M : Option Addr) (nm cm : Nat) (f : Int) (w : World) (h : Sl tExit w (blo w.heap.size) A n cap l) (ha : Sl (tInt .i32) w (blo w.heap.size) M nm cm a.logits) (hf : InK .i64 f) :
    Calls Try.prog 6 #[.slice A n cap, .agg #[.int .i64 a.id, .int .i64 a.model, .int .i64 a.block, .int .i64 a.cls, .int .i64 a.margin, .slice M nm cm, .int .i64 a.spent, .int .i64 a.why, .int .i64 a.tick], .int .i64 f] w
      fun e w' => e = .returned (.bool true) ∧ Below w.heap.size w w' := by
  have hm : n ≤ 9223372036854775807 := Nat.le_trans h.cap_le h.max_le
  have hm2 : nm ≤ 9223372036854775807 := Nat.le_trans ha.cap_le ha.max_le
  have H := Lib.hid h
  have HA := Lib.hid ha
  have HN := Lib.hid h.n_eq
  have HF := Lib.hid hf
  clear h ha hf
  have bA := Blk.now w w.heap.size 38 #[.int .i64 a.id, .int .i64 a.model, .int .i64 a.block, .int .i64 a.cls, .int .i64 a.margin, .slice M nm cm, .int .i64 a.spent, .int .i64 a.why, .int .i64 a.tick] rfl
  have g0 : Below w.heap.size w (w.alloc (.cells #[.int .i64 a.id, .int .i64 a.model, .int .i64 a.block, .int .i64 a.cls, .int .i64 a.margin, .slice M nm cm, .int .i64 a.spent, .int .i64 a.why, .int .i64 a.tick] 38)) := (Below.refl _ _).alloc (Nat.le_refl _) _
  have BA := Lib.hid bA
  have G0 := Lib.hid g0
  clear bA g0
  by_cases c1 : 40 < n
  · have t1 : decide ((40 : Int) < (n : Int)) = true := by simp; omega
    clear c1
    go_enter Try.func6, Try.ntmps6
    go_wp2_with (go_at_call 22; refine (known47_any _).mono ?_; rintro e w' ⟨rfl, hb'⟩)
    go_ret
    exact ⟨rfl, below_call G0.out hb' (by simp)⟩
  have t1 : decide ((40 : Int) < (n : Int)) = false := by simp; omega
  by_cases c2 : 40 < nm
  · have t2 : decide ((40 : Int) < (nm : Int)) = true := by simp; omega
    clear c2
    go_enter Try.func6, Try.ntmps6
    go_wp2_with (go_at_call 22; refine (known47_any _).mono ?_; rintro e w' ⟨rfl, hb'⟩)
    go_ret
    exact ⟨rfl, below_call G0.out hb' (by simp)⟩
  have t2 : decide ((40 : Int) < (nm : Int)) = false := by simp; omega
  have hn40 : n ≤ 40 := by omega
  clear c1 c2
  go_enter Try.func6, Try.ntmps6
  go_wp2_with fail
  go_loopw [7, 8] (fun s i wr => ∃ k : Nat, k ≤ n ∧ i = .int .i64 k ∧ Below w.heap.size w wr ∧ Own tExit wr (blo w.heap.size) w.heap.size 46 s k (l.take k) ∧
    Blk wr w.heap.size 38 #[.int .i64 a.id, .int .i64 a.model, .int .i64 a.block, .int .i64 a.cls, .int .i64 a.margin, .slice M nm cm, .int .i64 a.spent, .int .i64 a.why, .int .i64 a.tick] ∧ s.ownBlock ≠ some w.heap.size) (fun _ i _ => n - (intOf i).toNat)
  case atStart => exact ⟨0, Nat.zero_le _, rfl, G0.out, by rw [List.take_zero]; exact Own.nil _ _ _ _ _, BA.out, by simp [Value.ownBlock]⟩
  case round =>
    clear BA
    obtain ⟨k, hk, rfl, hb, ho, hB, hne⟩ := hrel
    have G1 := Lib.hid hb
    have HO := Lib.hid ho
    have BA := Lib.hid hB
    have HNE := Lib.hid hne
    clear hb ho hB hne
    by_cases hlt : k < n
    · have SL := Lib.hid (H.out.below G1.out (fun _ h => h))
      obtain ⟨d, L, nl, cl, b, off, hx, rfl, hS, hbs, hd, hs, c0, c1, c2, c3, c4, c5, c6, c7⟩ := SL.out.exit_at k hlt
      have hnl : nl ≤ 9223372036854775807 := Nat.le_trans hs.cap_le hs.max_le
      have HX := Lib.hid (take_snoc l k d hx)
      have HD := Lib.hid hd
      have HS := Lib.hid hs
      have z1 := BA.out.lt
      have K1 := Lib.hid (show Below wr.heap.size wr (wr.alloc (.cells #[.int .i64 d.v.cls, .int .i64 d.v.margin, .slice L nl cl, .bool d.v.enough] 41)) from (Below.refl _ _).alloc (Nat.le_refl _) _)
      have G2 := Lib.hid (below_call G1.out K1.out G1.out.size)
      have hbw : b < w.heap.size := hS
      have OL := Lib.hid HO.out.lt
      clear hx hd hs hS
      by_cases q : 40 < nl
      · have t3 : decide ((40 : Int) < (nl : Int)) = true := by simp; omega
        clear q
        go_wp2_with (go_at_call 22; refine (known47_any _).mono ?_; rintro e w' ⟨rfl, hb'⟩)
        go_ret
        exact ⟨rfl, below_call G2.out hb' G2.out.size⟩
      have t3 : decide ((40 : Int) < (nl : Int)) = false := by simp; omega
      clear q
      have OW := Lib.hid (HO.out.below K1.out (Nat.le_refl _) (fun b h => Nat.lt_trans h z1))
      have BA := Lib.hid (BA.out.later K1.out)
      have SE := Lib.hid (HS.out.keep (w' := (wr.alloc (.cells #[.int .i64 d.v.cls, .int .i64 d.v.margin, .slice L nl cl, .bool d.v.enough] 41))) (fun b hb => K1.out.block b (Nat.lt_trans hb z1)))
      have BV := Lib.hid (Blk.now wr wr.heap.size 41 #[.int .i64 d.v.cls, .int .i64 d.v.margin, .slice L nl cl, .bool d.v.enough] rfl)
      have z2 : wr.heap.size < (wr.alloc (.cells #[.int .i64 d.v.cls, .int .i64 d.v.margin, .slice L nl cl, .bool d.v.enough] 41)).heap.size := by simp
      clear HO HS SL
      go_wp2_with fail
      have c0 := cell_later K1.out c0
      have c1 := cell_later K1.out c1
      have c2 := cell_later K1.out c2
      have c3 := cell_later K1.out c3
      clear K1 c4 c5 c6 c7
      generalize (wr.alloc (.cells #[.int .i64 d.v.cls, .int .i64 d.v.margin, .slice L nl cl, .bool d.v.enough] 41)) = wq at *
      have v0 : wq.cell? ⟨wr.heap.size, 0, none⟩ = some (.int .i64 d.v.cls) := BV.out.cell 0
      have v1_ : wq.cell? ⟨wr.heap.size, 1, none⟩ = some (.int .i64 d.v.margin) := BV.out.cell 1
      have v2 : wq.cell? ⟨wr.heap.size, 2, none⟩ = some (.slice L nl cl) := BV.out.cell 2
      have v3 : wq.cell? ⟨wr.heap.size, 3, none⟩ = some (.bool d.v.enough) := BV.out.cell 3
      have OW := Lib.hid (OW.out.heap (w' := wq.drew) rfl)
      have BA := Lib.hid BA.out.drew
      have SE := Lib.hid (SE.out.keep (w' := wq.drew) (fun b hb => rfl))
      have z2 : wr.heap.size < wq.drew.heap.size := z2
      have ne0 := Lib.hid (show some b ≠ u7.ownBlock from fun e => absurd (OL.out b e.symm).1 (Nat.not_le.2 hbw))
      have nev := Lib.hid (show some wr.heap.size ≠ u7.ownBlock from fun e => absurd (OL.out _ e.symm).2 (Nat.lt_irrefl _))
      refine wp_region_held_drew (S := fun w' => w'.cell? ⟨b, off + k * 8, none⟩ = some (.int .i64 d.model) ∧ w'.cell? ⟨b, off + k * 8 + 1, none⟩ = some (.int .i64 d.block) ∧ w'.cell? ⟨b, off + k * 8 + 2, none⟩ = some (.int .i64 d.steps) ∧ w'.cell? ⟨b, off + k * 8 + 3, none⟩ = some (.int .i64 d.spent) ∧ w'.cell? ⟨wr.heap.size, 0, none⟩ = some (.int .i64 d.v.cls) ∧ w'.cell? ⟨wr.heap.size, 1, none⟩ = some (.int .i64 d.v.margin) ∧ w'.cell? ⟨wr.heap.size, 2, none⟩ = some (.slice L nl cl) ∧ w'.cell? ⟨wr.heap.size, 3, none⟩ = some (.bool d.v.enough) ∧ Below w.heap.size w w') (by kernel_rfl) ?_ (fun hS => ?_)
      · exact ⟨c0, c1, c2, c3, v0, v1_, v2, v3, G2.out.drew⟩
      refine wpAnyH_take (i := 0) (v := ?_) rfl (by as_aux_lemma => kernel_rfl) (by as_aux_lemma => kernel_rfl) (by as_aux_lemma => kernel_rfl) (fun _ _ _ h => h) (Or.inl ⟨by rfl, ?_⟩) hS ?_
      rotate_left
      · intro w hSw; (try dsimp only at hSw); go_simp; try with_reducible rfl
      try simp only [Act.put, List.getElem_toArray, List.getElem_cons_succ, List.getElem_cons_zero, List.setIfInBounds_toArray, List.set_cons_zero, List.set_cons_succ]
      refine wpAnyH_take (i := 1) (v := ?_) rfl (by as_aux_lemma => kernel_rfl) (by as_aux_lemma => kernel_rfl) (by as_aux_lemma => kernel_rfl) (fun _ _ _ h => h) (Or.inl ⟨by rfl, ?_⟩) hS ?_
      rotate_left
      · intro w hSw; (try dsimp only at hSw); go_simp; try with_reducible rfl
      try simp only [Act.put, List.getElem_toArray, List.getElem_cons_succ, List.getElem_cons_zero, List.setIfInBounds_toArray, List.set_cons_zero, List.set_cons_succ]
      refine wpAnyH_take (i := 2) (v := ?_) rfl (by as_aux_lemma => kernel_rfl) (by as_aux_lemma => kernel_rfl) (by as_aux_lemma => kernel_rfl) (fun _ _ _ h => h) (Or.inl ⟨by rfl, ?_⟩) hS ?_
      rotate_left
      · intro w hSw; (try dsimp only at hSw); go_simp; try with_reducible rfl
      try simp only [Act.put, List.getElem_toArray, List.getElem_cons_succ, List.getElem_cons_zero, List.setIfInBounds_toArray, List.set_cons_zero, List.set_cons_succ]
      refine wpAnyH_take (i := 3) (v := ?_) rfl (by as_aux_lemma => kernel_rfl) (by as_aux_lemma => kernel_rfl) (by as_aux_lemma => kernel_rfl) (fun _ _ _ h => h) (Or.inl ⟨by rfl, ?_⟩) hS ?_
      rotate_left
      · intro w hSw; (try dsimp only at hSw); go_simp; try with_reducible rfl
      try simp only [Act.put, List.getElem_toArray, List.getElem_cons_succ, List.getElem_cons_zero, List.setIfInBounds_toArray, List.set_cons_zero, List.set_cons_succ]
      refine wpAnyH_take (i := 4) (v := ?_) rfl (by as_aux_lemma => kernel_rfl) (by as_aux_lemma => kernel_rfl) (by as_aux_lemma => kernel_rfl) (fun _ _ _ h => h) (Or.inl ⟨by rfl, ?_⟩) hS ?_
      rotate_left
      · intro w hSw; (try dsimp only at hSw); go_simp; try with_reducible rfl
      try simp only [Act.put, List.getElem_toArray, List.getElem_cons_succ, List.getElem_cons_zero, List.setIfInBounds_toArray, List.set_cons_zero, List.set_cons_succ]
      refine wpAnyH_take (i := 5) (v := ?_) rfl (by as_aux_lemma => kernel_rfl) (by as_aux_lemma => kernel_rfl) (by as_aux_lemma => kernel_rfl) (fun _ _ _ h => h) (Or.inl ⟨by rfl, ?_⟩) hS ?_
      rotate_left
      · intro w hSw; (try dsimp only at hSw); go_simp; try with_reducible rfl
      try simp only [Act.put, List.getElem_toArray, List.getElem_cons_succ, List.getElem_cons_zero, List.setIfInBounds_toArray, List.set_cons_zero, List.set_cons_succ]
      refine wpAnyH_take (i := 6) (v := ?_) rfl (by as_aux_lemma => kernel_rfl) (by as_aux_lemma => kernel_rfl) (by as_aux_lemma => kernel_rfl) (fun _ _ _ h => h) (Or.inl ⟨by rfl, ?_⟩) hS ?_
      rotate_left
      · intro w hSw; (try dsimp only at hSw); go_simp; try with_reducible rfl
      try simp only [Act.put, List.getElem_toArray, List.getElem_cons_succ, List.getElem_cons_zero, List.setIfInBounds_toArray, List.set_cons_zero, List.set_cons_succ]
      refine wpAnyH_take (i := 7) (v := ?_) rfl (by as_aux_lemma => kernel_rfl) (by as_aux_lemma => kernel_rfl) (by as_aux_lemma => kernel_rfl) (fun _ _ _ h => h) (Or.inl ⟨by rfl, ?_⟩) hS ?_
      rotate_left
      · intro w hSw; (try dsimp only at hSw); go_simp; try with_reducible rfl
      try simp only [Act.put, List.getElem_toArray, List.getElem_cons_succ, List.getElem_cons_zero, List.setIfInBounds_toArray, List.set_cons_zero, List.set_cons_succ]
      refine wpAnyH_take (i := 8) (v := ?_) rfl (by as_aux_lemma => kernel_rfl) (by as_aux_lemma => kernel_rfl) (by as_aux_lemma => kernel_rfl) (fun _ _ _ h => h) (Or.inl ⟨by rfl, ?_⟩) hS ?_
      rotate_left
      · intro w hSw; (try dsimp only at hSw); go_simp; try with_reducible rfl
      try simp only [Act.put, List.getElem_toArray, List.getElem_cons_succ, List.getElem_cons_zero, List.setIfInBounds_toArray, List.set_cons_zero, List.set_cons_succ]
      refine wpAnyH_take (i := 9) (v := ?_) rfl (by as_aux_lemma => kernel_rfl) (by as_aux_lemma => kernel_rfl) (by as_aux_lemma => kernel_rfl) (fun _ _ _ h => h) (Or.inl ⟨by rfl, ?_⟩) hS ?_
      rotate_left
      · intro w hSw; (try dsimp only at hSw); go_simp; try with_reducible rfl
      try simp only [Act.put, List.getElem_toArray, List.getElem_cons_succ, List.getElem_cons_zero, List.setIfInBounds_toArray, List.set_cons_zero, List.set_cons_succ]
      refine wpAnyH_take (i := 10) (v := ?_) rfl (by as_aux_lemma => kernel_rfl) (by as_aux_lemma => kernel_rfl) (by as_aux_lemma => kernel_rfl) (fun _ _ _ h => h) (Or.inl ⟨by rfl, ?_⟩) hS ?_
      rotate_left
      · intro w hSw; (try dsimp only at hSw); go_simp; try with_reducible rfl
      try simp only [Act.put, List.getElem_toArray, List.getElem_cons_succ, List.getElem_cons_zero, List.setIfInBounds_toArray, List.set_cons_zero, List.set_cons_succ]
      refine wpAnyH_take (i := 11) (v := ?_) rfl (by as_aux_lemma => kernel_rfl) (by as_aux_lemma => kernel_rfl) (by as_aux_lemma => kernel_rfl) (fun _ _ _ h => h) (Or.inl ⟨by rfl, ?_⟩) hS ?_
      rotate_left
      · intro w hSw; (try dsimp only at hSw); go_simp; try with_reducible rfl
      try simp only [Act.put, List.getElem_toArray, List.getElem_cons_succ, List.getElem_cons_zero, List.setIfInBounds_toArray, List.set_cons_zero, List.set_cons_succ]
      refine wpAnyH_take (i := 12) (v := ?_) rfl (by as_aux_lemma => kernel_rfl) (by as_aux_lemma => kernel_rfl) (by as_aux_lemma => kernel_rfl) (fun _ _ _ h => h) (Or.inl ⟨by rfl, ?_⟩) hS ?_
      rotate_left
      · intro w hSw; (try dsimp only at hSw); go_simp; try with_reducible rfl
      try simp only [Act.put, List.getElem_toArray, List.getElem_cons_succ, List.getElem_cons_zero, List.setIfInBounds_toArray, List.set_cons_zero, List.set_cons_succ]
      refine wpAnyH_take (i := 13) (v := ?_) rfl (by as_aux_lemma => kernel_rfl) (by as_aux_lemma => kernel_rfl) (by as_aux_lemma => kernel_rfl) (fun _ _ _ h => h) (Or.inl ⟨by rfl, ?_⟩) hS ?_
      rotate_left
      · intro w hSw; (try dsimp only at hSw); go_simp; try with_reducible rfl
      try simp only [Act.put, List.getElem_toArray, List.getElem_cons_succ, List.getElem_cons_zero, List.setIfInBounds_toArray, List.set_cons_zero, List.set_cons_succ]
      refine wpAnyH_take (i := 14) (v := ?_) rfl (by as_aux_lemma => kernel_rfl) (by as_aux_lemma => kernel_rfl) (by as_aux_lemma => kernel_rfl) (fun _ _ _ h => h) (Or.inl ⟨by rfl, ?_⟩) hS ?_
      rotate_left
      · intro w hSw; (try dsimp only at hSw); go_simp; try with_reducible rfl
      try simp only [Act.put, List.getElem_toArray, List.getElem_cons_succ, List.getElem_cons_zero, List.setIfInBounds_toArray, List.set_cons_zero, List.set_cons_succ]
      refine wpAnyH_take (i := 15) (v := ?_) rfl (by as_aux_lemma => kernel_rfl) (by as_aux_lemma => kernel_rfl) (by as_aux_lemma => kernel_rfl) (fun _ _ _ h => h) (Or.inl ⟨by rfl, ?_⟩) hS ?_
      rotate_left
      · intro w hSw; (try dsimp only at hSw); go_simp; try with_reducible rfl
      try simp only [Act.put, List.getElem_toArray, List.getElem_cons_succ, List.getElem_cons_zero, List.setIfInBounds_toArray, List.set_cons_zero, List.set_cons_succ]
      refine wpAnyH_take (i := 16) (v := ?_) rfl (by as_aux_lemma => kernel_rfl) (by as_aux_lemma => kernel_rfl) (by as_aux_lemma => kernel_rfl) (fun _ _ _ h => h) (Or.inl ⟨by rfl, ?_⟩) hS ?_
      rotate_left
      · intro w hSw; (try dsimp only at hSw); go_simp; try with_reducible rfl
      try simp only [Act.put, List.getElem_toArray, List.getElem_cons_succ, List.getElem_cons_zero, List.setIfInBounds_toArray, List.set_cons_zero, List.set_cons_succ]
      refine wpAnyH_take (i := 17) (v := ?_) rfl (by as_aux_lemma => kernel_rfl) (by as_aux_lemma => kernel_rfl) (by as_aux_lemma => kernel_rfl) (fun _ _ _ h => h) (Or.inl ⟨by rfl, ?_⟩) hS ?_
      rotate_left
      · intro w hSw; (try dsimp only at hSw); go_simp; try with_reducible rfl
      try simp only [Act.put, List.getElem_toArray, List.getElem_cons_succ, List.getElem_cons_zero, List.setIfInBounds_toArray, List.set_cons_zero, List.set_cons_succ]
      refine wpAnyH_take (i := 18) (v := ?_) rfl (by as_aux_lemma => kernel_rfl) (by as_aux_lemma => kernel_rfl) (by as_aux_lemma => kernel_rfl) (fun _ _ _ h => h) (Or.inl ⟨by rfl, ?_⟩) hS ?_
      rotate_left
      · intro w hSw; (try dsimp only at hSw); go_simp; try with_reducible rfl
      try simp only [Act.put, List.getElem_toArray, List.getElem_cons_succ, List.getElem_cons_zero, List.setIfInBounds_toArray, List.set_cons_zero, List.set_cons_succ]
      refine wpAnyH_take (i := 19) (v := ?_) rfl (by as_aux_lemma => kernel_rfl) (by as_aux_lemma => kernel_rfl) (by as_aux_lemma => kernel_rfl) (fun _ _ _ h => h) (Or.inl ⟨by rfl, ?_⟩) hS ?_
      rotate_left
      · intro w hSw; (try dsimp only at hSw); go_simp; try with_reducible rfl
      try simp only [Act.put, List.getElem_toArray, List.getElem_cons_succ, List.getElem_cons_zero, List.setIfInBounds_toArray, List.set_cons_zero, List.set_cons_succ]
      refine wpAnyH_take (i := 20) (v := ?_) rfl (by as_aux_lemma => kernel_rfl) (by as_aux_lemma => kernel_rfl) (by as_aux_lemma => kernel_rfl) (fun _ _ _ h => h) (Or.inl ⟨by rfl, ?_⟩) hS ?_
      rotate_left
      · intro w hSw; (try dsimp only at hSw); go_simp; try with_reducible rfl
      try simp only [Act.put, List.getElem_toArray, List.getElem_cons_succ, List.getElem_cons_zero, List.setIfInBounds_toArray, List.set_cons_zero, List.set_cons_succ]
      refine wpAnyH_take (i := 21) (v := ?_) rfl (by as_aux_lemma => kernel_rfl) (by as_aux_lemma => kernel_rfl) (by as_aux_lemma => kernel_rfl) (fun _ _ _ h => h) (Or.inl ⟨by rfl, ?_⟩) hS ?_
      rotate_left
      · intro w hSw; (try dsimp only at hSw); go_simp; try with_reducible rfl
      try simp only [Act.put, List.getElem_toArray, List.getElem_cons_succ, List.getElem_cons_zero, List.setIfInBounds_toArray, List.set_cons_zero, List.set_cons_succ]
      refine wpAnyH_take (i := 22) (v := ?_) rfl (by as_aux_lemma => kernel_rfl) (by as_aux_lemma => kernel_rfl) (by as_aux_lemma => kernel_rfl) (fun _ _ _ h => h) (Or.inl ⟨by rfl, ?_⟩) hS ?_
      rotate_left
      · intro w hSw; (try dsimp only at hSw); go_simp; try with_reducible rfl
      try simp only [Act.put, List.getElem_toArray, List.getElem_cons_succ, List.getElem_cons_zero, List.setIfInBounds_toArray, List.set_cons_zero, List.set_cons_succ]
      refine wpAnyH_take (i := 23) (v := ?_) rfl (by as_aux_lemma => kernel_rfl) (by as_aux_lemma => kernel_rfl) (by as_aux_lemma => kernel_rfl) (fun _ _ _ h => h) (Or.inl ⟨by rfl, ?_⟩) hS ?_
      rotate_left
      · intro w hSw; (try dsimp only at hSw); go_simp; try with_reducible rfl
      try simp only [Act.put, List.getElem_toArray, List.getElem_cons_succ, List.getElem_cons_zero, List.setIfInBounds_toArray, List.set_cons_zero, List.set_cons_succ]
      refine wpAnyH_take (i := 24) (v := ?_) rfl (by as_aux_lemma => kernel_rfl) (by as_aux_lemma => kernel_rfl) (by as_aux_lemma => kernel_rfl) (fun _ _ _ h => h) (Or.inl ⟨by rfl, ?_⟩) hS ?_
      rotate_left
      · intro w hSw; (try dsimp only at hSw); go_simp; try with_reducible rfl
      try simp only [Act.put, List.getElem_toArray, List.getElem_cons_succ, List.getElem_cons_zero, List.setIfInBounds_toArray, List.set_cons_zero, List.set_cons_succ]
      refine wpAnyH_take (i := 25) (v := ?_) rfl (by as_aux_lemma => kernel_rfl) (by as_aux_lemma => kernel_rfl) (by as_aux_lemma => kernel_rfl) (fun _ _ _ h => h) (Or.inl ⟨by rfl, ?_⟩) hS ?_
      rotate_left
      · intro w hSw; (try dsimp only at hSw); go_simp; try with_reducible rfl
      try simp only [Act.put, List.getElem_toArray, List.getElem_cons_succ, List.getElem_cons_zero, List.setIfInBounds_toArray, List.set_cons_zero, List.set_cons_succ]
      refine wpAnyH_take (i := 26) (v := ?_) rfl (by as_aux_lemma => kernel_rfl) (by as_aux_lemma => kernel_rfl) (by as_aux_lemma => kernel_rfl) (fun _ _ _ h => h) (Or.inl ⟨by rfl, ?_⟩) hS ?_
      rotate_left
      · intro w hSw; (try dsimp only at hSw); go_simp; try with_reducible rfl
      try simp only [Act.put, List.getElem_toArray, List.getElem_cons_succ, List.getElem_cons_zero, List.setIfInBounds_toArray, List.set_cons_zero, List.set_cons_succ]
      refine wpAnyH_take (i := 27) (v := ?_) rfl (by as_aux_lemma => kernel_rfl) (by as_aux_lemma => kernel_rfl) (by as_aux_lemma => kernel_rfl) (fun _ _ _ h => h) (Or.inl ⟨by rfl, ?_⟩) hS ?_
      rotate_left
      · intro w hSw; (try dsimp only at hSw); go_simp; try with_reducible rfl
      try simp only [Act.put, List.getElem_toArray, List.getElem_cons_succ, List.getElem_cons_zero, List.setIfInBounds_toArray, List.set_cons_zero, List.set_cons_succ]
      refine wpAnyH_take (i := 28) (v := ?_) rfl (by as_aux_lemma => kernel_rfl) (by as_aux_lemma => kernel_rfl) (by as_aux_lemma => kernel_rfl) (fun _ _ _ h => h) (Or.inl ⟨by rfl, ?_⟩) hS ?_
      rotate_left
      · intro w hSw; (try dsimp only at hSw); go_simp; try with_reducible rfl
      try simp only [Act.put, List.getElem_toArray, List.getElem_cons_succ, List.getElem_cons_zero, List.setIfInBounds_toArray, List.set_cons_zero, List.set_cons_succ]
      refine wpAnyH_take (i := 29) (v := ?_) rfl (by as_aux_lemma => kernel_rfl) (by as_aux_lemma => kernel_rfl) (by as_aux_lemma => kernel_rfl) (fun _ _ _ h => h) (Or.inl ⟨by rfl, ?_⟩) hS ?_
      rotate_left
      · intro w hSw; (try dsimp only at hSw); go_simp; try with_reducible rfl
      try simp only [Act.put, List.getElem_toArray, List.getElem_cons_succ, List.getElem_cons_zero, List.setIfInBounds_toArray, List.set_cons_zero, List.set_cons_succ]
      refine wpAnyH_take (i := 30) (v := ?_) rfl (by as_aux_lemma => kernel_rfl) (by as_aux_lemma => kernel_rfl) (by as_aux_lemma => kernel_rfl) (fun _ _ _ h => h) (Or.inl ⟨by rfl, ?_⟩) hS ?_
      rotate_left
      · intro w hSw; (try dsimp only at hSw); go_simp; try with_reducible rfl
      try simp only [Act.put, List.getElem_toArray, List.getElem_cons_succ, List.getElem_cons_zero, List.setIfInBounds_toArray, List.set_cons_zero, List.set_cons_succ]
      refine wpAnyH_ready (rs := [31]) (by kernel_rfl) (by simp) ?_
      refine AllReadyH.cons rfl (fun K hK => ?_) AllReadyH.nil
      go_simp
      have hb : Below wq.drew.heap.size wq.drew (wq.drew.alloc (.cells #[.int .i64 d.model, .int .i64 d.block, .int .i64 d.steps, .int .i64 d.spent, .int .i64 d.v.cls, .int .i64 d.v.margin, .slice L nl cl, .bool d.v.enough] 46)) := (Below.refl _ _).alloc (Nat.le_refl _) _
      refine hK.out _ _ ?_ (fun hS => ?_)
      · exact ⟨cell_later hb hS.1, cell_later hb hS.2.1, cell_later hb hS.2.2.1, cell_later hb hS.2.2.2.1, cell_later hb hS.2.2.2.2.1, cell_later hb hS.2.2.2.2.2.1, cell_later hb hS.2.2.2.2.2.2.1, cell_later hb hS.2.2.2.2.2.2.2.1, below_later hb hS.2.2.2.2.2.2.2.2⟩
      clear hK K
      try simp only [Act.put, List.getElem_toArray, List.getElem_cons_succ, List.getElem_cons_zero, List.setIfInBounds_toArray, List.set_cons_zero, List.set_cons_succ]
      refine wpAnyH_ready (rs := [32]) (by kernel_rfl) (by simp) ?_
      refine AllReadyH.cons rfl (fun K hK => ?_) AllReadyH.nil
      (rw [if_pos (by rfl)]; refine oper_push (t := tExit) (.tmp 38) (.tmp 69) rfl ei_x rfl OW.out 1 rfl d (exit_rep HD.out SE.out) (by unfold maxLen; omega) (by omega) G2.out.drew.size (fun b hb => ⟨Nat.lt_of_lt_of_le (show b < w.heap.size from hb) G2.out.drew.size, fun e => absurd (OW.out.lt b e.symm).1 (Nat.not_le.2 hb)⟩) ?_; intro v1 w1 own1 g1 at1; refine hK.out _ _ ⟨cell_grown g1 c0 (ne0.out), cell_grown g1 c1 ne0.out, cell_grown g1 c2 ne0.out, cell_grown g1 c3 ne0.out, cell_grown g1 v0 nev.out, cell_grown g1 v1_ nev.out, cell_grown g1 v2 nev.out, cell_grown g1 v3 nev.out, G2.out.drew.grown g1 G2.out.drew.size (fun k h => (OW.out.lt k h).1)⟩ (fun hS => ?_))
      clear hK K
      try simp only [Act.put, List.getElem_toArray, List.getElem_cons_succ, List.getElem_cons_zero, List.setIfInBounds_toArray, List.set_cons_zero, List.set_cons_succ]
      refine wpAnyH_take (i := 33) (v := ?_) rfl (by as_aux_lemma => kernel_rfl) (by as_aux_lemma => kernel_rfl) (by as_aux_lemma => kernel_rfl) (fun _ _ _ h => h) (Or.inl ⟨by rfl, ?_⟩) hS ?_
      rotate_left
      · intro w hSw; (try dsimp only at hSw); go_simp; try with_reducible rfl
      try simp only [Act.put, List.getElem_toArray, List.getElem_cons_succ, List.getElem_cons_zero, List.setIfInBounds_toArray, List.set_cons_zero, List.set_cons_succ]
      refine wpAnyH_done (by kernel_rfl) ?_ _
      clear hS hb c0 c1 c2 c3 v0 v1_ v2 v3
      go_wp2_with fail
      refine ⟨⟨k + 1, by omega, by go_num, G2.out.drew.grown g1 G2.out.drew.size (fun k h => (OW.out.lt k h).1), by rw [HX.out]; exact own1, ⟨?_⟩, ?_⟩, by simp [intOf]; omega⟩
      · rw [g1.block _ BA.out.lt (fun e => HNE.out e.symm)]; exact BA.out.heap
      · rcases at1 with e | e
        · rw [e]; exact HNE.out
        · rw [e]; intro h; injection h; omega
    · obtain rfl : k = n := by omega
      have HO := Lib.hid (show Own tExit wr (blo w.heap.size) w.heap.size 46 u7 k l by have := HO.out; have hl := HN.out; rwa [List.take_of_length_le (by omega)] at this)
      obtain ⟨A2, d2, rfl, sw⟩ := HO.out.sl (S' := blo wr.heap.size) (by decide) (fun b _ h => h) (fun b h => Nat.lt_of_lt_of_le (show b < w.heap.size from h) G1.out.size)
      have kL : Below wr.heap.size wr (wr.alloc (.cells #[.string { data := #[102, 105, 110, 101] }, .string { data := #[110, 111, 101, 120, 105, 116] }, .string { data := #[118, 101, 114, 100, 105, 99, 116] }, .string { data := #[115, 112, 101, 110, 116] }, .string { data := #[112, 97, 115, 115, 101, 100] }, .string { data := #[119, 104, 121] }] 9)) := (Below.refl _ _).alloc (Nat.le_refl _) _
      have SW := Lib.hid (sw.later kL (Nat.le_refl _))
      have SH := Lib.hid ((H.out.later G1.out (Nat.le_refl _)).later kL (Nat.le_refl _))
      have SM := Lib.hid ((HA.out.later G1.out (Nat.le_refl _)).later kL (Nat.le_refl _))
      have BZ := Lib.hid (BA.out.later kL)
      have GZ := Lib.hid (below_call G1.out kL G1.out.size)
      clear sw kL HO BA HNE
      rcases name_cases f with ⟨h, e⟩ | ⟨h, e⟩ | rfl | rfl | rfl | rfl | rfl | rfl
      · have t3 : decide (0 ≤ f) = false := by simp; omega
        have NE := Lib.hid e
        clear e
        go_wp2_with fail
        generalize (wr.alloc (.cells #[.string { data := #[102, 105, 110, 101] }, .string { data := #[110, 111, 101, 120, 105, 116] }, .string { data := #[118, 101, 114, 100, 105, 99, 116] }, .string { data := #[115, 112, 101, 110, 116] }, .string { data := #[112, 97, 115, 115, 101, 100] }, .string { data := #[119, 104, 121] }] 9)) = wz at *
        have a0 : ∀ (x : Ext wz), x.1.cell? ⟨w.heap.size, 0, none⟩ = some (.int .i64 a.id) := fun x => (BZ.out.ext x).cell 0
        have a1 : ∀ (x : Ext wz), x.1.cell? ⟨w.heap.size, 1, none⟩ = some (.int .i64 a.model) := fun x => (BZ.out.ext x).cell 1
        have a2 : ∀ (x : Ext wz), x.1.cell? ⟨w.heap.size, 2, none⟩ = some (.int .i64 a.block) := fun x => (BZ.out.ext x).cell 2
        have a3 : ∀ (x : Ext wz), x.1.cell? ⟨w.heap.size, 3, none⟩ = some (.int .i64 a.cls) := fun x => (BZ.out.ext x).cell 3
        have a4 : ∀ (x : Ext wz), x.1.cell? ⟨w.heap.size, 4, none⟩ = some (.int .i64 a.margin) := fun x => (BZ.out.ext x).cell 4
        have a5 : ∀ (x : Ext wz), x.1.cell? ⟨w.heap.size, 5, none⟩ = some (.slice M nm cm) := fun x => (BZ.out.ext x).cell 5
        have a6 : ∀ (x : Ext wz), x.1.cell? ⟨w.heap.size, 6, none⟩ = some (.int .i64 a.spent) := fun x => (BZ.out.ext x).cell 6
        have a7 : ∀ (x : Ext wz), x.1.cell? ⟨w.heap.size, 7, none⟩ = some (.int .i64 a.why) := fun x => (BZ.out.ext x).cell 7
        have a8 : ∀ (x : Ext wz), x.1.cell? ⟨w.heap.size, 8, none⟩ = some (.int .i64 a.tick) := fun x => (BZ.out.ext x).cell 8
        have E1 := Lib.hid (fun x : Ext wz => calls_ext x (right_any A k cap l a M nm cm x.1 (SH.out.later x.2 (Nat.le_refl _)) (SM.out.later x.2 (Nat.le_refl _))))
        have E2 := Lib.hid (fun x : Ext wz => calls_ext x (refRight_any A2 k d2 l a M nm cm x.1 (SW.out.later x.2 (Nat.le_refl _)) (SM.out.later x.2 (Nat.le_refl _))))
        have E3 := Lib.hid (fun x : Ext wz => calls_ext x (name_any f x.1 HF.out))
        have E4 := Lib.hid (fun x : Ext wz => calls_ext x (known47_any x.1))
        rw [NE.out] at E3
        generalize faultOf l a = y at *
        have ty : (y == y) = true := by simp
        refine wp_region_ext wz (by kernel_rfl) (by kernel_rfl) (Below.refl _ _) ?_
        repeat (go_big_quiet_step ((first | exact E1.out _ | exact E2.out _ | exact E3.out _ | exact E4.out _)))
        refine wpQuiet_nil ?_
        rintro _ ⟨⟨w5, hB⟩, rfl⟩
        have g5 := below_call GZ.out hB GZ.out.size
        go_wp2_with fail
        go_ret
        exact ⟨rfl, g5⟩
      · have t3 : decide (0 ≤ f) = true := by simp; omega
        have t4 : decide (f < 6) = false := by simp; omega
        have NE := Lib.hid e
        clear e
        go_wp2_with fail
        generalize (wr.alloc (.cells #[.string { data := #[102, 105, 110, 101] }, .string { data := #[110, 111, 101, 120, 105, 116] }, .string { data := #[118, 101, 114, 100, 105, 99, 116] }, .string { data := #[115, 112, 101, 110, 116] }, .string { data := #[112, 97, 115, 115, 101, 100] }, .string { data := #[119, 104, 121] }] 9)) = wz at *
        have a0 : ∀ (x : Ext wz), x.1.cell? ⟨w.heap.size, 0, none⟩ = some (.int .i64 a.id) := fun x => (BZ.out.ext x).cell 0
        have a1 : ∀ (x : Ext wz), x.1.cell? ⟨w.heap.size, 1, none⟩ = some (.int .i64 a.model) := fun x => (BZ.out.ext x).cell 1
        have a2 : ∀ (x : Ext wz), x.1.cell? ⟨w.heap.size, 2, none⟩ = some (.int .i64 a.block) := fun x => (BZ.out.ext x).cell 2
        have a3 : ∀ (x : Ext wz), x.1.cell? ⟨w.heap.size, 3, none⟩ = some (.int .i64 a.cls) := fun x => (BZ.out.ext x).cell 3
        have a4 : ∀ (x : Ext wz), x.1.cell? ⟨w.heap.size, 4, none⟩ = some (.int .i64 a.margin) := fun x => (BZ.out.ext x).cell 4
        have a5 : ∀ (x : Ext wz), x.1.cell? ⟨w.heap.size, 5, none⟩ = some (.slice M nm cm) := fun x => (BZ.out.ext x).cell 5
        have a6 : ∀ (x : Ext wz), x.1.cell? ⟨w.heap.size, 6, none⟩ = some (.int .i64 a.spent) := fun x => (BZ.out.ext x).cell 6
        have a7 : ∀ (x : Ext wz), x.1.cell? ⟨w.heap.size, 7, none⟩ = some (.int .i64 a.why) := fun x => (BZ.out.ext x).cell 7
        have a8 : ∀ (x : Ext wz), x.1.cell? ⟨w.heap.size, 8, none⟩ = some (.int .i64 a.tick) := fun x => (BZ.out.ext x).cell 8
        have E1 := Lib.hid (fun x : Ext wz => calls_ext x (right_any A k cap l a M nm cm x.1 (SH.out.later x.2 (Nat.le_refl _)) (SM.out.later x.2 (Nat.le_refl _))))
        have E2 := Lib.hid (fun x : Ext wz => calls_ext x (refRight_any A2 k d2 l a M nm cm x.1 (SW.out.later x.2 (Nat.le_refl _)) (SM.out.later x.2 (Nat.le_refl _))))
        have E3 := Lib.hid (fun x : Ext wz => calls_ext x (name_any f x.1 HF.out))
        have E4 := Lib.hid (fun x : Ext wz => calls_ext x (known47_any x.1))
        rw [NE.out] at E3
        generalize faultOf l a = y at *
        have ty : (y == y) = true := by simp
        refine wp_region_ext wz (by kernel_rfl) (by kernel_rfl) (Below.refl _ _) ?_
        repeat (go_big_quiet_step ((first | exact E1.out _ | exact E2.out _ | exact E3.out _ | exact E4.out _)))
        refine wpQuiet_nil ?_
        rintro _ ⟨⟨w5, hB⟩, rfl⟩
        have g5 := below_call GZ.out hB GZ.out.size
        go_wp2_with fail
        go_ret
        exact ⟨rfl, g5⟩
      · have e : faultName 0 = ⟨#[102, 105, 110, 101]⟩ := rfl
        have NE := Lib.hid e
        clear e
        go_wp2_with fail
        generalize (wr.alloc (.cells #[.string { data := #[102, 105, 110, 101] }, .string { data := #[110, 111, 101, 120, 105, 116] }, .string { data := #[118, 101, 114, 100, 105, 99, 116] }, .string { data := #[115, 112, 101, 110, 116] }, .string { data := #[112, 97, 115, 115, 101, 100] }, .string { data := #[119, 104, 121] }] 9)) = wz at *
        have a0 : ∀ (x : Ext wz), x.1.cell? ⟨w.heap.size, 0, none⟩ = some (.int .i64 a.id) := fun x => (BZ.out.ext x).cell 0
        have a1 : ∀ (x : Ext wz), x.1.cell? ⟨w.heap.size, 1, none⟩ = some (.int .i64 a.model) := fun x => (BZ.out.ext x).cell 1
        have a2 : ∀ (x : Ext wz), x.1.cell? ⟨w.heap.size, 2, none⟩ = some (.int .i64 a.block) := fun x => (BZ.out.ext x).cell 2
        have a3 : ∀ (x : Ext wz), x.1.cell? ⟨w.heap.size, 3, none⟩ = some (.int .i64 a.cls) := fun x => (BZ.out.ext x).cell 3
        have a4 : ∀ (x : Ext wz), x.1.cell? ⟨w.heap.size, 4, none⟩ = some (.int .i64 a.margin) := fun x => (BZ.out.ext x).cell 4
        have a5 : ∀ (x : Ext wz), x.1.cell? ⟨w.heap.size, 5, none⟩ = some (.slice M nm cm) := fun x => (BZ.out.ext x).cell 5
        have a6 : ∀ (x : Ext wz), x.1.cell? ⟨w.heap.size, 6, none⟩ = some (.int .i64 a.spent) := fun x => (BZ.out.ext x).cell 6
        have a7 : ∀ (x : Ext wz), x.1.cell? ⟨w.heap.size, 7, none⟩ = some (.int .i64 a.why) := fun x => (BZ.out.ext x).cell 7
        have a8 : ∀ (x : Ext wz), x.1.cell? ⟨w.heap.size, 8, none⟩ = some (.int .i64 a.tick) := fun x => (BZ.out.ext x).cell 8
        have E1 := Lib.hid (fun x : Ext wz => calls_ext x (right_any A k cap l a M nm cm x.1 (SH.out.later x.2 (Nat.le_refl _)) (SM.out.later x.2 (Nat.le_refl _))))
        have E2 := Lib.hid (fun x : Ext wz => calls_ext x (refRight_any A2 k d2 l a M nm cm x.1 (SW.out.later x.2 (Nat.le_refl _)) (SM.out.later x.2 (Nat.le_refl _))))
        have E3 := Lib.hid (fun x : Ext wz => calls_ext x (name_any 0 x.1 HF.out))
        have E4 := Lib.hid (fun x : Ext wz => calls_ext x (known47_any x.1))
        rw [NE.out] at E3
        generalize faultOf l a = y at *
        have ty : (y == y) = true := by simp
        refine wp_region_ext wz (by kernel_rfl) (by kernel_rfl) (Below.refl _ _) ?_
        repeat (go_big_quiet_step ((first | exact E1.out _ | exact E2.out _ | exact E3.out _ | exact E4.out _)))
        refine wpQuiet_nil ?_
        rintro _ ⟨⟨w5, hB⟩, rfl⟩
        have g5 := below_call GZ.out hB GZ.out.size
        go_wp2_with fail
        go_ret
        exact ⟨rfl, g5⟩
      · have e : faultName 1 = ⟨#[110, 111, 101, 120, 105, 116]⟩ := rfl
        have NE := Lib.hid e
        clear e
        go_wp2_with fail
        generalize (wr.alloc (.cells #[.string { data := #[102, 105, 110, 101] }, .string { data := #[110, 111, 101, 120, 105, 116] }, .string { data := #[118, 101, 114, 100, 105, 99, 116] }, .string { data := #[115, 112, 101, 110, 116] }, .string { data := #[112, 97, 115, 115, 101, 100] }, .string { data := #[119, 104, 121] }] 9)) = wz at *
        have a0 : ∀ (x : Ext wz), x.1.cell? ⟨w.heap.size, 0, none⟩ = some (.int .i64 a.id) := fun x => (BZ.out.ext x).cell 0
        have a1 : ∀ (x : Ext wz), x.1.cell? ⟨w.heap.size, 1, none⟩ = some (.int .i64 a.model) := fun x => (BZ.out.ext x).cell 1
        have a2 : ∀ (x : Ext wz), x.1.cell? ⟨w.heap.size, 2, none⟩ = some (.int .i64 a.block) := fun x => (BZ.out.ext x).cell 2
        have a3 : ∀ (x : Ext wz), x.1.cell? ⟨w.heap.size, 3, none⟩ = some (.int .i64 a.cls) := fun x => (BZ.out.ext x).cell 3
        have a4 : ∀ (x : Ext wz), x.1.cell? ⟨w.heap.size, 4, none⟩ = some (.int .i64 a.margin) := fun x => (BZ.out.ext x).cell 4
        have a5 : ∀ (x : Ext wz), x.1.cell? ⟨w.heap.size, 5, none⟩ = some (.slice M nm cm) := fun x => (BZ.out.ext x).cell 5
        have a6 : ∀ (x : Ext wz), x.1.cell? ⟨w.heap.size, 6, none⟩ = some (.int .i64 a.spent) := fun x => (BZ.out.ext x).cell 6
        have a7 : ∀ (x : Ext wz), x.1.cell? ⟨w.heap.size, 7, none⟩ = some (.int .i64 a.why) := fun x => (BZ.out.ext x).cell 7
        have a8 : ∀ (x : Ext wz), x.1.cell? ⟨w.heap.size, 8, none⟩ = some (.int .i64 a.tick) := fun x => (BZ.out.ext x).cell 8
        have E1 := Lib.hid (fun x : Ext wz => calls_ext x (right_any A k cap l a M nm cm x.1 (SH.out.later x.2 (Nat.le_refl _)) (SM.out.later x.2 (Nat.le_refl _))))
        have E2 := Lib.hid (fun x : Ext wz => calls_ext x (refRight_any A2 k d2 l a M nm cm x.1 (SW.out.later x.2 (Nat.le_refl _)) (SM.out.later x.2 (Nat.le_refl _))))
        have E3 := Lib.hid (fun x : Ext wz => calls_ext x (name_any 1 x.1 HF.out))
        have E4 := Lib.hid (fun x : Ext wz => calls_ext x (known47_any x.1))
        rw [NE.out] at E3
        generalize faultOf l a = y at *
        have ty : (y == y) = true := by simp
        refine wp_region_ext wz (by kernel_rfl) (by kernel_rfl) (Below.refl _ _) ?_
        repeat (go_big_quiet_step ((first | exact E1.out _ | exact E2.out _ | exact E3.out _ | exact E4.out _)))
        refine wpQuiet_nil ?_
        rintro _ ⟨⟨w5, hB⟩, rfl⟩
        have g5 := below_call GZ.out hB GZ.out.size
        go_wp2_with fail
        go_ret
        exact ⟨rfl, g5⟩
      · have e : faultName 2 = ⟨#[118, 101, 114, 100, 105, 99, 116]⟩ := rfl
        have NE := Lib.hid e
        clear e
        go_wp2_with fail
        generalize (wr.alloc (.cells #[.string { data := #[102, 105, 110, 101] }, .string { data := #[110, 111, 101, 120, 105, 116] }, .string { data := #[118, 101, 114, 100, 105, 99, 116] }, .string { data := #[115, 112, 101, 110, 116] }, .string { data := #[112, 97, 115, 115, 101, 100] }, .string { data := #[119, 104, 121] }] 9)) = wz at *
        have a0 : ∀ (x : Ext wz), x.1.cell? ⟨w.heap.size, 0, none⟩ = some (.int .i64 a.id) := fun x => (BZ.out.ext x).cell 0
        have a1 : ∀ (x : Ext wz), x.1.cell? ⟨w.heap.size, 1, none⟩ = some (.int .i64 a.model) := fun x => (BZ.out.ext x).cell 1
        have a2 : ∀ (x : Ext wz), x.1.cell? ⟨w.heap.size, 2, none⟩ = some (.int .i64 a.block) := fun x => (BZ.out.ext x).cell 2
        have a3 : ∀ (x : Ext wz), x.1.cell? ⟨w.heap.size, 3, none⟩ = some (.int .i64 a.cls) := fun x => (BZ.out.ext x).cell 3
        have a4 : ∀ (x : Ext wz), x.1.cell? ⟨w.heap.size, 4, none⟩ = some (.int .i64 a.margin) := fun x => (BZ.out.ext x).cell 4
        have a5 : ∀ (x : Ext wz), x.1.cell? ⟨w.heap.size, 5, none⟩ = some (.slice M nm cm) := fun x => (BZ.out.ext x).cell 5
        have a6 : ∀ (x : Ext wz), x.1.cell? ⟨w.heap.size, 6, none⟩ = some (.int .i64 a.spent) := fun x => (BZ.out.ext x).cell 6
        have a7 : ∀ (x : Ext wz), x.1.cell? ⟨w.heap.size, 7, none⟩ = some (.int .i64 a.why) := fun x => (BZ.out.ext x).cell 7
        have a8 : ∀ (x : Ext wz), x.1.cell? ⟨w.heap.size, 8, none⟩ = some (.int .i64 a.tick) := fun x => (BZ.out.ext x).cell 8
        have E1 := Lib.hid (fun x : Ext wz => calls_ext x (right_any A k cap l a M nm cm x.1 (SH.out.later x.2 (Nat.le_refl _)) (SM.out.later x.2 (Nat.le_refl _))))
        have E2 := Lib.hid (fun x : Ext wz => calls_ext x (refRight_any A2 k d2 l a M nm cm x.1 (SW.out.later x.2 (Nat.le_refl _)) (SM.out.later x.2 (Nat.le_refl _))))
        have E3 := Lib.hid (fun x : Ext wz => calls_ext x (name_any 2 x.1 HF.out))
        have E4 := Lib.hid (fun x : Ext wz => calls_ext x (known47_any x.1))
        rw [NE.out] at E3
        generalize faultOf l a = y at *
        have ty : (y == y) = true := by simp
        refine wp_region_ext wz (by kernel_rfl) (by kernel_rfl) (Below.refl _ _) ?_
        repeat (go_big_quiet_step ((first | exact E1.out _ | exact E2.out _ | exact E3.out _ | exact E4.out _)))
        refine wpQuiet_nil ?_
        rintro _ ⟨⟨w5, hB⟩, rfl⟩
        have g5 := below_call GZ.out hB GZ.out.size
        go_wp2_with fail
        go_ret
        exact ⟨rfl, g5⟩
      · have e : faultName 3 = ⟨#[115, 112, 101, 110, 116]⟩ := rfl
        have NE := Lib.hid e
        clear e
        go_wp2_with fail
        generalize (wr.alloc (.cells #[.string { data := #[102, 105, 110, 101] }, .string { data := #[110, 111, 101, 120, 105, 116] }, .string { data := #[118, 101, 114, 100, 105, 99, 116] }, .string { data := #[115, 112, 101, 110, 116] }, .string { data := #[112, 97, 115, 115, 101, 100] }, .string { data := #[119, 104, 121] }] 9)) = wz at *
        have a0 : ∀ (x : Ext wz), x.1.cell? ⟨w.heap.size, 0, none⟩ = some (.int .i64 a.id) := fun x => (BZ.out.ext x).cell 0
        have a1 : ∀ (x : Ext wz), x.1.cell? ⟨w.heap.size, 1, none⟩ = some (.int .i64 a.model) := fun x => (BZ.out.ext x).cell 1
        have a2 : ∀ (x : Ext wz), x.1.cell? ⟨w.heap.size, 2, none⟩ = some (.int .i64 a.block) := fun x => (BZ.out.ext x).cell 2
        have a3 : ∀ (x : Ext wz), x.1.cell? ⟨w.heap.size, 3, none⟩ = some (.int .i64 a.cls) := fun x => (BZ.out.ext x).cell 3
        have a4 : ∀ (x : Ext wz), x.1.cell? ⟨w.heap.size, 4, none⟩ = some (.int .i64 a.margin) := fun x => (BZ.out.ext x).cell 4
        have a5 : ∀ (x : Ext wz), x.1.cell? ⟨w.heap.size, 5, none⟩ = some (.slice M nm cm) := fun x => (BZ.out.ext x).cell 5
        have a6 : ∀ (x : Ext wz), x.1.cell? ⟨w.heap.size, 6, none⟩ = some (.int .i64 a.spent) := fun x => (BZ.out.ext x).cell 6
        have a7 : ∀ (x : Ext wz), x.1.cell? ⟨w.heap.size, 7, none⟩ = some (.int .i64 a.why) := fun x => (BZ.out.ext x).cell 7
        have a8 : ∀ (x : Ext wz), x.1.cell? ⟨w.heap.size, 8, none⟩ = some (.int .i64 a.tick) := fun x => (BZ.out.ext x).cell 8
        have E1 := Lib.hid (fun x : Ext wz => calls_ext x (right_any A k cap l a M nm cm x.1 (SH.out.later x.2 (Nat.le_refl _)) (SM.out.later x.2 (Nat.le_refl _))))
        have E2 := Lib.hid (fun x : Ext wz => calls_ext x (refRight_any A2 k d2 l a M nm cm x.1 (SW.out.later x.2 (Nat.le_refl _)) (SM.out.later x.2 (Nat.le_refl _))))
        have E3 := Lib.hid (fun x : Ext wz => calls_ext x (name_any 3 x.1 HF.out))
        have E4 := Lib.hid (fun x : Ext wz => calls_ext x (known47_any x.1))
        rw [NE.out] at E3
        generalize faultOf l a = y at *
        have ty : (y == y) = true := by simp
        refine wp_region_ext wz (by kernel_rfl) (by kernel_rfl) (Below.refl _ _) ?_
        repeat (go_big_quiet_step ((first | exact E1.out _ | exact E2.out _ | exact E3.out _ | exact E4.out _)))
        refine wpQuiet_nil ?_
        rintro _ ⟨⟨w5, hB⟩, rfl⟩
        have g5 := below_call GZ.out hB GZ.out.size
        go_wp2_with fail
        go_ret
        exact ⟨rfl, g5⟩
      · have e : faultName 4 = ⟨#[112, 97, 115, 115, 101, 100]⟩ := rfl
        have NE := Lib.hid e
        clear e
        go_wp2_with fail
        generalize (wr.alloc (.cells #[.string { data := #[102, 105, 110, 101] }, .string { data := #[110, 111, 101, 120, 105, 116] }, .string { data := #[118, 101, 114, 100, 105, 99, 116] }, .string { data := #[115, 112, 101, 110, 116] }, .string { data := #[112, 97, 115, 115, 101, 100] }, .string { data := #[119, 104, 121] }] 9)) = wz at *
        have a0 : ∀ (x : Ext wz), x.1.cell? ⟨w.heap.size, 0, none⟩ = some (.int .i64 a.id) := fun x => (BZ.out.ext x).cell 0
        have a1 : ∀ (x : Ext wz), x.1.cell? ⟨w.heap.size, 1, none⟩ = some (.int .i64 a.model) := fun x => (BZ.out.ext x).cell 1
        have a2 : ∀ (x : Ext wz), x.1.cell? ⟨w.heap.size, 2, none⟩ = some (.int .i64 a.block) := fun x => (BZ.out.ext x).cell 2
        have a3 : ∀ (x : Ext wz), x.1.cell? ⟨w.heap.size, 3, none⟩ = some (.int .i64 a.cls) := fun x => (BZ.out.ext x).cell 3
        have a4 : ∀ (x : Ext wz), x.1.cell? ⟨w.heap.size, 4, none⟩ = some (.int .i64 a.margin) := fun x => (BZ.out.ext x).cell 4
        have a5 : ∀ (x : Ext wz), x.1.cell? ⟨w.heap.size, 5, none⟩ = some (.slice M nm cm) := fun x => (BZ.out.ext x).cell 5
        have a6 : ∀ (x : Ext wz), x.1.cell? ⟨w.heap.size, 6, none⟩ = some (.int .i64 a.spent) := fun x => (BZ.out.ext x).cell 6
        have a7 : ∀ (x : Ext wz), x.1.cell? ⟨w.heap.size, 7, none⟩ = some (.int .i64 a.why) := fun x => (BZ.out.ext x).cell 7
        have a8 : ∀ (x : Ext wz), x.1.cell? ⟨w.heap.size, 8, none⟩ = some (.int .i64 a.tick) := fun x => (BZ.out.ext x).cell 8
        have E1 := Lib.hid (fun x : Ext wz => calls_ext x (right_any A k cap l a M nm cm x.1 (SH.out.later x.2 (Nat.le_refl _)) (SM.out.later x.2 (Nat.le_refl _))))
        have E2 := Lib.hid (fun x : Ext wz => calls_ext x (refRight_any A2 k d2 l a M nm cm x.1 (SW.out.later x.2 (Nat.le_refl _)) (SM.out.later x.2 (Nat.le_refl _))))
        have E3 := Lib.hid (fun x : Ext wz => calls_ext x (name_any 4 x.1 HF.out))
        have E4 := Lib.hid (fun x : Ext wz => calls_ext x (known47_any x.1))
        rw [NE.out] at E3
        generalize faultOf l a = y at *
        have ty : (y == y) = true := by simp
        refine wp_region_ext wz (by kernel_rfl) (by kernel_rfl) (Below.refl _ _) ?_
        repeat (go_big_quiet_step ((first | exact E1.out _ | exact E2.out _ | exact E3.out _ | exact E4.out _)))
        refine wpQuiet_nil ?_
        rintro _ ⟨⟨w5, hB⟩, rfl⟩
        have g5 := below_call GZ.out hB GZ.out.size
        go_wp2_with fail
        go_ret
        exact ⟨rfl, g5⟩
      · have e : faultName 5 = ⟨#[119, 104, 121]⟩ := rfl
        have NE := Lib.hid e
        clear e
        go_wp2_with fail
        generalize (wr.alloc (.cells #[.string { data := #[102, 105, 110, 101] }, .string { data := #[110, 111, 101, 120, 105, 116] }, .string { data := #[118, 101, 114, 100, 105, 99, 116] }, .string { data := #[115, 112, 101, 110, 116] }, .string { data := #[112, 97, 115, 115, 101, 100] }, .string { data := #[119, 104, 121] }] 9)) = wz at *
        have a0 : ∀ (x : Ext wz), x.1.cell? ⟨w.heap.size, 0, none⟩ = some (.int .i64 a.id) := fun x => (BZ.out.ext x).cell 0
        have a1 : ∀ (x : Ext wz), x.1.cell? ⟨w.heap.size, 1, none⟩ = some (.int .i64 a.model) := fun x => (BZ.out.ext x).cell 1
        have a2 : ∀ (x : Ext wz), x.1.cell? ⟨w.heap.size, 2, none⟩ = some (.int .i64 a.block) := fun x => (BZ.out.ext x).cell 2
        have a3 : ∀ (x : Ext wz), x.1.cell? ⟨w.heap.size, 3, none⟩ = some (.int .i64 a.cls) := fun x => (BZ.out.ext x).cell 3
        have a4 : ∀ (x : Ext wz), x.1.cell? ⟨w.heap.size, 4, none⟩ = some (.int .i64 a.margin) := fun x => (BZ.out.ext x).cell 4
        have a5 : ∀ (x : Ext wz), x.1.cell? ⟨w.heap.size, 5, none⟩ = some (.slice M nm cm) := fun x => (BZ.out.ext x).cell 5
        have a6 : ∀ (x : Ext wz), x.1.cell? ⟨w.heap.size, 6, none⟩ = some (.int .i64 a.spent) := fun x => (BZ.out.ext x).cell 6
        have a7 : ∀ (x : Ext wz), x.1.cell? ⟨w.heap.size, 7, none⟩ = some (.int .i64 a.why) := fun x => (BZ.out.ext x).cell 7
        have a8 : ∀ (x : Ext wz), x.1.cell? ⟨w.heap.size, 8, none⟩ = some (.int .i64 a.tick) := fun x => (BZ.out.ext x).cell 8
        have E1 := Lib.hid (fun x : Ext wz => calls_ext x (right_any A k cap l a M nm cm x.1 (SH.out.later x.2 (Nat.le_refl _)) (SM.out.later x.2 (Nat.le_refl _))))
        have E2 := Lib.hid (fun x : Ext wz => calls_ext x (refRight_any A2 k d2 l a M nm cm x.1 (SW.out.later x.2 (Nat.le_refl _)) (SM.out.later x.2 (Nat.le_refl _))))
        have E3 := Lib.hid (fun x : Ext wz => calls_ext x (name_any 5 x.1 HF.out))
        have E4 := Lib.hid (fun x : Ext wz => calls_ext x (known47_any x.1))
        rw [NE.out] at E3
        generalize faultOf l a = y at *
        have ty : (y == y) = true := by simp
        refine wp_region_ext wz (by kernel_rfl) (by kernel_rfl) (Below.refl _ _) ?_
        repeat (go_big_quiet_step ((first | exact E1.out _ | exact E2.out _ | exact E3.out _ | exact E4.out _)))
        refine wpQuiet_nil ?_
        rintro _ ⟨⟨w5, hB⟩, rfl⟩
        have g5 := below_call GZ.out hB GZ.out.size
        go_wp2_with fail
        go_ret
        exact ⟨rfl, g5⟩
end Go.Proofs.Ytlhnapjglebacaa
