/-
  What takes tensors off a reader (layer 37): taker.note, taker.tensor.
  Conditions: none.
-/
import Derived.Test.YtanglfmolnfjeaaChecked
import Derived.Test.YtanglfmolnfjeaaJ10
import Derived.Test.YtanglfmolnfjeaaJ14
import Derived.Test.YtanglfmolnfjeaaJ21
import Derived.Deep.DeepCutAuto
import Derived.Deep.CutRange
import Derived.Deep.CutBlock
namespace Go.Proofs.Ytanglfmolnfjeaa
set_option linter.unusedVariables false
set_option linter.unusedSimpArgs false
open Go.RowKit Go.ChangeShapes Go.WideShapes
set_option maxRecDepth 100000
set_option maxHeartbeats 8000000

/-- A taker lies in block t, its reader in block g; the first error that it noted. -/
structure TkAt (X : Nat → Prop) (w : World) (t g : Nat) (s : List Int × Int) (tb : Int) : Prop where
  blk : Blk w t 62 #[.pointer (some ⟨g, 0, none⟩), .int .i64 tb]
  rd : RdAt X w g s
  hg : X g
  ht : X t
  ne : t ≠ g
section
variable {X Y : Nat → Prop} {w w' : World} {t g : Nat} {s s' : List Int × Int} {tb : Int}
theorem TkAt.later (h : TkAt X w t g s tb) (hb : Below w.heap.size w w') : TkAt X w' t g s tb := ⟨h.blk.later hb, h.rd.later hb, h.hg, h.ht, h.ne⟩
theorem TkAt.step (h : TkAt X w t g s tb) (hr : RdAt X w' g s') (hb : But (one g) w w') : TkAt X w' t g s' tb := ⟨h.blk.but hb h.ne, hr, h.hg, h.ht, h.ne⟩
theorem TkAt.far (h : TkAt X w t g s tb) (hb : But Y w w') (hY : ∀ k, Y k → X k) (h1 : ¬ Y g) (h2 : ¬ Y t) : TkAt X w' t g s tb := ⟨h.blk.but hb h2, h.rd.but hb hY h1, h.hg, h.ht, h.ne⟩
theorem TkAt.more (h : TkAt X w t g s tb) (hY : ∀ k, k < w.heap.size → Y k → X k) (h1 : Y g) (h2 : Y t) : TkAt Y w t g s tb := ⟨h.blk, h.rd.more hY, h1, h2, h.ne⟩
end
/-- The first error is kept; that more is left is none. -/
def noteV (tb e : Int) : Int := if tb = 0 ∧ e ≠ 24 then e else tb
theorem note_any (X : Nat → Prop) (t g : Nat) (s : List Int × Int) (tb e : Int) (w : World) (h : TkAt X w t g s tb) :
    Calls Try.prog 43 #[.pointer (some ⟨t, 0, none⟩), .int .i64 e] w fun e' w' => e' = .returned (.tuple #[]) ∧ TkAt X w' t g s (noteV tb e) ∧ But (one t) w w' := by
  have H := Lib.hid h
  have c1 : w.cell? ⟨t, 1, none⟩ = some (.int .i64 tb) := h.blk.cell 1
  have f1 := h.blk.frozen 1
  have NV := Lib.hid (show noteV tb e = if tb = 0 ∧ e ≠ 24 then e else tb from rfl)
  clear h
  by_cases q : tb = 0
  · subst q
    by_cases q2 : e = 24
    · subst q2
      have N2 := Lib.hid (show noteV 0 24 = 0 from rfl)
      clear NV
      go_enter Try.func43, Try.ntmps43
      go_wp2_with fail
      refine bodyPost_end (results_none rfl _ _ _) rfl ?_
      rw [N2.out]
      exact ⟨rfl, H.out, But.refl _ _⟩
    · have t1 : (e != 24) = true := by simpa using q2
      have N2 := Lib.hid (show noteV 0 e = e by rw [NV.out, if_pos ⟨rfl, q2⟩])
      clear NV
      go_enter Try.func43, Try.ntmps43
      go_wp2_with fail
      refine bodyPost_end (results_none rfl _ _ _) rfl ?_
      rw [N2.out]
      have b := But.one_set w t 1 (.int .i64 e)
      refine ⟨rfl, ⟨by simpa using H.out.blk.set_ 1 (.int .i64 e), H.out.rd.but b (fun k h => by cases h; exact H.out.ht) (fun h => H.out.ne h.symm), H.out.hg, H.out.ht, H.out.ne⟩, b⟩
  · have t1 : (tb == 0) = false := by simpa using q
    have N2 := Lib.hid (show noteV tb e = tb by rw [NV.out, if_neg (fun h => q h.1)])
    clear NV
    go_enter Try.func43, Try.ntmps43
    go_wp2_with fail
    refine bodyPost_end (results_none rfl _ _ _) rfl ?_
    rw [N2.out]
    exact ⟨rfl, H.out, But.refl _ _⟩

theorem nextV_le (s : List Int × Int) : (nextV s).1.2 = false ∨ s.2 = 0 := by unfold nextV; by_cases h : s.2 = 0; exact .inr h; rw [if_neg h]; exact .inl rfl
theorem cntV_le (most : Nat) (s : List Int × Int) : (cntV most s).1 ≤ most := by
  unfold cntV
  split
  · split
    · exact Nat.zero_le _
    · rename_i h; exact Nat.le_of_not_lt h
  · exact Nat.zero_le _
theorem rdCount_eq {X : Nat → Prop} {g : Nat} {s s' : List Int × Int} {most a : Nat} (he : cntV most s = (a, s')) (hm : most ≤ 1099511627776) (hX : X g) (w : World) (h : RdAt X w g s) :
    Calls Try.prog 44 #[.pointer (some ⟨g, 0, none⟩), .int .i64 (most : Int)] w fun e' w' => e' = .returned (.int .i64 (a : Int)) ∧ RdAt X w' g s' ∧ But (one g) w w' := by
  have := rdCount_any X g s most hm w h hX
  rw [he] at this
  exact this

/-- The tensor at which a reader stands, as the program takes it; the reader's state, and the first error noted. -/
def tensorV (s : List Int × Int) (tb : Int) : Tensor × (List Int × Int) × Int :=
  let c1 := cntV 16 s
  let c2 := cntV 16 c1.2
  let c3 := cntV 1024 c2.2
  let tb1 := noteV tb (endV c3.2)
  if 0 < elems (c1.1 : Int) (c2.1 : Int) (c3.1 : Int) then
    let d := smallV (elems (c1.1 : Int) (c2.1 : Int) (c3.1 : Int)).toNat c3.2
    (⟨(c1.1 : Int), (c2.1 : Int), (c3.1 : Int), d.1⟩, d.2, noteV tb1 (endV d.2))
  else (noTensor, c3.2, noteV tb1 5)

/-- A tensor in new memory is handed back; the taker's next state. -/
structure RetTk (X : Nat → Prop) (w : World) (t g : Nat) (r : Tensor × (List Int × Int) × Int) (e : Ending) (w' : World) : Prop where
  out : ∃ A n c, e = .returned (.agg #[.int .i64 r.1.h, .int .i64 r.1.v, .int .i64 r.1.c, .slice A n c]) ∧ Sl (tInt .i8) w' (bin w.heap.size w'.heap.size) A n c r.1.data
  tk : TkAt X w' t g r.2.1 r.2.2
  but : But (fun k => k = g ∨ k = t) w w'

theorem taketensor_any (X : Nat → Prop) (t g : Nat) (s : List Int × Int) (tb : Int) (w : World) (h : TkAt X w t g s tb) :
    Calls Try.prog 45 #[.pointer (some ⟨t, 0, none⟩)] w (RetTk X w t g (tensorV s tb)) := by
  have lg : g < w.heap.size := h.rd.lt
  have lt : t < w.heap.size := h.blk.lt
  have H := Lib.hid (h.more (Y := fun x => X x ∨ w.heap.size ≤ x) (fun k hk hy => by rcases hy with hy | hy; exact hy; omega) (.inl h.hg) (.inl h.ht))
  have hXg : X g := h.hg
  have hXt : X t := h.ht
  obtain ⟨⟨a1, s1⟩, e1⟩ : ∃ x, cntV 16 s = x := ⟨_, rfl⟩
  obtain ⟨⟨a2, s2⟩, e2⟩ : ∃ x, cntV 16 s1 = x := ⟨_, rfl⟩
  obtain ⟨⟨a3, s3⟩, e3⟩ : ∃ x, cntV 1024 s2 = x := ⟨_, rfl⟩
  have l1 : a1 ≤ 16 := by have := cntV_le 16 s; rw [e1] at this; exact this
  have l2 : a2 ≤ 16 := by have := cntV_le 16 s1; rw [e2] at this; exact this
  have l3 : a3 ≤ 1024 := by have := cntV_le 1024 s2; rw [e3] at this; exact this
  have CN1 := Lib.hid (rdCount_eq (X := fun x => X x ∨ w.heap.size ≤ x) (g := g) e1 (by omega) (.inl hXg))
  have CN2 := Lib.hid (rdCount_eq (X := fun x => X x ∨ w.heap.size ≤ x) (g := g) e2 (by omega) (.inl hXg))
  have CN3 := Lib.hid (rdCount_eq (X := fun x => X x ∨ w.heap.size ≤ x) (g := g) e3 (by omega) (.inl hXg))
  have TV := Lib.hid (show tensorV s tb = if 0 < elems (a1 : Int) (a2 : Int) (a3 : Int) then (⟨(a1 : Int), (a2 : Int), (a3 : Int), (smallV (elems (a1 : Int) (a2 : Int) (a3 : Int)).toNat s3).1⟩, (smallV (elems (a1 : Int) (a2 : Int) (a3 : Int)).toNat s3).2, noteV (noteV tb (endV s3)) (endV (smallV (elems (a1 : Int) (a2 : Int) (a3 : Int)).toNat s3).2)) else (noTensor, s3, noteV (noteV tb (endV s3)) 5) by
    unfold tensorV; simp only [e1, e2, e3])
  obtain ⟨r, hr⟩ : ∃ r, tensorV s tb = r := ⟨_, rfl⟩
  rw [hr] at TV ⊢
  clear hr e1 e2 e3 h
  go_enter Try.func45, Try.ntmps45
  go_wp2_with fail
  obtain ⟨w1, hw1⟩ : ∃ x, w.alloc (.cells #[.int .i64 0, .int .i64 0, .int .i64 0, .slice none 0 0] 26) = x := ⟨_, rfl⟩
  have kb : Below w.heap.size w w1 := by rw [← hw1]; exact (Below.refl _ _).alloc (Nat.le_refl _) _
  have BR := Lib.hid (show Blk w1.drew w.heap.size 26 #[.int .i64 0, .int .i64 0, .int .i64 0, .slice none 0 0] by rw [← hw1]; exact (Blk.now _ _ _ _ rfl).drew)
  rw [hw1]
  clear hw1
  have TK := Lib.hid (H.out.later (below_later (Below.refl _ w1).drew kb))
  have GG := Lib.hid (show But (fun k => k = g ∨ k = t) w w1.drew from But.of_below (below_later (Below.refl _ w1).drew kb))
  clear H kb
  go_cut [3] (fun b wx => ∃ k, b = .pointer (some ⟨k, 0, none⟩) ∧ Blk wx k 23 #[.int .i64 (a1 : Int), .int .i64 (a2 : Int), .int .i64 (a3 : Int)] ∧ Blk wx w.heap.size 26 #[.int .i64 0, .int .i64 0, .int .i64 0, .slice none 0 0] ∧ TkAt (fun x => X x ∨ w.heap.size ≤ x) wx t g s3 tb ∧ But (fun k => k = g ∨ k = t) w wx ∧ w.heap.size < k)
  case first =>
    refine wp_region_held_drew (S := fun w' => w'.cell? ⟨t, 0, none⟩ = some (.pointer (some ⟨g, 0, none⟩)) ∧ True) (by kernel_rfl) ?_ (fun hS => ?_)
    · exact ⟨TK.out.blk.cell 0, trivial⟩
    refine wpAnyH_take (i := 0) (v := ?_) rfl (by as_aux_lemma => kernel_rfl) (by as_aux_lemma => kernel_rfl) (by as_aux_lemma => kernel_rfl) (fun _ _ _ h => h) (Or.inl ⟨by rfl, ?_⟩) hS ?_
    rotate_left
    · intro w hSw; (try dsimp only at hSw); go_simp; try with_reducible rfl
    try simp only [Act.put, List.getElem_toArray, List.getElem_cons_succ, List.getElem_cons_zero, List.setIfInBounds_toArray, List.set_cons_zero, List.set_cons_succ]
    refine wpAnyH_take (i := 1) (v := ?_) rfl (by as_aux_lemma => kernel_rfl) (by as_aux_lemma => kernel_rfl) (by as_aux_lemma => kernel_rfl) (fun _ _ _ h => h) (Or.inl ⟨by rfl, ?_⟩) hS ?_
    rotate_left
    · intro w hSw; (try dsimp only at hSw); go_simp; try with_reducible rfl
    try simp only [Act.put, List.getElem_toArray, List.getElem_cons_succ, List.getElem_cons_zero, List.setIfInBounds_toArray, List.set_cons_zero, List.set_cons_succ]
    refine wpAnyH_take (i := 2) (v := ?_) rfl (by as_aux_lemma => kernel_rfl) (by as_aux_lemma => kernel_rfl) (by as_aux_lemma => kernel_rfl) (fun _ _ _ h => h) (Or.inl ⟨by rfl, ?_⟩) hS ?_
    rotate_left
    · intro w hSw; (try dsimp only at hSw); go_simp; try with_reducible rfl
    try simp only [Act.put, List.getElem_toArray, List.getElem_cons_succ, List.getElem_cons_zero, List.setIfInBounds_toArray, List.set_cons_zero, List.set_cons_succ]
    refine wpAnyH_take (i := 3) (v := ?_) rfl (by as_aux_lemma => kernel_rfl) (by as_aux_lemma => kernel_rfl) (by as_aux_lemma => kernel_rfl) (fun _ _ _ h => h) (Or.inl ⟨by rfl, ?_⟩) hS ?_
    rotate_left
    · intro w hSw; (try dsimp only at hSw); go_simp; try with_reducible rfl
    try simp only [Act.put, List.getElem_toArray, List.getElem_cons_succ, List.getElem_cons_zero, List.setIfInBounds_toArray, List.set_cons_zero, List.set_cons_succ]
    refine wpAnyH_take (i := 5) (v := ?_) rfl (by as_aux_lemma => kernel_rfl) (by as_aux_lemma => kernel_rfl) (by as_aux_lemma => kernel_rfl) (fun _ _ _ h => h) (Or.inl ⟨by rfl, ?_⟩) hS ?_
    rotate_left
    · intro w hSw; (try dsimp only at hSw); go_simp; try with_reducible rfl
    try simp only [Act.put, List.getElem_toArray, List.getElem_cons_succ, List.getElem_cons_zero, List.setIfInBounds_toArray, List.set_cons_zero, List.set_cons_succ]
    refine wpAnyH_take (i := 6) (v := ?_) rfl (by as_aux_lemma => kernel_rfl) (by as_aux_lemma => kernel_rfl) (by as_aux_lemma => kernel_rfl) (fun _ _ _ h => h) (Or.inl ⟨by rfl, ?_⟩) hS ?_
    rotate_left
    · intro w hSw; (try dsimp only at hSw); go_simp; try with_reducible rfl
    try simp only [Act.put, List.getElem_toArray, List.getElem_cons_succ, List.getElem_cons_zero, List.setIfInBounds_toArray, List.set_cons_zero, List.set_cons_succ]
    refine wpAnyH_take (i := 7) (v := ?_) rfl (by as_aux_lemma => kernel_rfl) (by as_aux_lemma => kernel_rfl) (by as_aux_lemma => kernel_rfl) (fun _ _ _ h => h) (Or.inl ⟨by rfl, ?_⟩) hS ?_
    rotate_left
    · intro w hSw; (try dsimp only at hSw); go_simp; try with_reducible rfl
    try simp only [Act.put, List.getElem_toArray, List.getElem_cons_succ, List.getElem_cons_zero, List.setIfInBounds_toArray, List.set_cons_zero, List.set_cons_succ]
    refine wpAnyH_take (i := 8) (v := ?_) rfl (by as_aux_lemma => kernel_rfl) (by as_aux_lemma => kernel_rfl) (by as_aux_lemma => kernel_rfl) (fun _ _ _ h => h) (Or.inl ⟨by rfl, ?_⟩) hS ?_
    rotate_left
    · intro w hSw; (try dsimp only at hSw); go_simp; try with_reducible rfl
    try simp only [Act.put, List.getElem_toArray, List.getElem_cons_succ, List.getElem_cons_zero, List.setIfInBounds_toArray, List.set_cons_zero, List.set_cons_succ]
    refine wpAnyH_take (i := 10) (v := ?_) rfl (by as_aux_lemma => kernel_rfl) (by as_aux_lemma => kernel_rfl) (by as_aux_lemma => kernel_rfl) (fun _ _ _ h => h) (Or.inl ⟨by rfl, ?_⟩) hS ?_
    rotate_left
    · intro w hSw; (try dsimp only at hSw); go_simp; try with_reducible rfl
    try simp only [Act.put, List.getElem_toArray, List.getElem_cons_succ, List.getElem_cons_zero, List.setIfInBounds_toArray, List.set_cons_zero, List.set_cons_succ]
    refine wpAnyH_take (i := 11) (v := ?_) rfl (by as_aux_lemma => kernel_rfl) (by as_aux_lemma => kernel_rfl) (by as_aux_lemma => kernel_rfl) (fun _ _ _ h => h) (Or.inl ⟨by rfl, ?_⟩) hS ?_
    rotate_left
    · intro w hSw; (try dsimp only at hSw); go_simp; try with_reducible rfl
    try simp only [Act.put, List.getElem_toArray, List.getElem_cons_succ, List.getElem_cons_zero, List.setIfInBounds_toArray, List.set_cons_zero, List.set_cons_succ]
    refine wpAnyH_take (i := 12) (v := ?_) rfl (by as_aux_lemma => kernel_rfl) (by as_aux_lemma => kernel_rfl) (by as_aux_lemma => kernel_rfl) (fun _ _ _ h => h) (Or.inl ⟨by rfl, ?_⟩) hS ?_
    rotate_left
    · intro w hSw; (try dsimp only at hSw); go_simp; try with_reducible rfl
    try simp only [Act.put, List.getElem_toArray, List.getElem_cons_succ, List.getElem_cons_zero, List.setIfInBounds_toArray, List.set_cons_zero, List.set_cons_succ]
    refine wpAnyH_take (i := 13) (v := ?_) rfl (by as_aux_lemma => kernel_rfl) (by as_aux_lemma => kernel_rfl) (by as_aux_lemma => kernel_rfl) (fun _ _ _ h => h) (Or.inl ⟨by rfl, ?_⟩) hS ?_
    rotate_left
    · intro w hSw; (try dsimp only at hSw); go_simp; try with_reducible rfl
    try simp only [Act.put, List.getElem_toArray, List.getElem_cons_succ, List.getElem_cons_zero, List.setIfInBounds_toArray, List.set_cons_zero, List.set_cons_succ]
    refine wpAnyH_ready (rs := [4, 16]) (by kernel_rfl) (by simp) ?_
    refine AllReadyH.cons rfl (fun K hK => ?_) (AllReadyH.cons rfl (fun K hK => ?_) AllReadyH.nil)
    · go_simp
      refine (CN1.out _ TK.out.rd).mono ?_; rintro e w1c0 ⟨rfl, hr, hb⟩; replace TK := Lib.hid (TK.out.step hr hb); replace GG := Lib.hid (GG.out.trans (hb.upto (.inl rfl))); replace BR := Lib.hid (BR.out.but hb (show ¬ w.heap.size = g by omega)); refine hK.out _ _ ⟨TK.out.blk.cell 0, trivial⟩ (fun hS => ?_); clear hr hb
      clear hK K
      try simp only [Act.put, List.getElem_toArray, List.getElem_cons_succ, List.getElem_cons_zero, List.setIfInBounds_toArray, List.set_cons_zero, List.set_cons_succ]
      refine wpAnyH_ready (rs := [9, 16]) (by kernel_rfl) (by simp) ?_
      refine AllReadyH.cons rfl (fun K hK => ?_) (AllReadyH.cons rfl (fun K hK => ?_) AllReadyH.nil)
      · go_simp
        refine (CN2.out _ TK.out.rd).mono ?_; rintro e w1c1 ⟨rfl, hr, hb⟩; replace TK := Lib.hid (TK.out.step hr hb); replace GG := Lib.hid (GG.out.trans (hb.upto (.inl rfl))); replace BR := Lib.hid (BR.out.but hb (show ¬ w.heap.size = g by omega)); refine hK.out _ _ ⟨TK.out.blk.cell 0, trivial⟩ (fun hS => ?_); clear hr hb
        clear hK K
        try simp only [Act.put, List.getElem_toArray, List.getElem_cons_succ, List.getElem_cons_zero, List.setIfInBounds_toArray, List.set_cons_zero, List.set_cons_succ]
        refine wpAnyH_ready (rs := [14, 16]) (by kernel_rfl) (by simp) ?_
        refine AllReadyH.cons rfl (fun K hK => ?_) (AllReadyH.cons rfl (fun K hK => ?_) AllReadyH.nil)
        · go_simp
          refine (CN3.out _ TK.out.rd).mono ?_; rintro e w1c2 ⟨rfl, hr, hb⟩; replace TK := Lib.hid (TK.out.step hr hb); replace GG := Lib.hid (GG.out.trans (hb.upto (.inl rfl))); replace BR := Lib.hid (BR.out.but hb (show ¬ w.heap.size = g by omega)); refine hK.out _ _ ⟨TK.out.blk.cell 0, trivial⟩ (fun hS => ?_); clear hr hb
          clear hK K
          try simp only [Act.put, List.getElem_toArray, List.getElem_cons_succ, List.getElem_cons_zero, List.setIfInBounds_toArray, List.set_cons_zero, List.set_cons_succ]
          refine wpAnyH_take (i := 15) (v := ?_) rfl (by as_aux_lemma => kernel_rfl) (by as_aux_lemma => kernel_rfl) (by as_aux_lemma => kernel_rfl) (fun _ _ _ h => h) (Or.inl ⟨by rfl, ?_⟩) hS ?_
          rotate_left
          · intro w hSw; (try dsimp only at hSw); go_simp; try with_reducible rfl
          try simp only [Act.put, List.getElem_toArray, List.getElem_cons_succ, List.getElem_cons_zero, List.setIfInBounds_toArray, List.set_cons_zero, List.set_cons_succ]
          refine wpAnyH_ready (rs := [16]) (by kernel_rfl) (by simp) ?_
          refine AllReadyH.cons rfl (fun K hK => ?_) AllReadyH.nil
          go_simp
          have hb : Below w1c2.heap.size w1c2 (w1c2.alloc (.cells #[.int .i64 0, .int .i64 0, .int .i64 0] 23)) := (Below.refl _ _).alloc (Nat.le_refl _) _
          have BZ := Lib.hid (Blk.now w1c2 w1c2.heap.size 23 #[.int .i64 0, .int .i64 0, .int .i64 0] rfl)
          have zg : g < w1c2.heap.size := TK.out.rd.lt; have zt : t < w1c2.heap.size := TK.out.blk.lt; have zr : w.heap.size < w1c2.heap.size := BR.out.lt; replace BR := Lib.hid (BR.out.later hb); replace TK := Lib.hid (TK.out.later hb); replace GG := Lib.hid (GG.out.later hb); refine hK.out _ _ ⟨TK.out.blk.cell 0, trivial⟩ (fun hS => ?_)
          clear hK K hb
          try simp only [Act.put, List.getElem_toArray, List.getElem_cons_succ, List.getElem_cons_zero, List.setIfInBounds_toArray, List.set_cons_zero, List.set_cons_succ]
          refine wpAnyH_ready (rs := [17]) (by kernel_rfl) (by simp) ?_
          refine AllReadyH.cons rfl (fun K hK => ?_) AllReadyH.nil
          rw [if_pos (by rfl)]; refine oper_store_blk 23 (.tmp 3) (.tmp 20) rfl w1c2.heap.size 0 #[.int .i64 (a1 : Int), .int .i64 (a2 : Int), .int .i64 (a3 : Int)] rfl rfl _ #[.int .i64 0, .int .i64 0, .int .i64 0] #[.int .i64 (a1 : Int), .int .i64 (a2 : Int), .int .i64 (a3 : Int)] BZ.out (by simp) (by kernel_rfl) (by simp [Value.oneCell']) rfl ?_; intro wz BX gz; replace GG := Lib.hid (GG.out.step (But.of_grown gz rfl : But (one w1c2.heap.size) _ _) (fun k h1 h2 => by have h2 : k = w1c2.heap.size := h2; omega)); replace TK := Lib.hid (TK.out.far (But.of_grown gz rfl : But (one w1c2.heap.size) _ _) (fun k h => .inr (by have h : k = w1c2.heap.size := h; omega)) (show ¬ g = w1c2.heap.size by omega) (show ¬ t = w1c2.heap.size by omega)); replace BR := Lib.hid (BR.out.but (But.of_grown gz rfl : But (one w1c2.heap.size) _ _) (show ¬ w.heap.size = w1c2.heap.size by omega)); refine hK.out _ _ ⟨TK.out.blk.cell 0, trivial⟩ (fun hS => ?_); clear gz
          clear hK K
          try simp only [Act.put, List.getElem_toArray, List.getElem_cons_succ, List.getElem_cons_zero, List.setIfInBounds_toArray, List.set_cons_zero, List.set_cons_succ]
          refine wpAnyH_done (by kernel_rfl) ?_ _
          go_wp2_with fail
          go_meet
          case rel => exact ⟨w1c2.heap.size, rfl, BX, BR.out, TK.out, GG.out, zr⟩
        · go_simp
          have hb : Below w1c1.heap.size w1c1 (w1c1.alloc (.cells #[.int .i64 0, .int .i64 0, .int .i64 0] 23)) := (Below.refl _ _).alloc (Nat.le_refl _) _
          have BZ := Lib.hid (Blk.now w1c1 w1c1.heap.size 23 #[.int .i64 0, .int .i64 0, .int .i64 0] rfl)
          have zg : g < w1c1.heap.size := TK.out.rd.lt; have zt : t < w1c1.heap.size := TK.out.blk.lt; have zr : w.heap.size < w1c1.heap.size := BR.out.lt; replace BR := Lib.hid (BR.out.later hb); replace TK := Lib.hid (TK.out.later hb); replace GG := Lib.hid (GG.out.later hb); refine hK.out _ _ ⟨TK.out.blk.cell 0, trivial⟩ (fun hS => ?_)
          clear hK K hb
          try simp only [Act.put, List.getElem_toArray, List.getElem_cons_succ, List.getElem_cons_zero, List.setIfInBounds_toArray, List.set_cons_zero, List.set_cons_succ]
          refine wpAnyH_ready (rs := [14]) (by kernel_rfl) (by simp) ?_
          refine AllReadyH.cons rfl (fun K hK => ?_) AllReadyH.nil
          go_simp
          refine (CN3.out _ TK.out.rd).mono ?_; rintro e w1c2z ⟨rfl, hr, hb⟩; replace TK := Lib.hid (TK.out.step hr hb); replace GG := Lib.hid (GG.out.trans (hb.upto (.inl rfl))); replace BR := Lib.hid (BR.out.but hb (show ¬ w.heap.size = g by omega)); replace BZ := Lib.hid (BZ.out.but hb (show ¬ w1c1.heap.size = g by omega)); refine hK.out _ _ ⟨TK.out.blk.cell 0, trivial⟩ (fun hS => ?_); clear hr hb
          clear hK K
          try simp only [Act.put, List.getElem_toArray, List.getElem_cons_succ, List.getElem_cons_zero, List.setIfInBounds_toArray, List.set_cons_zero, List.set_cons_succ]
          refine wpAnyH_take (i := 15) (v := ?_) rfl (by as_aux_lemma => kernel_rfl) (by as_aux_lemma => kernel_rfl) (by as_aux_lemma => kernel_rfl) (fun _ _ _ h => h) (Or.inl ⟨by rfl, ?_⟩) hS ?_
          rotate_left
          · intro w hSw; (try dsimp only at hSw); go_simp; try with_reducible rfl
          try simp only [Act.put, List.getElem_toArray, List.getElem_cons_succ, List.getElem_cons_zero, List.setIfInBounds_toArray, List.set_cons_zero, List.set_cons_succ]
          refine wpAnyH_ready (rs := [17]) (by kernel_rfl) (by simp) ?_
          refine AllReadyH.cons rfl (fun K hK => ?_) AllReadyH.nil
          rw [if_pos (by rfl)]; refine oper_store_blk 23 (.tmp 3) (.tmp 20) rfl w1c1.heap.size 0 #[.int .i64 (a1 : Int), .int .i64 (a2 : Int), .int .i64 (a3 : Int)] rfl rfl _ #[.int .i64 0, .int .i64 0, .int .i64 0] #[.int .i64 (a1 : Int), .int .i64 (a2 : Int), .int .i64 (a3 : Int)] BZ.out (by simp) (by kernel_rfl) (by simp [Value.oneCell']) rfl ?_; intro wz BX gz; replace GG := Lib.hid (GG.out.step (But.of_grown gz rfl : But (one w1c1.heap.size) _ _) (fun k h1 h2 => by have h2 : k = w1c1.heap.size := h2; omega)); replace TK := Lib.hid (TK.out.far (But.of_grown gz rfl : But (one w1c1.heap.size) _ _) (fun k h => .inr (by have h : k = w1c1.heap.size := h; omega)) (show ¬ g = w1c1.heap.size by omega) (show ¬ t = w1c1.heap.size by omega)); replace BR := Lib.hid (BR.out.but (But.of_grown gz rfl : But (one w1c1.heap.size) _ _) (show ¬ w.heap.size = w1c1.heap.size by omega)); refine hK.out _ _ ⟨TK.out.blk.cell 0, trivial⟩ (fun hS => ?_); clear gz
          clear hK K
          try simp only [Act.put, List.getElem_toArray, List.getElem_cons_succ, List.getElem_cons_zero, List.setIfInBounds_toArray, List.set_cons_zero, List.set_cons_succ]
          refine wpAnyH_done (by kernel_rfl) ?_ _
          go_wp2_with fail
          go_meet
          case rel => exact ⟨w1c1.heap.size, rfl, BX, BR.out, TK.out, GG.out, zr⟩
      · go_simp
        have hb : Below w1c0.heap.size w1c0 (w1c0.alloc (.cells #[.int .i64 0, .int .i64 0, .int .i64 0] 23)) := (Below.refl _ _).alloc (Nat.le_refl _) _
        have BZ := Lib.hid (Blk.now w1c0 w1c0.heap.size 23 #[.int .i64 0, .int .i64 0, .int .i64 0] rfl)
        have zg : g < w1c0.heap.size := TK.out.rd.lt; have zt : t < w1c0.heap.size := TK.out.blk.lt; have zr : w.heap.size < w1c0.heap.size := BR.out.lt; replace BR := Lib.hid (BR.out.later hb); replace TK := Lib.hid (TK.out.later hb); replace GG := Lib.hid (GG.out.later hb); refine hK.out _ _ ⟨TK.out.blk.cell 0, trivial⟩ (fun hS => ?_)
        clear hK K hb
        try simp only [Act.put, List.getElem_toArray, List.getElem_cons_succ, List.getElem_cons_zero, List.setIfInBounds_toArray, List.set_cons_zero, List.set_cons_succ]
        refine wpAnyH_ready (rs := [9]) (by kernel_rfl) (by simp) ?_
        refine AllReadyH.cons rfl (fun K hK => ?_) AllReadyH.nil
        go_simp
        refine (CN2.out _ TK.out.rd).mono ?_; rintro e w1c1z ⟨rfl, hr, hb⟩; replace TK := Lib.hid (TK.out.step hr hb); replace GG := Lib.hid (GG.out.trans (hb.upto (.inl rfl))); replace BR := Lib.hid (BR.out.but hb (show ¬ w.heap.size = g by omega)); replace BZ := Lib.hid (BZ.out.but hb (show ¬ w1c0.heap.size = g by omega)); refine hK.out _ _ ⟨TK.out.blk.cell 0, trivial⟩ (fun hS => ?_); clear hr hb
        clear hK K
        try simp only [Act.put, List.getElem_toArray, List.getElem_cons_succ, List.getElem_cons_zero, List.setIfInBounds_toArray, List.set_cons_zero, List.set_cons_succ]
        refine wpAnyH_ready (rs := [14]) (by kernel_rfl) (by simp) ?_
        refine AllReadyH.cons rfl (fun K hK => ?_) AllReadyH.nil
        go_simp
        refine (CN3.out _ TK.out.rd).mono ?_; rintro e w1c2z ⟨rfl, hr, hb⟩; replace TK := Lib.hid (TK.out.step hr hb); replace GG := Lib.hid (GG.out.trans (hb.upto (.inl rfl))); replace BR := Lib.hid (BR.out.but hb (show ¬ w.heap.size = g by omega)); replace BZ := Lib.hid (BZ.out.but hb (show ¬ w1c0.heap.size = g by omega)); refine hK.out _ _ ⟨TK.out.blk.cell 0, trivial⟩ (fun hS => ?_); clear hr hb
        clear hK K
        try simp only [Act.put, List.getElem_toArray, List.getElem_cons_succ, List.getElem_cons_zero, List.setIfInBounds_toArray, List.set_cons_zero, List.set_cons_succ]
        refine wpAnyH_take (i := 15) (v := ?_) rfl (by as_aux_lemma => kernel_rfl) (by as_aux_lemma => kernel_rfl) (by as_aux_lemma => kernel_rfl) (fun _ _ _ h => h) (Or.inl ⟨by rfl, ?_⟩) hS ?_
        rotate_left
        · intro w hSw; (try dsimp only at hSw); go_simp; try with_reducible rfl
        try simp only [Act.put, List.getElem_toArray, List.getElem_cons_succ, List.getElem_cons_zero, List.setIfInBounds_toArray, List.set_cons_zero, List.set_cons_succ]
        refine wpAnyH_ready (rs := [17]) (by kernel_rfl) (by simp) ?_
        refine AllReadyH.cons rfl (fun K hK => ?_) AllReadyH.nil
        rw [if_pos (by rfl)]; refine oper_store_blk 23 (.tmp 3) (.tmp 20) rfl w1c0.heap.size 0 #[.int .i64 (a1 : Int), .int .i64 (a2 : Int), .int .i64 (a3 : Int)] rfl rfl _ #[.int .i64 0, .int .i64 0, .int .i64 0] #[.int .i64 (a1 : Int), .int .i64 (a2 : Int), .int .i64 (a3 : Int)] BZ.out (by simp) (by kernel_rfl) (by simp [Value.oneCell']) rfl ?_; intro wz BX gz; replace GG := Lib.hid (GG.out.step (But.of_grown gz rfl : But (one w1c0.heap.size) _ _) (fun k h1 h2 => by have h2 : k = w1c0.heap.size := h2; omega)); replace TK := Lib.hid (TK.out.far (But.of_grown gz rfl : But (one w1c0.heap.size) _ _) (fun k h => .inr (by have h : k = w1c0.heap.size := h; omega)) (show ¬ g = w1c0.heap.size by omega) (show ¬ t = w1c0.heap.size by omega)); replace BR := Lib.hid (BR.out.but (But.of_grown gz rfl : But (one w1c0.heap.size) _ _) (show ¬ w.heap.size = w1c0.heap.size by omega)); refine hK.out _ _ ⟨TK.out.blk.cell 0, trivial⟩ (fun hS => ?_); clear gz
        clear hK K
        try simp only [Act.put, List.getElem_toArray, List.getElem_cons_succ, List.getElem_cons_zero, List.setIfInBounds_toArray, List.set_cons_zero, List.set_cons_succ]
        refine wpAnyH_done (by kernel_rfl) ?_ _
        go_wp2_with fail
        go_meet
        case rel => exact ⟨w1c0.heap.size, rfl, BX, BR.out, TK.out, GG.out, zr⟩
    · go_simp
      have hb : Below w1.drew.heap.size w1.drew (w1.drew.alloc (.cells #[.int .i64 0, .int .i64 0, .int .i64 0] 23)) := (Below.refl _ _).alloc (Nat.le_refl _) _
      have BZ := Lib.hid (Blk.now w1.drew w1.heap.size 23 #[.int .i64 0, .int .i64 0, .int .i64 0] rfl)
      have zg : g < w1.heap.size := TK.out.rd.lt; have zt : t < w1.heap.size := TK.out.blk.lt; have zr : w.heap.size < w1.heap.size := BR.out.lt; replace BR := Lib.hid (BR.out.later hb); replace TK := Lib.hid (TK.out.later hb); replace GG := Lib.hid (GG.out.later hb); refine hK.out _ _ ⟨TK.out.blk.cell 0, trivial⟩ (fun hS => ?_)
      clear hK K hb
      try simp only [Act.put, List.getElem_toArray, List.getElem_cons_succ, List.getElem_cons_zero, List.setIfInBounds_toArray, List.set_cons_zero, List.set_cons_succ]
      refine wpAnyH_ready (rs := [4]) (by kernel_rfl) (by simp) ?_
      refine AllReadyH.cons rfl (fun K hK => ?_) AllReadyH.nil
      go_simp
      refine (CN1.out _ TK.out.rd).mono ?_; rintro e w1c0z ⟨rfl, hr, hb⟩; replace TK := Lib.hid (TK.out.step hr hb); replace GG := Lib.hid (GG.out.trans (hb.upto (.inl rfl))); replace BR := Lib.hid (BR.out.but hb (show ¬ w.heap.size = g by omega)); replace BZ := Lib.hid (BZ.out.but hb (show ¬ w1.heap.size = g by omega)); refine hK.out _ _ ⟨TK.out.blk.cell 0, trivial⟩ (fun hS => ?_); clear hr hb
      clear hK K
      try simp only [Act.put, List.getElem_toArray, List.getElem_cons_succ, List.getElem_cons_zero, List.setIfInBounds_toArray, List.set_cons_zero, List.set_cons_succ]
      refine wpAnyH_ready (rs := [9]) (by kernel_rfl) (by simp) ?_
      refine AllReadyH.cons rfl (fun K hK => ?_) AllReadyH.nil
      go_simp
      refine (CN2.out _ TK.out.rd).mono ?_; rintro e w1c1z ⟨rfl, hr, hb⟩; replace TK := Lib.hid (TK.out.step hr hb); replace GG := Lib.hid (GG.out.trans (hb.upto (.inl rfl))); replace BR := Lib.hid (BR.out.but hb (show ¬ w.heap.size = g by omega)); replace BZ := Lib.hid (BZ.out.but hb (show ¬ w1.heap.size = g by omega)); refine hK.out _ _ ⟨TK.out.blk.cell 0, trivial⟩ (fun hS => ?_); clear hr hb
      clear hK K
      try simp only [Act.put, List.getElem_toArray, List.getElem_cons_succ, List.getElem_cons_zero, List.setIfInBounds_toArray, List.set_cons_zero, List.set_cons_succ]
      refine wpAnyH_ready (rs := [14]) (by kernel_rfl) (by simp) ?_
      refine AllReadyH.cons rfl (fun K hK => ?_) AllReadyH.nil
      go_simp
      refine (CN3.out _ TK.out.rd).mono ?_; rintro e w1c2z ⟨rfl, hr, hb⟩; replace TK := Lib.hid (TK.out.step hr hb); replace GG := Lib.hid (GG.out.trans (hb.upto (.inl rfl))); replace BR := Lib.hid (BR.out.but hb (show ¬ w.heap.size = g by omega)); replace BZ := Lib.hid (BZ.out.but hb (show ¬ w1.heap.size = g by omega)); refine hK.out _ _ ⟨TK.out.blk.cell 0, trivial⟩ (fun hS => ?_); clear hr hb
      clear hK K
      try simp only [Act.put, List.getElem_toArray, List.getElem_cons_succ, List.getElem_cons_zero, List.setIfInBounds_toArray, List.set_cons_zero, List.set_cons_succ]
      refine wpAnyH_take (i := 15) (v := ?_) rfl (by as_aux_lemma => kernel_rfl) (by as_aux_lemma => kernel_rfl) (by as_aux_lemma => kernel_rfl) (fun _ _ _ h => h) (Or.inl ⟨by rfl, ?_⟩) hS ?_
      rotate_left
      · intro w hSw; (try dsimp only at hSw); go_simp; try with_reducible rfl
      try simp only [Act.put, List.getElem_toArray, List.getElem_cons_succ, List.getElem_cons_zero, List.setIfInBounds_toArray, List.set_cons_zero, List.set_cons_succ]
      refine wpAnyH_ready (rs := [17]) (by kernel_rfl) (by simp) ?_
      refine AllReadyH.cons rfl (fun K hK => ?_) AllReadyH.nil
      rw [if_pos (by rfl)]; refine oper_store_blk 23 (.tmp 3) (.tmp 20) rfl w1.heap.size 0 #[.int .i64 (a1 : Int), .int .i64 (a2 : Int), .int .i64 (a3 : Int)] rfl rfl _ #[.int .i64 0, .int .i64 0, .int .i64 0] #[.int .i64 (a1 : Int), .int .i64 (a2 : Int), .int .i64 (a3 : Int)] BZ.out (by simp) (by kernel_rfl) (by simp [Value.oneCell']) rfl ?_; intro wz BX gz; replace GG := Lib.hid (GG.out.step (But.of_grown gz rfl : But (one w1.heap.size) _ _) (fun k h1 h2 => by have h2 : k = w1.heap.size := h2; omega)); replace TK := Lib.hid (TK.out.far (But.of_grown gz rfl : But (one w1.heap.size) _ _) (fun k h => .inr (by have h : k = w1.heap.size := h; omega)) (show ¬ g = w1.heap.size by omega) (show ¬ t = w1.heap.size by omega)); replace BR := Lib.hid (BR.out.but (But.of_grown gz rfl : But (one w1.heap.size) _ _) (show ¬ w.heap.size = w1.heap.size by omega)); refine hK.out _ _ ⟨TK.out.blk.cell 0, trivial⟩ (fun hS => ?_); clear gz
      clear hK K
      try simp only [Act.put, List.getElem_toArray, List.getElem_cons_succ, List.getElem_cons_zero, List.setIfInBounds_toArray, List.set_cons_zero, List.set_cons_succ]
      refine wpAnyH_done (by kernel_rfl) ?_ _
      go_wp2_with fail
      go_meet
      case rel => exact ⟨w1.heap.size, rfl, BX, BR.out, TK.out, GG.out, zr⟩
  case rest =>
    obtain ⟨k, rfl, bx, br, tk, gg, hk⟩ := hcut
    have BX := Lib.hid bx
    have BR := Lib.hid br
    have TK := Lib.hid tk
    have GG := Lib.hid gg
    have c0 := tk.blk.cell 0
    clear bx br tk gg CN1 CN2 CN3
    go_wp2_with fail
    refine (rdEnd_any _ g s3 _ TK.out.rd).mono ?_
    rintro e w' ⟨rfl, rfl⟩
    go_wp2_with fail
    refine (note_any _ t g s3 tb (endV s3) _ TK.out).mono ?_
    rintro e w2 ⟨rfl, tk, b2⟩
    replace TK := Lib.hid tk
    replace GG := Lib.hid (GG.out.trans (b2.upto (.inr rfl)))
    replace BX := Lib.hid (BX.out.but b2 (show ¬ k = t by omega))
    replace BR := Lib.hid (BR.out.but b2 (show ¬ w.heap.size = t by omega))
    obtain ⟨tb1, htb1⟩ : ∃ x, noteV tb (endV s3) = x := ⟨_, rfl⟩
    rw [htb1] at TK TV
    clear c0 tk b2 htb1
    have SR := Lib.hid (fun wx => shapeRight_any (a1 : Int) (a3 : Int) (a2 : Int) wx (by rw [inK_i64]; omega) (by rw [inK_i64]; omega) (by rw [inK_i64]; omega))
    have eb := elems_range (a1 : Int) (a2 : Int) (a3 : Int)
    have EL := Lib.hid (fun wx => elems_any (a1 : Int) (a3 : Int) (a2 : Int) wx (by rw [inK_i64]; omega) (by rw [inK_i64]; omega) (by rw [inK_i64]; omega))
    obtain ⟨m, hm⟩ : ∃ m : Nat, elems (a1 : Int) (a2 : Int) (a3 : Int) = (m : Int) := ⟨(elems (a1 : Int) (a2 : Int) (a3 : Int)).toNat, by omega⟩
    rw [hm] at SR eb EL TV
    rw [Int.toNat_natCast] at TV
    have m1 : m ≤ 1024 := by omega
    clear hm eb
    go_wp2_with (refine wpList_load_row rfl 23 (.tmp 3) rfl k rfl _ _ (0, 0) _ BX.out.heap Try.underlying23 rfl (by kernel_rfl) ?_)
    refine (SR.out _).mono ?_
    rintro e w3 ⟨rfl, hb⟩
    replace TK := Lib.hid (TK.out.later hb)
    replace GG := Lib.hid (GG.out.later hb)
    replace BX := Lib.hid (BX.out.later hb)
    replace BR := Lib.hid (BR.out.later hb)
    clear hb SR
    by_cases hm : 0 < m
    rotate_left
    · rw [if_neg (by omega)] at TV
      have u1 : decide ((0 : Int) < (m : Int)) = false := by simp; omega
      have u2 : decide (0 < m) = false := by simp; omega
      go_wp2_with fail
      refine (note_any _ t g s3 tb1 5 _ TK.out).mono ?_
      rintro e w4 ⟨rfl, tk, b2⟩
      replace TK := Lib.hid tk
      replace GG := Lib.hid (GG.out.trans (b2.upto (.inr rfl)))
      replace BR := Lib.hid (BR.out.but b2 (show ¬ w.heap.size = t by omega))
      clear tk b2
      go_wp2_with (refine wpList_store_all rfl 26 (.tmp 2) (.tmp 33) rfl w.heap.size #[.int .i64 0, .int .i64 0, .int .i64 0, .slice none 0 0] rfl rfl _ _ BR.out rfl (by kernel_rfl) (by simp [Value.oneCell']) ?_; intro w5 B5 g5; have FB := Lib.hid B5; have FG := Lib.hid g5; clear B5 g5)
      have b5 : But (one w.heap.size) w4 w5 := But.of_grown FG.out rfl
      refine ret_cell rfl FB.out rfl Try.underlying26 (by kernel_rfl) rfl ?_
      rw [TV.out]
      exact ⟨⟨none, 0, 0, rfl, Sl.nil _ _ _⟩, (TK.out.far b5 (fun q h => .inr (by have h : q = w.heap.size := h; omega)) (show ¬ g = w.heap.size by omega) (show ¬ t = w.heap.size by omega)).more (fun q _ hy => .inl hy) hXg hXt, GG.out.step b5 (fun q h1 h2 => by have h2 : q = w.heap.size := h2; omega)⟩
    · rw [if_pos (by omega)] at TV
      have u1 : decide ((0 : Int) < (m : Int)) = true := by simp; omega
      have u2 : decide (0 < m) = true := by simp; omega
      clear u1 u2
      have TKd := Lib.hid (TK.out.later (Below.refl _ w3).drew)
      obtain ⟨⟨dl, s4⟩, hsv⟩ : ∃ x, smallV m s3 = x := ⟨_, rfl⟩
      have SM := Lib.hid hsv
      rw [hsv] at TV
      clear hsv
      go_wp2_with fail
      go_cut [4] (fun b wx => ∃ k2 A n c, b = .pointer (some ⟨k2, 0, none⟩) ∧ Blk wx k2 26 #[.int .i64 (a1 : Int), .int .i64 (a2 : Int), .int .i64 (a3 : Int), .slice A n c] ∧ Sl (tInt .i8) wx (fun x => w.heap.size < x ∧ x < wx.heap.size) A n c dl ∧ Blk wx w.heap.size 26 #[.int .i64 0, .int .i64 0, .int .i64 0, .slice none 0 0] ∧ TkAt (fun x => X x ∨ w.heap.size ≤ x) wx t g s4 tb1 ∧ But (fun k => k = g ∨ k = t) w wx ∧ w.heap.size < k2)
      case first =>
        replace TK := TKd
        replace GG := Lib.hid (GG.out.later (Below.refl _ w3).drew)
        replace BX := Lib.hid (BX.out.later (Below.refl _ w3).drew)
        replace BR := Lib.hid (BR.out.later (Below.refl _ w3).drew)
        refine wp_region_held_drew (S := fun w' => w'.cell? ⟨t, 0, none⟩ = some (.pointer (some ⟨g, 0, none⟩)) ∧ Blk w' k 23 #[.int .i64 (a1 : Int), .int .i64 (a2 : Int), .int .i64 (a3 : Int)] ∧ True) (by kernel_rfl) ?_ (fun hS => ?_)
        · exact ⟨TK.out.blk.cell 0, BX.out, trivial⟩
        refine wpAnyH_take (i := 0) rfl (by as_aux_lemma => kernel_rfl) (by as_aux_lemma => kernel_rfl) (by as_aux_lemma => kernel_rfl) (fun _ _ _ h => h) (yieldsIf_load_blk (by rfl) 23 (.tmp 3) rfl k 0 rfl _ _ #[.int .i64 (a1 : Int), .int .i64 (a2 : Int), .int .i64 (a3 : Int)] _ (fun w hs => hs.2.1) Try.underlying23 rfl (by kernel_rfl) rfl) hS ?_
        try simp only [Act.put, List.getElem_toArray, List.getElem_cons_succ, List.getElem_cons_zero, List.setIfInBounds_toArray, List.set_cons_zero, List.set_cons_succ]
        refine wpAnyH_take (i := 1) (v := ?_) rfl (by as_aux_lemma => kernel_rfl) (by as_aux_lemma => kernel_rfl) (by as_aux_lemma => kernel_rfl) (fun _ _ _ h => h) (Or.inl ⟨by rfl, ?_⟩) hS ?_
        rotate_left
        · intro w hSw; (try dsimp only at hSw); go_simp; try with_reducible rfl
        try simp only [Act.put, List.getElem_toArray, List.getElem_cons_succ, List.getElem_cons_zero, List.setIfInBounds_toArray, List.set_cons_zero, List.set_cons_succ]
        refine wpAnyH_take (i := 2) (v := ?_) rfl (by as_aux_lemma => kernel_rfl) (by as_aux_lemma => kernel_rfl) (by as_aux_lemma => kernel_rfl) (fun _ _ _ h => h) (Or.inl ⟨by rfl, ?_⟩) hS ?_
        rotate_left
        · intro w hSw; (try dsimp only at hSw); go_simp; try with_reducible rfl
        try simp only [Act.put, List.getElem_toArray, List.getElem_cons_succ, List.getElem_cons_zero, List.setIfInBounds_toArray, List.set_cons_zero, List.set_cons_succ]
        refine wpAnyH_take (i := 3) (v := ?_) rfl (by as_aux_lemma => kernel_rfl) (by as_aux_lemma => kernel_rfl) (by as_aux_lemma => kernel_rfl) (fun _ _ _ h => h) (Or.inl ⟨by rfl, ?_⟩) hS ?_
        rotate_left
        · intro w hSw; (try dsimp only at hSw); go_simp; try with_reducible rfl
        try simp only [Act.put, List.getElem_toArray, List.getElem_cons_succ, List.getElem_cons_zero, List.setIfInBounds_toArray, List.set_cons_zero, List.set_cons_succ]
        refine wpAnyH_take (i := 4) (v := ?_) rfl (by as_aux_lemma => kernel_rfl) (by as_aux_lemma => kernel_rfl) (by as_aux_lemma => kernel_rfl) (fun _ _ _ h => h) (Or.inl ⟨by rfl, ?_⟩) hS ?_
        rotate_left
        · intro w hSw; (try dsimp only at hSw); go_simp; try with_reducible rfl
        try simp only [Act.put, List.getElem_toArray, List.getElem_cons_succ, List.getElem_cons_zero, List.setIfInBounds_toArray, List.set_cons_zero, List.set_cons_succ]
        refine wpAnyH_take (i := 5) rfl (by as_aux_lemma => kernel_rfl) (by as_aux_lemma => kernel_rfl) (by as_aux_lemma => kernel_rfl) (fun _ _ _ h => h) (yieldsIf_load_blk (by rfl) 23 (.tmp 3) rfl k 0 rfl _ _ #[.int .i64 (a1 : Int), .int .i64 (a2 : Int), .int .i64 (a3 : Int)] _ (fun w hs => hs.2.1) Try.underlying23 rfl (by kernel_rfl) rfl) hS ?_
        try simp only [Act.put, List.getElem_toArray, List.getElem_cons_succ, List.getElem_cons_zero, List.setIfInBounds_toArray, List.set_cons_zero, List.set_cons_succ]
        refine wpAnyH_ready (rs := [6, 9]) (by kernel_rfl) (by simp) ?_
        refine AllReadyH.cons rfl (fun K hK => ?_) (AllReadyH.cons rfl (fun K hK => ?_) AllReadyH.nil)
        · go_simp
          refine (EL.out _).mono ?_; rintro e w3c0 ⟨rfl, hb⟩; replace TK := Lib.hid (TK.out.later hb); replace GG := Lib.hid (GG.out.later hb); replace BX := Lib.hid (BX.out.later hb); replace BR := Lib.hid (BR.out.later hb); refine hK.out _ _ ⟨TK.out.blk.cell 0, BX.out, trivial⟩ (fun hS => ?_); clear hb
          clear hK K
          try simp only [Act.put, List.getElem_toArray, List.getElem_cons_succ, List.getElem_cons_zero, List.setIfInBounds_toArray, List.set_cons_zero, List.set_cons_succ]
          refine wpAnyH_ready (rs := [7, 9]) (by kernel_rfl) (by simp) ?_
          refine AllReadyH.cons rfl (fun K hK => ?_) (AllReadyH.cons rfl (fun K hK => ?_) AllReadyH.nil)
          · go_simp
            refine (rdSmall_any _ g s3 m (by omega) _ TK.out.rd (.inl hXg)).mono ?_; rintro e w3c1 ⟨⟨AD, nd, cd, rfl, hs⟩, hr, hb⟩; rw [SM.out] at hs hr; obtain ⟨lo, hi, hs, zlo, zhi⟩ : ∃ lo hi, Sl (tInt .i8) w3c1 (bin lo hi) AD nd cd _ ∧ w.heap.size < lo ∧ hi ≤ w3c1.heap.size := ⟨_, _, hs, BR.out.lt, Nat.le_refl _⟩; have HS := Lib.hid hs; replace TK := Lib.hid (TK.out.step hr hb); replace GG := Lib.hid (GG.out.trans (hb.upto (.inl rfl))); replace BX := Lib.hid (BX.out.but hb (show ¬ k = g by omega)); replace BR := Lib.hid (BR.out.but hb (show ¬ w.heap.size = g by omega)); refine hK.out _ _ ⟨TK.out.blk.cell 0, BX.out, trivial⟩ (fun hS => ?_); clear hr hb hs
            clear hK K
            try simp only [Act.put, List.getElem_toArray, List.getElem_cons_succ, List.getElem_cons_zero, List.setIfInBounds_toArray, List.set_cons_zero, List.set_cons_succ]
            refine wpAnyH_take (i := 8) (v := ?_) rfl (by as_aux_lemma => kernel_rfl) (by as_aux_lemma => kernel_rfl) (by as_aux_lemma => kernel_rfl) (fun _ _ _ h => h) (Or.inl ⟨by rfl, ?_⟩) hS ?_
            rotate_left
            · intro w hSw; (try dsimp only at hSw); go_simp; try with_reducible rfl
            try simp only [Act.put, List.getElem_toArray, List.getElem_cons_succ, List.getElem_cons_zero, List.setIfInBounds_toArray, List.set_cons_zero, List.set_cons_succ]
            refine wpAnyH_ready (rs := [9]) (by kernel_rfl) (by simp) ?_
            refine AllReadyH.cons rfl (fun K hK => ?_) AllReadyH.nil
            go_simp
            have hb : Below w3c1.heap.size w3c1 (w3c1.alloc (.cells #[.int .i64 0, .int .i64 0, .int .i64 0, .slice none 0 0] 26)) := (Below.refl _ _).alloc (Nat.le_refl _) _
            have BZ := Lib.hid (Blk.now w3c1 w3c1.heap.size 26 #[.int .i64 0, .int .i64 0, .int .i64 0, .slice none 0 0] rfl)
            have zg : g < w3c1.heap.size := TK.out.rd.lt; have zt : t < w3c1.heap.size := TK.out.blk.lt; have zr : w.heap.size < w3c1.heap.size := BR.out.lt; have zk : k < w3c1.heap.size := BX.out.lt; replace BR := Lib.hid (BR.out.later hb); replace BX := Lib.hid (BX.out.later hb); replace TK := Lib.hid (TK.out.later hb); replace GG := Lib.hid (GG.out.later hb); have KL : w3c1.heap.size < lo ∨ hi ≤ w3c1.heap.size := .inr zhi; replace HS := Lib.hid (HS.out.below hb (fun q h => Nat.lt_of_lt_of_le h.2 zhi)); refine hK.out _ _ ⟨TK.out.blk.cell 0, BX.out, trivial⟩ (fun hS => ?_)
            clear hK K hb
            try simp only [Act.put, List.getElem_toArray, List.getElem_cons_succ, List.getElem_cons_zero, List.setIfInBounds_toArray, List.set_cons_zero, List.set_cons_succ]
            refine wpAnyH_ready (rs := [10]) (by kernel_rfl) (by simp) ?_
            refine AllReadyH.cons rfl (fun K hK => ?_) AllReadyH.nil
            rw [if_pos (by rfl)]; refine oper_store_blk 26 (.tmp 4) (.tmp 42) rfl w3c1.heap.size 0 #[.int .i64 (a1 : Int), .int .i64 (a2 : Int), .int .i64 (a3 : Int), .slice AD nd cd] rfl rfl _ #[.int .i64 0, .int .i64 0, .int .i64 0, .slice none 0 0] #[.int .i64 (a1 : Int), .int .i64 (a2 : Int), .int .i64 (a3 : Int), .slice AD nd cd] BZ.out (by simp) (by kernel_rfl) (by simp [Value.oneCell']) rfl ?_; intro wz BY gz; have zx : hi ≤ wz.heap.size := Nat.le_trans (by have := GG.out.size; first | exact zhi | exact Nat.le_trans zhi (by simp) | omega) gz.size; replace HS := Lib.hid (HS.out.keep (w' := wz) (fun q hq => (But.of_grown gz rfl : But (one w3c1.heap.size) _ _).block q (by have := hq.2; first | exact Nat.lt_of_lt_of_le hq.2 zhi | exact Nat.lt_of_lt_of_le hq.2 (Nat.le_trans zhi (by simp))) (fun e => by have e : q = w3c1.heap.size := e; have := hq.1; have := hq.2; omega))); replace GG := Lib.hid (GG.out.step (But.of_grown gz rfl : But (one w3c1.heap.size) _ _) (fun k h1 h2 => by have h2 : k = w3c1.heap.size := h2; omega)); replace TK := Lib.hid (TK.out.far (But.of_grown gz rfl : But (one w3c1.heap.size) _ _) (fun k h => .inr (by have h : k = w3c1.heap.size := h; omega)) (show ¬ g = w3c1.heap.size by omega) (show ¬ t = w3c1.heap.size by omega)); replace BR := Lib.hid (BR.out.but (But.of_grown gz rfl : But (one w3c1.heap.size) _ _) (show ¬ w.heap.size = w3c1.heap.size by omega)); replace BX := Lib.hid (BX.out.but (But.of_grown gz rfl : But (one w3c1.heap.size) _ _) (show ¬ k = w3c1.heap.size by omega)); refine hK.out _ _ ⟨TK.out.blk.cell 0, BX.out, trivial⟩ (fun hS => ?_); clear gz
            clear hK K
            try simp only [Act.put, List.getElem_toArray, List.getElem_cons_succ, List.getElem_cons_zero, List.setIfInBounds_toArray, List.set_cons_zero, List.set_cons_succ]
            refine wpAnyH_done (by kernel_rfl) ?_ _
            go_wp2_with fail
            go_meet
            case rel => exact ⟨w3c1.heap.size, AD, nd, cd, rfl, BY, HS.out.more (fun q hq => ⟨Nat.lt_of_lt_of_le zlo hq.1, Nat.lt_of_lt_of_le hq.2 zx⟩), BR.out, TK.out, GG.out, zr⟩
          · go_simp
            have hb : Below w3c0.heap.size w3c0 (w3c0.alloc (.cells #[.int .i64 0, .int .i64 0, .int .i64 0, .slice none 0 0] 26)) := (Below.refl _ _).alloc (Nat.le_refl _) _
            have BZ := Lib.hid (Blk.now w3c0 w3c0.heap.size 26 #[.int .i64 0, .int .i64 0, .int .i64 0, .slice none 0 0] rfl)
            have zg : g < w3c0.heap.size := TK.out.rd.lt; have zt : t < w3c0.heap.size := TK.out.blk.lt; have zr : w.heap.size < w3c0.heap.size := BR.out.lt; have zk : k < w3c0.heap.size := BX.out.lt; replace BR := Lib.hid (BR.out.later hb); replace BX := Lib.hid (BX.out.later hb); replace TK := Lib.hid (TK.out.later hb); replace GG := Lib.hid (GG.out.later hb); refine hK.out _ _ ⟨TK.out.blk.cell 0, BX.out, trivial⟩ (fun hS => ?_)
            clear hK K hb
            try simp only [Act.put, List.getElem_toArray, List.getElem_cons_succ, List.getElem_cons_zero, List.setIfInBounds_toArray, List.set_cons_zero, List.set_cons_succ]
            refine wpAnyH_ready (rs := [7]) (by kernel_rfl) (by simp) ?_
            refine AllReadyH.cons rfl (fun K hK => ?_) AllReadyH.nil
            go_simp
            refine (rdSmall_any _ g s3 m (by omega) _ TK.out.rd (.inl hXg)).mono ?_; rintro e w3c1z ⟨⟨AD, nd, cd, rfl, hs⟩, hr, hb⟩; rw [SM.out] at hs hr; obtain ⟨lo, hi, hs, zlo, zhi, KL⟩ : ∃ lo hi, Sl (tInt .i8) w3c1z (bin lo hi) AD nd cd _ ∧ w.heap.size < lo ∧ hi ≤ w3c1z.heap.size ∧ (w3c0.heap.size < lo ∨ hi ≤ w3c0.heap.size) := ⟨_, _, hs, BR.out.lt, Nat.le_refl _, .inl BZ.out.lt⟩; have HS := Lib.hid hs; replace TK := Lib.hid (TK.out.step hr hb); replace GG := Lib.hid (GG.out.trans (hb.upto (.inl rfl))); replace BX := Lib.hid (BX.out.but hb (show ¬ k = g by omega)); replace BR := Lib.hid (BR.out.but hb (show ¬ w.heap.size = g by omega)); replace BZ := Lib.hid (BZ.out.but hb (show ¬ w3c0.heap.size = g by omega)); refine hK.out _ _ ⟨TK.out.blk.cell 0, BX.out, trivial⟩ (fun hS => ?_); clear hr hb hs
            clear hK K
            try simp only [Act.put, List.getElem_toArray, List.getElem_cons_succ, List.getElem_cons_zero, List.setIfInBounds_toArray, List.set_cons_zero, List.set_cons_succ]
            refine wpAnyH_take (i := 8) (v := ?_) rfl (by as_aux_lemma => kernel_rfl) (by as_aux_lemma => kernel_rfl) (by as_aux_lemma => kernel_rfl) (fun _ _ _ h => h) (Or.inl ⟨by rfl, ?_⟩) hS ?_
            rotate_left
            · intro w hSw; (try dsimp only at hSw); go_simp; try with_reducible rfl
            try simp only [Act.put, List.getElem_toArray, List.getElem_cons_succ, List.getElem_cons_zero, List.setIfInBounds_toArray, List.set_cons_zero, List.set_cons_succ]
            refine wpAnyH_ready (rs := [10]) (by kernel_rfl) (by simp) ?_
            refine AllReadyH.cons rfl (fun K hK => ?_) AllReadyH.nil
            rw [if_pos (by rfl)]; refine oper_store_blk 26 (.tmp 4) (.tmp 42) rfl w3c0.heap.size 0 #[.int .i64 (a1 : Int), .int .i64 (a2 : Int), .int .i64 (a3 : Int), .slice AD nd cd] rfl rfl _ #[.int .i64 0, .int .i64 0, .int .i64 0, .slice none 0 0] #[.int .i64 (a1 : Int), .int .i64 (a2 : Int), .int .i64 (a3 : Int), .slice AD nd cd] BZ.out (by simp) (by kernel_rfl) (by simp [Value.oneCell']) rfl ?_; intro wz BY gz; have zx : hi ≤ wz.heap.size := Nat.le_trans (by have := GG.out.size; first | exact zhi | exact Nat.le_trans zhi (by simp) | omega) gz.size; replace HS := Lib.hid (HS.out.keep (w' := wz) (fun q hq => (But.of_grown gz rfl : But (one w3c0.heap.size) _ _).block q (by have := hq.2; first | exact Nat.lt_of_lt_of_le hq.2 zhi | exact Nat.lt_of_lt_of_le hq.2 (Nat.le_trans zhi (by simp))) (fun e => by have e : q = w3c0.heap.size := e; have := hq.1; have := hq.2; omega))); replace GG := Lib.hid (GG.out.step (But.of_grown gz rfl : But (one w3c0.heap.size) _ _) (fun k h1 h2 => by have h2 : k = w3c0.heap.size := h2; omega)); replace TK := Lib.hid (TK.out.far (But.of_grown gz rfl : But (one w3c0.heap.size) _ _) (fun k h => .inr (by have h : k = w3c0.heap.size := h; omega)) (show ¬ g = w3c0.heap.size by omega) (show ¬ t = w3c0.heap.size by omega)); replace BR := Lib.hid (BR.out.but (But.of_grown gz rfl : But (one w3c0.heap.size) _ _) (show ¬ w.heap.size = w3c0.heap.size by omega)); replace BX := Lib.hid (BX.out.but (But.of_grown gz rfl : But (one w3c0.heap.size) _ _) (show ¬ k = w3c0.heap.size by omega)); refine hK.out _ _ ⟨TK.out.blk.cell 0, BX.out, trivial⟩ (fun hS => ?_); clear gz
            clear hK K
            try simp only [Act.put, List.getElem_toArray, List.getElem_cons_succ, List.getElem_cons_zero, List.setIfInBounds_toArray, List.set_cons_zero, List.set_cons_succ]
            refine wpAnyH_done (by kernel_rfl) ?_ _
            go_wp2_with fail
            go_meet
            case rel => exact ⟨w3c0.heap.size, AD, nd, cd, rfl, BY, HS.out.more (fun q hq => ⟨Nat.lt_of_lt_of_le zlo hq.1, Nat.lt_of_lt_of_le hq.2 zx⟩), BR.out, TK.out, GG.out, zr⟩
        · go_simp
          have hb : Below w3.drew.heap.size w3.drew (w3.drew.alloc (.cells #[.int .i64 0, .int .i64 0, .int .i64 0, .slice none 0 0] 26)) := (Below.refl _ _).alloc (Nat.le_refl _) _
          have BZ := Lib.hid (Blk.now w3.drew w3.heap.size 26 #[.int .i64 0, .int .i64 0, .int .i64 0, .slice none 0 0] rfl)
          have zg : g < w3.heap.size := TK.out.rd.lt; have zt : t < w3.heap.size := TK.out.blk.lt; have zr : w.heap.size < w3.heap.size := BR.out.lt; have zk : k < w3.heap.size := BX.out.lt; replace BR := Lib.hid (BR.out.later hb); replace BX := Lib.hid (BX.out.later hb); replace TK := Lib.hid (TK.out.later hb); replace GG := Lib.hid (GG.out.later hb); refine hK.out _ _ ⟨TK.out.blk.cell 0, BX.out, trivial⟩ (fun hS => ?_)
          clear hK K hb
          try simp only [Act.put, List.getElem_toArray, List.getElem_cons_succ, List.getElem_cons_zero, List.setIfInBounds_toArray, List.set_cons_zero, List.set_cons_succ]
          refine wpAnyH_ready (rs := [6]) (by kernel_rfl) (by simp) ?_
          refine AllReadyH.cons rfl (fun K hK => ?_) AllReadyH.nil
          go_simp
          refine (EL.out _).mono ?_; rintro e w3c0z ⟨rfl, hb⟩; replace TK := Lib.hid (TK.out.later hb); replace GG := Lib.hid (GG.out.later hb); replace BX := Lib.hid (BX.out.later hb); replace BR := Lib.hid (BR.out.later hb); replace BZ := Lib.hid (BZ.out.later hb); refine hK.out _ _ ⟨TK.out.blk.cell 0, BX.out, trivial⟩ (fun hS => ?_); clear hb
          clear hK K
          try simp only [Act.put, List.getElem_toArray, List.getElem_cons_succ, List.getElem_cons_zero, List.setIfInBounds_toArray, List.set_cons_zero, List.set_cons_succ]
          refine wpAnyH_ready (rs := [7]) (by kernel_rfl) (by simp) ?_
          refine AllReadyH.cons rfl (fun K hK => ?_) AllReadyH.nil
          go_simp
          refine (rdSmall_any _ g s3 m (by omega) _ TK.out.rd (.inl hXg)).mono ?_; rintro e w3c1z ⟨⟨AD, nd, cd, rfl, hs⟩, hr, hb⟩; rw [SM.out] at hs hr; obtain ⟨lo, hi, hs, zlo, zhi, KL⟩ : ∃ lo hi, Sl (tInt .i8) w3c1z (bin lo hi) AD nd cd _ ∧ w.heap.size < lo ∧ hi ≤ w3c1z.heap.size ∧ (w3.heap.size < lo ∨ hi ≤ w3.heap.size) := ⟨_, _, hs, BR.out.lt, Nat.le_refl _, .inl BZ.out.lt⟩; have HS := Lib.hid hs; replace TK := Lib.hid (TK.out.step hr hb); replace GG := Lib.hid (GG.out.trans (hb.upto (.inl rfl))); replace BX := Lib.hid (BX.out.but hb (show ¬ k = g by omega)); replace BR := Lib.hid (BR.out.but hb (show ¬ w.heap.size = g by omega)); replace BZ := Lib.hid (BZ.out.but hb (show ¬ w3.heap.size = g by omega)); refine hK.out _ _ ⟨TK.out.blk.cell 0, BX.out, trivial⟩ (fun hS => ?_); clear hr hb hs
          clear hK K
          try simp only [Act.put, List.getElem_toArray, List.getElem_cons_succ, List.getElem_cons_zero, List.setIfInBounds_toArray, List.set_cons_zero, List.set_cons_succ]
          refine wpAnyH_take (i := 8) (v := ?_) rfl (by as_aux_lemma => kernel_rfl) (by as_aux_lemma => kernel_rfl) (by as_aux_lemma => kernel_rfl) (fun _ _ _ h => h) (Or.inl ⟨by rfl, ?_⟩) hS ?_
          rotate_left
          · intro w hSw; (try dsimp only at hSw); go_simp; try with_reducible rfl
          try simp only [Act.put, List.getElem_toArray, List.getElem_cons_succ, List.getElem_cons_zero, List.setIfInBounds_toArray, List.set_cons_zero, List.set_cons_succ]
          refine wpAnyH_ready (rs := [10]) (by kernel_rfl) (by simp) ?_
          refine AllReadyH.cons rfl (fun K hK => ?_) AllReadyH.nil
          rw [if_pos (by rfl)]; refine oper_store_blk 26 (.tmp 4) (.tmp 42) rfl w3.heap.size 0 #[.int .i64 (a1 : Int), .int .i64 (a2 : Int), .int .i64 (a3 : Int), .slice AD nd cd] rfl rfl _ #[.int .i64 0, .int .i64 0, .int .i64 0, .slice none 0 0] #[.int .i64 (a1 : Int), .int .i64 (a2 : Int), .int .i64 (a3 : Int), .slice AD nd cd] BZ.out (by simp) (by kernel_rfl) (by simp [Value.oneCell']) rfl ?_; intro wz BY gz; have zx : hi ≤ wz.heap.size := Nat.le_trans (by have := GG.out.size; first | exact zhi | exact Nat.le_trans zhi (by simp) | omega) gz.size; replace HS := Lib.hid (HS.out.keep (w' := wz) (fun q hq => (But.of_grown gz rfl : But (one w3.heap.size) _ _).block q (by have := hq.2; first | exact Nat.lt_of_lt_of_le hq.2 zhi | exact Nat.lt_of_lt_of_le hq.2 (Nat.le_trans zhi (by simp))) (fun e => by have e : q = w3.heap.size := e; have := hq.1; have := hq.2; omega))); replace GG := Lib.hid (GG.out.step (But.of_grown gz rfl : But (one w3.heap.size) _ _) (fun k h1 h2 => by have h2 : k = w3.heap.size := h2; omega)); replace TK := Lib.hid (TK.out.far (But.of_grown gz rfl : But (one w3.heap.size) _ _) (fun k h => .inr (by have h : k = w3.heap.size := h; omega)) (show ¬ g = w3.heap.size by omega) (show ¬ t = w3.heap.size by omega)); replace BR := Lib.hid (BR.out.but (But.of_grown gz rfl : But (one w3.heap.size) _ _) (show ¬ w.heap.size = w3.heap.size by omega)); replace BX := Lib.hid (BX.out.but (But.of_grown gz rfl : But (one w3.heap.size) _ _) (show ¬ k = w3.heap.size by omega)); refine hK.out _ _ ⟨TK.out.blk.cell 0, BX.out, trivial⟩ (fun hS => ?_); clear gz
          clear hK K
          try simp only [Act.put, List.getElem_toArray, List.getElem_cons_succ, List.getElem_cons_zero, List.setIfInBounds_toArray, List.set_cons_zero, List.set_cons_succ]
          refine wpAnyH_done (by kernel_rfl) ?_ _
          go_wp2_with fail
          go_meet
          case rel => exact ⟨w3.heap.size, AD, nd, cd, rfl, BY, HS.out.more (fun q hq => ⟨Nat.lt_of_lt_of_le zlo hq.1, Nat.lt_of_lt_of_le hq.2 zx⟩), BR.out, TK.out, GG.out, zr⟩
      case rest =>
        obtain ⟨k2, A, n, c, rfl, by_, hs, br, tk, gg, hk2⟩ := hcut
        have BY := Lib.hid by_
        have HS := Lib.hid hs
        replace BR := Lib.hid br
        replace TK := Lib.hid tk
        replace GG := Lib.hid gg
        have c0 := tk.blk.cell 0
        clear by_ hs br tk gg TKd EL SM BX
        go_wp2_with fail
        refine (rdEnd_any _ g s4 _ TK.out.rd).mono ?_
        rintro e w' ⟨rfl, rfl⟩
        go_wp2_with fail
        refine (note_any _ t g s4 tb1 (endV s4) _ TK.out).mono ?_
        rintro e w5 ⟨rfl, tk, b2⟩
        replace TK := Lib.hid tk
        replace GG := Lib.hid (GG.out.trans (b2.upto (.inr rfl)))
        replace BY := Lib.hid (BY.out.but b2 (show ¬ k2 = t by omega))
        replace BR := Lib.hid (BR.out.but b2 (show ¬ w.heap.size = t by omega))
        have z5 := b2.size
        replace HS := Lib.hid ((HS.out.but' b2 (fun q hq => ⟨hq.2, fun e => by have e : q = t := e; have := hq.1; omega⟩)).more (S' := fun x => w.heap.size < x ∧ x < w5.heap.size) (fun q hq => ⟨hq.1, Nat.lt_of_lt_of_le hq.2 z5⟩))
        clear c0 tk b2
        go_wp2_with (first | (refine wpList_load_row rfl 26 (.tmp 4) rfl k2 rfl _ _ (0, 0) _ BY.out.heap Try.underlying26 rfl (by kernel_rfl) ?_) | (refine wpList_store_all rfl 26 (.tmp 2) (.tmp 50) rfl w.heap.size #[.int .i64 (a1 : Int), .int .i64 (a2 : Int), .int .i64 (a3 : Int), .slice A n c] rfl rfl _ _ BR.out rfl (by kernel_rfl) (by simp [Value.oneCell']) ?_; intro w6 B6 g6; have FB := Lib.hid B6; have FG := Lib.hid g6; clear B6 g6))
        have b6 : But (one w.heap.size) w5 w6 := But.of_grown FG.out rfl
        have z6 := b6.size
        refine ret_cell rfl FB.out rfl Try.underlying26 (by kernel_rfl) rfl ?_
        rw [TV.out]
        exact ⟨⟨A, n, c, rfl, (HS.out.but' b6 (fun q hq => ⟨hq.2, fun e => by have e : q = w.heap.size := e; have := hq.1; omega⟩)).more (fun q hq => ⟨Nat.le_of_lt hq.1, Nat.lt_of_lt_of_le hq.2 z6⟩)⟩, (TK.out.far b6 (fun q h => .inr (by have h : q = w.heap.size := h; omega)) (show ¬ g = w.heap.size by omega) (show ¬ t = w.heap.size by omega)).more (fun q _ hy => .inl hy) hXg hXt, GG.out.step b6 (fun q h1 h2 => by have h2 : q = w.heap.size := h2; omega)⟩
end Go.Proofs.Ytanglfmolnfjeaa
