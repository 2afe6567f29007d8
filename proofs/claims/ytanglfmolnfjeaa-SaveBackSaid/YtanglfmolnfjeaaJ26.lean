/-
  What takes a point off a reader (layer 37): taker.point.
  Conditions: none.
-/
import Derived.Test.YtanglfmolnfjeaaChecked
import Derived.Test.YtanglfmolnfjeaaJ22
import Derived.Test.YtanglfmolnfjeaaJ24
import Derived.Test.YtanglfmolnfjeaaJ25
namespace Go.Proofs.Ytanglfmolnfjeaa
set_option linter.unusedVariables false
set_option linter.unusedSimpArgs false
open Go.RowKit Go.ChangeShapes Go.WideShapes
set_option maxRecDepth 100000
set_option maxHeartbeats 8000000

theorem Sl.over {α : Type} {ty : Ty α} {w w' : World} {k : Nat} {Y : Nat → Prop} {A : Option Addr} {n c : Nat} {l : List α} (h : Sl ty w (fun x => k < x ∧ x < w.heap.size) A n c l) (b : But Y w w') (hY : ∀ q, Y q → q ≤ k) : Sl ty w' (fun x => k < x ∧ x < w'.heap.size) A n c l :=
  (h.but' b (fun q hq => ⟨hq.2, fun e => by have := hY q e; have := hq.1; omega⟩)).more (fun q hq => ⟨hq.1, Nat.lt_of_lt_of_le hq.2 b.size⟩)
theorem three_cells {w : World} {g o : Nat} {x0 x1 x2 : Value} (h0 : w.cell? ⟨g, o, none⟩ = some x0) (h1 : w.cell? ⟨g, o + 1, none⟩ = some x1) (h2 : w.cell? ⟨g, o + 2, none⟩ = some x2) (j : Nat) (v : Value) (hv : [x0, x1, x2][j]? = some v) : w.cell? ⟨g, o + j, none⟩ = some v := by
  match j, hv with
  | 0, hv => simp at hv; subst hv; exact h0
  | 1, hv => simp at hv; subst hv; exact h1
  | 2, hv => simp at hv; subst hv; exact h2
/-- What a taker has taken: whatever came of a tensor, its sides are numbers of 64 digits. -/
theorem tensorV_in (s : List Int × Int) (tb : Int) : TensorIn (tensorV s tb).1 := by
  have l1 := cntV_le 16 s
  have l2 := cntV_le 16 (cntV 16 s).2
  have l3 := cntV_le 1024 (cntV 16 (cntV 16 s).2).2
  unfold tensorV
  simp only
  split
  · exact ⟨by rw [inK_i64]; show _ ≤ ((cntV 16 s).1 : Int) ∧ ((cntV 16 s).1 : Int) ≤ _; omega, by rw [inK_i64]; show _ ≤ ((cntV 16 (cntV 16 s).2).1 : Int) ∧ ((cntV 16 (cntV 16 s).2).1 : Int) ≤ _; omega, by rw [inK_i64]; show _ ≤ ((cntV 1024 (cntV 16 (cntV 16 s).2).2).1 : Int) ∧ ((cntV 1024 (cntV 16 (cntV 16 s).2).2).1 : Int) ≤ _; omega⟩
  · exact ⟨show InK .i64 0 by decide, show InK .i64 0 by decide, show InK .i64 0 by decide⟩
theorem smallV_len (n : Nat) (s : List Int × Int) : (smallV n s).1.length ≤ n := by
  unfold smallV
  split
  · split
    · exact Nat.zero_le _
    · simp; exact Nat.min_le_left _ _
  · exact Nat.zero_le _
theorem tensorV_len (s : List Int × Int) (tb : Int) : (tensorV s tb).1.data.length ≤ 1024 := by
  unfold tensorV
  simp only
  split
  · refine Nat.le_trans (smallV_len _ _) ?_
    have := elems_range ((cntV 16 s).1 : Int) ((cntV 16 (cntV 16 s).2).1 : Int) ((cntV 1024 (cntV 16 (cntV 16 s).2).2).1 : Int)
    omega
  · exact Nat.zero_le _

/-- The point at which a reader stands, as the program takes it; the reader's state, and the first error noted. -/
def pointV (s : List Int × Int) (tb : Int) : Pt × (List Int × Int) × Int :=
  let c1 := cntV 3 s
  let c2 := cntV 6 c1.2
  let c3 := cntV 1099511627776 c2.2
  let r1 := tensorV c3.2 (noteV tb (endV c3.2))
  let k := cntV 1 r1.2.1
  if k.1 = 0 then (⟨(c1.1 : Int), (c2.1 : Int), (c3.1 : Int), r1.1, r1.1⟩, k.2, noteV r1.2.2 (endV k.2))
  else
    let r2 := tensorV k.2 r1.2.2
    (⟨(c1.1 : Int), (c2.1 : Int), (c3.1 : Int), r1.1, r2.1⟩, r2.2.1, if likeT r1.1 r2.1 = true then noteV r2.2.2 21 else r2.2.2)

/-- A point in new memory is handed back; the taker's next state. -/
structure RetPk (X : Nat → Prop) (w : World) (t g : Nat) (r : Pt × (List Int × Int) × Int) (e : Ending) (w' : World) : Prop where
  out : ∃ A n c B m d, e = .returned (.agg (ptCells r.1 A n c B m d)) ∧ Sl (tInt .i8) w' (bin w.heap.size w'.heap.size) A n c r.1.input.data ∧ Sl (tInt .i8) w' (bin w.heap.size w'.heap.size) B m d r.1.value.data
  tk : TkAt X w' t g r.2.1 r.2.2
  but : But (fun k => k = g ∨ k = t) w w'

theorem takepoint_any (X : Nat → Prop) (t g : Nat) (s : List Int × Int) (tb : Int) (w : World) (h : TkAt X w t g s tb) :
    Calls Try.prog 28 #[.pointer (some ⟨t, 0, none⟩)] w (RetPk X w t g (pointV s tb)) := by
  have lg : g < w.heap.size := h.rd.lt
  have lt : t < w.heap.size := h.blk.lt
  have H := Lib.hid (h.more (Y := fun x => X x ∨ w.heap.size ≤ x) (fun k hk hy => by rcases hy with hy | hy; exact hy; omega) (.inl h.hg) (.inl h.ht))
  have hXg : X g := h.hg
  have hXt : X t := h.ht
  obtain ⟨⟨a1, s1⟩, e1⟩ : ∃ x, cntV 3 s = x := ⟨_, rfl⟩
  obtain ⟨⟨a2, s2⟩, e2⟩ : ∃ x, cntV 6 s1 = x := ⟨_, rfl⟩
  obtain ⟨⟨a3, s3⟩, e3⟩ : ∃ x, cntV 1099511627776 s2 = x := ⟨_, rfl⟩
  have CN1 := Lib.hid (rdCount_eq (X := fun x => X x ∨ w.heap.size ≤ x) (g := g) e1 (by omega) (.inl hXg))
  have CN2 := Lib.hid (rdCount_eq (X := fun x => X x ∨ w.heap.size ≤ x) (g := g) e2 (by omega) (.inl hXg))
  have CN3 := Lib.hid (rdCount_eq (X := fun x => X x ∨ w.heap.size ≤ x) (g := g) e3 (by omega) (.inl hXg))
  obtain ⟨tb1, e4⟩ : ∃ x, noteV tb (endV s3) = x := ⟨_, rfl⟩
  obtain ⟨⟨t1, s4, tb2⟩, e5⟩ : ∃ x, tensorV s3 tb1 = x := ⟨_, rfl⟩
  obtain ⟨⟨ak, s5⟩, e6⟩ : ∃ x, cntV 1 s4 = x := ⟨_, rfl⟩
  have lk : ak ≤ 1 := by have := cntV_le 1 s4; rw [e6] at this; exact this
  have tl1 : t1.data.length ≤ 1024 := by have := tensorV_len s3 tb1; rw [e5] at this; exact this
  have ti1 : TensorIn t1 := by have := tensorV_in s3 tb1; rw [e5] at this; exact this
  obtain ⟨⟨t2, s6, tb3⟩, e7⟩ : ∃ x, tensorV s5 tb2 = x := ⟨_, rfl⟩
  have CN4 := Lib.hid (rdCount_eq (X := fun x => X x ∨ w.heap.size ≤ x) (g := g) e6 (by omega) (.inl hXg))
  have PV := Lib.hid (show pointV s tb = if ak = 0 then (⟨(a1 : Int), (a2 : Int), (a3 : Int), t1, t1⟩, s5, noteV tb2 (endV s5)) else (⟨(a1 : Int), (a2 : Int), (a3 : Int), t1, t2⟩, s6, if likeT t1 t2 = true then noteV tb3 21 else tb3) by
    unfold pointV; simp only [e1, e2, e3, e4, e5, e6, e7])
  have E4 := Lib.hid e4
  have E5 := Lib.hid e5
  have E7 := Lib.hid e7
  obtain ⟨r, hr⟩ : ∃ r, pointV s tb = r := ⟨_, rfl⟩
  rw [hr] at PV ⊢
  clear hr e1 e2 e3 e4 e5 e6 e7 h
  go_enter Try.func28, Try.ntmps28
  go_wp2_with fail
  obtain ⟨w1, hw1⟩ : ∃ x, w.alloc (.cells #[.int .i64 0, .int .i64 0, .int .i64 0, .int .i64 0, .int .i64 0, .int .i64 0, .slice none 0 0, .int .i64 0, .int .i64 0, .int .i64 0, .slice none 0 0] 28) = x := ⟨_, rfl⟩
  have kb : Below w.heap.size w w1 := by rw [← hw1]; exact (Below.refl _ _).alloc (Nat.le_refl _) _
  have BR := Lib.hid (show Blk w1.drew w.heap.size 28 #[.int .i64 0, .int .i64 0, .int .i64 0, .int .i64 0, .int .i64 0, .int .i64 0, .slice none 0 0, .int .i64 0, .int .i64 0, .int .i64 0, .slice none 0 0] by rw [← hw1]; exact (Blk.now _ _ _ _ rfl).drew)
  rw [hw1]
  clear hw1
  have TK := Lib.hid (H.out.later (below_later (Below.refl _ w1).drew kb))
  have GG := Lib.hid (show But (fun k => k = g ∨ k = t) w w1.drew from But.of_below (below_later (Below.refl _ w1).drew kb))
  clear H kb
  go_cut [4] (fun b wx => ∃ k, b = .pointer (some ⟨k, 0, none⟩) ∧ Blk wx k 28 #[.int .i64 (a1 : Int), .int .i64 (a2 : Int), .int .i64 (a3 : Int), .int .i64 0, .int .i64 0, .int .i64 0, .slice none 0 0, .int .i64 0, .int .i64 0, .int .i64 0, .slice none 0 0] ∧ Blk wx w.heap.size 28 #[.int .i64 0, .int .i64 0, .int .i64 0, .int .i64 0, .int .i64 0, .int .i64 0, .slice none 0 0, .int .i64 0, .int .i64 0, .int .i64 0, .slice none 0 0] ∧ TkAt (fun x => X x ∨ w.heap.size ≤ x) wx t g s3 tb ∧ But (fun k => k = g ∨ k = t) w wx ∧ w.heap.size < k)
  case first =>
    refine wp_region_held_drew (S := fun w' => w'.cell? ⟨t, 0, none⟩ = some (.pointer (some ⟨g, 0, none⟩)) ∧ True) (by kernel_rfl) ?_ (fun hS => ?_)
    · exact ⟨TK.out.blk.cell 0, trivial⟩
    refine wpAnyH_take (i := 0) (v := ?_) rfl (by as_aux_lemma => kernel_rfl) (by as_aux_lemma => kernel_rfl) (by as_aux_lemma => kernel_rfl) (fun _ _ _ h => h) (Or.inl ⟨by rfl, ?_⟩) hS ?_
    rotate_left
    · intro w hSw; (try dsimp only at hSw); go_simp; try with_reducible rfl
    try simp only [Act.put, List.getElem_toArray, List.getElem_cons_succ, List.getElem_cons_zero, List.setIfInBounds_toArray, List.set_cons_zero, List.set_cons_succ]
    refine wpAnyH_take (i := 1) (v := ?_) rfl (by as_aux_lemma => kernel_rfl) (by as_aux_lemma => kernel_rfl) (by as_aux_lemma => kernel_rfl) (fun _ _ _ h => h) (Or.inl ⟨by rfl, ?_⟩) hS ?_
    rotate_left
    · intro w hSw; (try dsimp only at hSw); go_simp; try with_reducible rfl
    try simp only [Act.put, List.getElem_toArray, List.getElem_cons_succ, List.getElem_cons_zero, List.setIfInBounds_toArray, List.set_cons_zero, List.set_cons_succ]
    refine wpAnyH_take (i := 2) (v := ?_) rfl (by as_aux_lemma => kernel_rfl) (by as_aux_lemma => kernel_rfl) (by as_aux_lemma => kernel_rfl) (fun _ _ _ h => h) (Or.inl ⟨by rfl, ?_⟩) hS ?_
    rotate_left
    · intro w hSw; (try dsimp only at hSw); go_simp; try with_reducible rfl
    try simp only [Act.put, List.getElem_toArray, List.getElem_cons_succ, List.getElem_cons_zero, List.setIfInBounds_toArray, List.set_cons_zero, List.set_cons_succ]
    refine wpAnyH_take (i := 3) (v := ?_) rfl (by as_aux_lemma => kernel_rfl) (by as_aux_lemma => kernel_rfl) (by as_aux_lemma => kernel_rfl) (fun _ _ _ h => h) (Or.inl ⟨by rfl, ?_⟩) hS ?_
    rotate_left
    · intro w hSw; (try dsimp only at hSw); go_simp; try with_reducible rfl
    try simp only [Act.put, List.getElem_toArray, List.getElem_cons_succ, List.getElem_cons_zero, List.setIfInBounds_toArray, List.set_cons_zero, List.set_cons_succ]
    refine wpAnyH_take (i := 5) (v := ?_) rfl (by as_aux_lemma => kernel_rfl) (by as_aux_lemma => kernel_rfl) (by as_aux_lemma => kernel_rfl) (fun _ _ _ h => h) (Or.inl ⟨by rfl, ?_⟩) hS ?_
    rotate_left
    · intro w hSw; (try dsimp only at hSw); go_simp; try with_reducible rfl
    try simp only [Act.put, List.getElem_toArray, List.getElem_cons_succ, List.getElem_cons_zero, List.setIfInBounds_toArray, List.set_cons_zero, List.set_cons_succ]
    refine wpAnyH_take (i := 6) (v := ?_) rfl (by as_aux_lemma => kernel_rfl) (by as_aux_lemma => kernel_rfl) (by as_aux_lemma => kernel_rfl) (fun _ _ _ h => h) (Or.inl ⟨by rfl, ?_⟩) hS ?_
    rotate_left
    · intro w hSw; (try dsimp only at hSw); go_simp; try with_reducible rfl
    try simp only [Act.put, List.getElem_toArray, List.getElem_cons_succ, List.getElem_cons_zero, List.setIfInBounds_toArray, List.set_cons_zero, List.set_cons_succ]
    refine wpAnyH_take (i := 7) (v := ?_) rfl (by as_aux_lemma => kernel_rfl) (by as_aux_lemma => kernel_rfl) (by as_aux_lemma => kernel_rfl) (fun _ _ _ h => h) (Or.inl ⟨by rfl, ?_⟩) hS ?_
    rotate_left
    · intro w hSw; (try dsimp only at hSw); go_simp; try with_reducible rfl
    try simp only [Act.put, List.getElem_toArray, List.getElem_cons_succ, List.getElem_cons_zero, List.setIfInBounds_toArray, List.set_cons_zero, List.set_cons_succ]
    refine wpAnyH_take (i := 8) (v := ?_) rfl (by as_aux_lemma => kernel_rfl) (by as_aux_lemma => kernel_rfl) (by as_aux_lemma => kernel_rfl) (fun _ _ _ h => h) (Or.inl ⟨by rfl, ?_⟩) hS ?_
    rotate_left
    · intro w hSw; (try dsimp only at hSw); go_simp; try with_reducible rfl
    try simp only [Act.put, List.getElem_toArray, List.getElem_cons_succ, List.getElem_cons_zero, List.setIfInBounds_toArray, List.set_cons_zero, List.set_cons_succ]
    refine wpAnyH_take (i := 10) (v := ?_) rfl (by as_aux_lemma => kernel_rfl) (by as_aux_lemma => kernel_rfl) (by as_aux_lemma => kernel_rfl) (fun _ _ _ h => h) (Or.inl ⟨by rfl, ?_⟩) hS ?_
    rotate_left
    · intro w hSw; (try dsimp only at hSw); go_simp; try with_reducible rfl
    try simp only [Act.put, List.getElem_toArray, List.getElem_cons_succ, List.getElem_cons_zero, List.setIfInBounds_toArray, List.set_cons_zero, List.set_cons_succ]
    refine wpAnyH_take (i := 11) (v := ?_) rfl (by as_aux_lemma => kernel_rfl) (by as_aux_lemma => kernel_rfl) (by as_aux_lemma => kernel_rfl) (fun _ _ _ h => h) (Or.inl ⟨by rfl, ?_⟩) hS ?_
    rotate_left
    · intro w hSw; (try dsimp only at hSw); go_simp; try with_reducible rfl
    try simp only [Act.put, List.getElem_toArray, List.getElem_cons_succ, List.getElem_cons_zero, List.setIfInBounds_toArray, List.set_cons_zero, List.set_cons_succ]
    refine wpAnyH_take (i := 12) (v := ?_) rfl (by as_aux_lemma => kernel_rfl) (by as_aux_lemma => kernel_rfl) (by as_aux_lemma => kernel_rfl) (fun _ _ _ h => h) (Or.inl ⟨by rfl, ?_⟩) hS ?_
    rotate_left
    · intro w hSw; (try dsimp only at hSw); go_simp; try with_reducible rfl
    try simp only [Act.put, List.getElem_toArray, List.getElem_cons_succ, List.getElem_cons_zero, List.setIfInBounds_toArray, List.set_cons_zero, List.set_cons_succ]
    refine wpAnyH_take (i := 13) (v := ?_) rfl (by as_aux_lemma => kernel_rfl) (by as_aux_lemma => kernel_rfl) (by as_aux_lemma => kernel_rfl) (fun _ _ _ h => h) (Or.inl ⟨by rfl, ?_⟩) hS ?_
    rotate_left
    · intro w hSw; (try dsimp only at hSw); go_simp; try with_reducible rfl
    try simp only [Act.put, List.getElem_toArray, List.getElem_cons_succ, List.getElem_cons_zero, List.setIfInBounds_toArray, List.set_cons_zero, List.set_cons_succ]
    refine wpAnyH_ready (rs := [4, 16]) (by kernel_rfl) (by simp) ?_
    refine AllReadyH.cons rfl (fun K hK => ?_) (AllReadyH.cons rfl (fun K hK => ?_) AllReadyH.nil)
    · go_simp
      refine (CN1.out _ TK.out.rd).mono ?_; rintro e w1c0 ⟨rfl, hr, hb⟩; replace TK := Lib.hid (TK.out.step hr hb); replace GG := Lib.hid (GG.out.trans (hb.upto (.inl rfl))); replace BR := Lib.hid (BR.out.but hb (show ¬ w.heap.size = g by omega)); refine hK.out _ _ ⟨TK.out.blk.cell 0, trivial⟩ (fun hS => ?_); clear hr hb
      clear hK K
      try simp only [Act.put, List.getElem_toArray, List.getElem_cons_succ, List.getElem_cons_zero, List.setIfInBounds_toArray, List.set_cons_zero, List.set_cons_succ]
      refine wpAnyH_ready (rs := [9, 16]) (by kernel_rfl) (by simp) ?_
      refine AllReadyH.cons rfl (fun K hK => ?_) (AllReadyH.cons rfl (fun K hK => ?_) AllReadyH.nil)
      · go_simp
        refine (CN2.out _ TK.out.rd).mono ?_; rintro e w1c1 ⟨rfl, hr, hb⟩; replace TK := Lib.hid (TK.out.step hr hb); replace GG := Lib.hid (GG.out.trans (hb.upto (.inl rfl))); replace BR := Lib.hid (BR.out.but hb (show ¬ w.heap.size = g by omega)); refine hK.out _ _ ⟨TK.out.blk.cell 0, trivial⟩ (fun hS => ?_); clear hr hb
        clear hK K
        try simp only [Act.put, List.getElem_toArray, List.getElem_cons_succ, List.getElem_cons_zero, List.setIfInBounds_toArray, List.set_cons_zero, List.set_cons_succ]
        refine wpAnyH_ready (rs := [14, 16]) (by kernel_rfl) (by simp) ?_
        refine AllReadyH.cons rfl (fun K hK => ?_) (AllReadyH.cons rfl (fun K hK => ?_) AllReadyH.nil)
        · go_simp
          refine (CN3.out _ TK.out.rd).mono ?_; rintro e w1c2 ⟨rfl, hr, hb⟩; replace TK := Lib.hid (TK.out.step hr hb); replace GG := Lib.hid (GG.out.trans (hb.upto (.inl rfl))); replace BR := Lib.hid (BR.out.but hb (show ¬ w.heap.size = g by omega)); refine hK.out _ _ ⟨TK.out.blk.cell 0, trivial⟩ (fun hS => ?_); clear hr hb
          clear hK K
          try simp only [Act.put, List.getElem_toArray, List.getElem_cons_succ, List.getElem_cons_zero, List.setIfInBounds_toArray, List.set_cons_zero, List.set_cons_succ]
          refine wpAnyH_take (i := 15) (v := ?_) rfl (by as_aux_lemma => kernel_rfl) (by as_aux_lemma => kernel_rfl) (by as_aux_lemma => kernel_rfl) (fun _ _ _ h => h) (Or.inl ⟨by rfl, ?_⟩) hS ?_
          rotate_left
          · intro w hSw; (try dsimp only at hSw); go_simp; try with_reducible rfl
          try simp only [Act.put, List.getElem_toArray, List.getElem_cons_succ, List.getElem_cons_zero, List.setIfInBounds_toArray, List.set_cons_zero, List.set_cons_succ]
          refine wpAnyH_ready (rs := [16]) (by kernel_rfl) (by simp) ?_
          refine AllReadyH.cons rfl (fun K hK => ?_) AllReadyH.nil
          go_simp
          have hb : Below w1c2.heap.size w1c2 (w1c2.alloc (.cells #[.int .i64 0, .int .i64 0, .int .i64 0, .int .i64 0, .int .i64 0, .int .i64 0, .slice none 0 0, .int .i64 0, .int .i64 0, .int .i64 0, .slice none 0 0] 28)) := (Below.refl _ _).alloc (Nat.le_refl _) _
          have BZ := Lib.hid (Blk.now w1c2 w1c2.heap.size 28 #[.int .i64 0, .int .i64 0, .int .i64 0, .int .i64 0, .int .i64 0, .int .i64 0, .slice none 0 0, .int .i64 0, .int .i64 0, .int .i64 0, .slice none 0 0] rfl)
          have zg : g < w1c2.heap.size := TK.out.rd.lt; have zt : t < w1c2.heap.size := TK.out.blk.lt; have zr : w.heap.size < w1c2.heap.size := BR.out.lt; replace BR := Lib.hid (BR.out.later hb); replace TK := Lib.hid (TK.out.later hb); replace GG := Lib.hid (GG.out.later hb); refine hK.out _ _ ⟨TK.out.blk.cell 0, trivial⟩ (fun hS => ?_)
          clear hK K hb
          try simp only [Act.put, List.getElem_toArray, List.getElem_cons_succ, List.getElem_cons_zero, List.setIfInBounds_toArray, List.set_cons_zero, List.set_cons_succ]
          refine wpAnyH_ready (rs := [17]) (by kernel_rfl) (by simp) ?_
          refine AllReadyH.cons rfl (fun K hK => ?_) AllReadyH.nil
          rw [if_pos (by rfl)]; refine oper_store_blk 28 (.tmp 4) (.tmp 22) rfl w1c2.heap.size 0 #[.int .i64 (a1 : Int), .int .i64 (a2 : Int), .int .i64 (a3 : Int), .int .i64 0, .int .i64 0, .int .i64 0, .slice none 0 0, .int .i64 0, .int .i64 0, .int .i64 0, .slice none 0 0] rfl rfl _ #[.int .i64 0, .int .i64 0, .int .i64 0, .int .i64 0, .int .i64 0, .int .i64 0, .slice none 0 0, .int .i64 0, .int .i64 0, .int .i64 0, .slice none 0 0] #[.int .i64 (a1 : Int), .int .i64 (a2 : Int), .int .i64 (a3 : Int), .int .i64 0, .int .i64 0, .int .i64 0, .slice none 0 0, .int .i64 0, .int .i64 0, .int .i64 0, .slice none 0 0] BZ.out (by simp) (by kernel_rfl) (by simp [Value.oneCell']) rfl ?_; intro wz BX gz; replace GG := Lib.hid (GG.out.step (But.of_grown gz rfl : But (one w1c2.heap.size) _ _) (fun k h1 h2 => by have h2 : k = w1c2.heap.size := h2; omega)); replace TK := Lib.hid (TK.out.far (But.of_grown gz rfl : But (one w1c2.heap.size) _ _) (fun k h => .inr (by have h : k = w1c2.heap.size := h; omega)) (show ¬ g = w1c2.heap.size by omega) (show ¬ t = w1c2.heap.size by omega)); replace BR := Lib.hid (BR.out.but (But.of_grown gz rfl : But (one w1c2.heap.size) _ _) (show ¬ w.heap.size = w1c2.heap.size by omega)); refine hK.out _ _ ⟨TK.out.blk.cell 0, trivial⟩ (fun hS => ?_); clear gz
          clear hK K
          try simp only [Act.put, List.getElem_toArray, List.getElem_cons_succ, List.getElem_cons_zero, List.setIfInBounds_toArray, List.set_cons_zero, List.set_cons_succ]
          refine wpAnyH_done (by kernel_rfl) ?_ _
          go_wp2_with fail
          go_meet
          case rel => exact ⟨w1c2.heap.size, rfl, BX, BR.out, TK.out, GG.out, zr⟩
        · go_simp
          have hb : Below w1c1.heap.size w1c1 (w1c1.alloc (.cells #[.int .i64 0, .int .i64 0, .int .i64 0, .int .i64 0, .int .i64 0, .int .i64 0, .slice none 0 0, .int .i64 0, .int .i64 0, .int .i64 0, .slice none 0 0] 28)) := (Below.refl _ _).alloc (Nat.le_refl _) _
          have BZ := Lib.hid (Blk.now w1c1 w1c1.heap.size 28 #[.int .i64 0, .int .i64 0, .int .i64 0, .int .i64 0, .int .i64 0, .int .i64 0, .slice none 0 0, .int .i64 0, .int .i64 0, .int .i64 0, .slice none 0 0] rfl)
          have zg : g < w1c1.heap.size := TK.out.rd.lt; have zt : t < w1c1.heap.size := TK.out.blk.lt; have zr : w.heap.size < w1c1.heap.size := BR.out.lt; replace BR := Lib.hid (BR.out.later hb); replace TK := Lib.hid (TK.out.later hb); replace GG := Lib.hid (GG.out.later hb); refine hK.out _ _ ⟨TK.out.blk.cell 0, trivial⟩ (fun hS => ?_)
          clear hK K hb
          try simp only [Act.put, List.getElem_toArray, List.getElem_cons_succ, List.getElem_cons_zero, List.setIfInBounds_toArray, List.set_cons_zero, List.set_cons_succ]
          refine wpAnyH_ready (rs := [14]) (by kernel_rfl) (by simp) ?_
          refine AllReadyH.cons rfl (fun K hK => ?_) AllReadyH.nil
          go_simp
          refine (CN3.out _ TK.out.rd).mono ?_; rintro e w1c2z ⟨rfl, hr, hb⟩; replace TK := Lib.hid (TK.out.step hr hb); replace GG := Lib.hid (GG.out.trans (hb.upto (.inl rfl))); replace BR := Lib.hid (BR.out.but hb (show ¬ w.heap.size = g by omega)); replace BZ := Lib.hid (BZ.out.but hb (show ¬ w1c1.heap.size = g by omega)); refine hK.out _ _ ⟨TK.out.blk.cell 0, trivial⟩ (fun hS => ?_); clear hr hb
          clear hK K
          try simp only [Act.put, List.getElem_toArray, List.getElem_cons_succ, List.getElem_cons_zero, List.setIfInBounds_toArray, List.set_cons_zero, List.set_cons_succ]
          refine wpAnyH_take (i := 15) (v := ?_) rfl (by as_aux_lemma => kernel_rfl) (by as_aux_lemma => kernel_rfl) (by as_aux_lemma => kernel_rfl) (fun _ _ _ h => h) (Or.inl ⟨by rfl, ?_⟩) hS ?_
          rotate_left
          · intro w hSw; (try dsimp only at hSw); go_simp; try with_reducible rfl
          try simp only [Act.put, List.getElem_toArray, List.getElem_cons_succ, List.getElem_cons_zero, List.setIfInBounds_toArray, List.set_cons_zero, List.set_cons_succ]
          refine wpAnyH_ready (rs := [17]) (by kernel_rfl) (by simp) ?_
          refine AllReadyH.cons rfl (fun K hK => ?_) AllReadyH.nil
          rw [if_pos (by rfl)]; refine oper_store_blk 28 (.tmp 4) (.tmp 22) rfl w1c1.heap.size 0 #[.int .i64 (a1 : Int), .int .i64 (a2 : Int), .int .i64 (a3 : Int), .int .i64 0, .int .i64 0, .int .i64 0, .slice none 0 0, .int .i64 0, .int .i64 0, .int .i64 0, .slice none 0 0] rfl rfl _ #[.int .i64 0, .int .i64 0, .int .i64 0, .int .i64 0, .int .i64 0, .int .i64 0, .slice none 0 0, .int .i64 0, .int .i64 0, .int .i64 0, .slice none 0 0] #[.int .i64 (a1 : Int), .int .i64 (a2 : Int), .int .i64 (a3 : Int), .int .i64 0, .int .i64 0, .int .i64 0, .slice none 0 0, .int .i64 0, .int .i64 0, .int .i64 0, .slice none 0 0] BZ.out (by simp) (by kernel_rfl) (by simp [Value.oneCell']) rfl ?_; intro wz BX gz; replace GG := Lib.hid (GG.out.step (But.of_grown gz rfl : But (one w1c1.heap.size) _ _) (fun k h1 h2 => by have h2 : k = w1c1.heap.size := h2; omega)); replace TK := Lib.hid (TK.out.far (But.of_grown gz rfl : But (one w1c1.heap.size) _ _) (fun k h => .inr (by have h : k = w1c1.heap.size := h; omega)) (show ¬ g = w1c1.heap.size by omega) (show ¬ t = w1c1.heap.size by omega)); replace BR := Lib.hid (BR.out.but (But.of_grown gz rfl : But (one w1c1.heap.size) _ _) (show ¬ w.heap.size = w1c1.heap.size by omega)); refine hK.out _ _ ⟨TK.out.blk.cell 0, trivial⟩ (fun hS => ?_); clear gz
          clear hK K
          try simp only [Act.put, List.getElem_toArray, List.getElem_cons_succ, List.getElem_cons_zero, List.setIfInBounds_toArray, List.set_cons_zero, List.set_cons_succ]
          refine wpAnyH_done (by kernel_rfl) ?_ _
          go_wp2_with fail
          go_meet
          case rel => exact ⟨w1c1.heap.size, rfl, BX, BR.out, TK.out, GG.out, zr⟩
      · go_simp
        have hb : Below w1c0.heap.size w1c0 (w1c0.alloc (.cells #[.int .i64 0, .int .i64 0, .int .i64 0, .int .i64 0, .int .i64 0, .int .i64 0, .slice none 0 0, .int .i64 0, .int .i64 0, .int .i64 0, .slice none 0 0] 28)) := (Below.refl _ _).alloc (Nat.le_refl _) _
        have BZ := Lib.hid (Blk.now w1c0 w1c0.heap.size 28 #[.int .i64 0, .int .i64 0, .int .i64 0, .int .i64 0, .int .i64 0, .int .i64 0, .slice none 0 0, .int .i64 0, .int .i64 0, .int .i64 0, .slice none 0 0] rfl)
        have zg : g < w1c0.heap.size := TK.out.rd.lt; have zt : t < w1c0.heap.size := TK.out.blk.lt; have zr : w.heap.size < w1c0.heap.size := BR.out.lt; replace BR := Lib.hid (BR.out.later hb); replace TK := Lib.hid (TK.out.later hb); replace GG := Lib.hid (GG.out.later hb); refine hK.out _ _ ⟨TK.out.blk.cell 0, trivial⟩ (fun hS => ?_)
        clear hK K hb
        try simp only [Act.put, List.getElem_toArray, List.getElem_cons_succ, List.getElem_cons_zero, List.setIfInBounds_toArray, List.set_cons_zero, List.set_cons_succ]
        refine wpAnyH_ready (rs := [9]) (by kernel_rfl) (by simp) ?_
        refine AllReadyH.cons rfl (fun K hK => ?_) AllReadyH.nil
        go_simp
        refine (CN2.out _ TK.out.rd).mono ?_; rintro e w1c1z ⟨rfl, hr, hb⟩; replace TK := Lib.hid (TK.out.step hr hb); replace GG := Lib.hid (GG.out.trans (hb.upto (.inl rfl))); replace BR := Lib.hid (BR.out.but hb (show ¬ w.heap.size = g by omega)); replace BZ := Lib.hid (BZ.out.but hb (show ¬ w1c0.heap.size = g by omega)); refine hK.out _ _ ⟨TK.out.blk.cell 0, trivial⟩ (fun hS => ?_); clear hr hb
        clear hK K
        try simp only [Act.put, List.getElem_toArray, List.getElem_cons_succ, List.getElem_cons_zero, List.setIfInBounds_toArray, List.set_cons_zero, List.set_cons_succ]
        refine wpAnyH_ready (rs := [14]) (by kernel_rfl) (by simp) ?_
        refine AllReadyH.cons rfl (fun K hK => ?_) AllReadyH.nil
        go_simp
        refine (CN3.out _ TK.out.rd).mono ?_; rintro e w1c2z ⟨rfl, hr, hb⟩; replace TK := Lib.hid (TK.out.step hr hb); replace GG := Lib.hid (GG.out.trans (hb.upto (.inl rfl))); replace BR := Lib.hid (BR.out.but hb (show ¬ w.heap.size = g by omega)); replace BZ := Lib.hid (BZ.out.but hb (show ¬ w1c0.heap.size = g by omega)); refine hK.out _ _ ⟨TK.out.blk.cell 0, trivial⟩ (fun hS => ?_); clear hr hb
        clear hK K
        try simp only [Act.put, List.getElem_toArray, List.getElem_cons_succ, List.getElem_cons_zero, List.setIfInBounds_toArray, List.set_cons_zero, List.set_cons_succ]
        refine wpAnyH_take (i := 15) (v := ?_) rfl (by as_aux_lemma => kernel_rfl) (by as_aux_lemma => kernel_rfl) (by as_aux_lemma => kernel_rfl) (fun _ _ _ h => h) (Or.inl ⟨by rfl, ?_⟩) hS ?_
        rotate_left
        · intro w hSw; (try dsimp only at hSw); go_simp; try with_reducible rfl
        try simp only [Act.put, List.getElem_toArray, List.getElem_cons_succ, List.getElem_cons_zero, List.setIfInBounds_toArray, List.set_cons_zero, List.set_cons_succ]
        refine wpAnyH_ready (rs := [17]) (by kernel_rfl) (by simp) ?_
        refine AllReadyH.cons rfl (fun K hK => ?_) AllReadyH.nil
        rw [if_pos (by rfl)]; refine oper_store_blk 28 (.tmp 4) (.tmp 22) rfl w1c0.heap.size 0 #[.int .i64 (a1 : Int), .int .i64 (a2 : Int), .int .i64 (a3 : Int), .int .i64 0, .int .i64 0, .int .i64 0, .slice none 0 0, .int .i64 0, .int .i64 0, .int .i64 0, .slice none 0 0] rfl rfl _ #[.int .i64 0, .int .i64 0, .int .i64 0, .int .i64 0, .int .i64 0, .int .i64 0, .slice none 0 0, .int .i64 0, .int .i64 0, .int .i64 0, .slice none 0 0] #[.int .i64 (a1 : Int), .int .i64 (a2 : Int), .int .i64 (a3 : Int), .int .i64 0, .int .i64 0, .int .i64 0, .slice none 0 0, .int .i64 0, .int .i64 0, .int .i64 0, .slice none 0 0] BZ.out (by simp) (by kernel_rfl) (by simp [Value.oneCell']) rfl ?_; intro wz BX gz; replace GG := Lib.hid (GG.out.step (But.of_grown gz rfl : But (one w1c0.heap.size) _ _) (fun k h1 h2 => by have h2 : k = w1c0.heap.size := h2; omega)); replace TK := Lib.hid (TK.out.far (But.of_grown gz rfl : But (one w1c0.heap.size) _ _) (fun k h => .inr (by have h : k = w1c0.heap.size := h; omega)) (show ¬ g = w1c0.heap.size by omega) (show ¬ t = w1c0.heap.size by omega)); replace BR := Lib.hid (BR.out.but (But.of_grown gz rfl : But (one w1c0.heap.size) _ _) (show ¬ w.heap.size = w1c0.heap.size by omega)); refine hK.out _ _ ⟨TK.out.blk.cell 0, trivial⟩ (fun hS => ?_); clear gz
        clear hK K
        try simp only [Act.put, List.getElem_toArray, List.getElem_cons_succ, List.getElem_cons_zero, List.setIfInBounds_toArray, List.set_cons_zero, List.set_cons_succ]
        refine wpAnyH_done (by kernel_rfl) ?_ _
        go_wp2_with fail
        go_meet
        case rel => exact ⟨w1c0.heap.size, rfl, BX, BR.out, TK.out, GG.out, zr⟩
    · go_simp
      have hb : Below w1.drew.heap.size w1.drew (w1.drew.alloc (.cells #[.int .i64 0, .int .i64 0, .int .i64 0, .int .i64 0, .int .i64 0, .int .i64 0, .slice none 0 0, .int .i64 0, .int .i64 0, .int .i64 0, .slice none 0 0] 28)) := (Below.refl _ _).alloc (Nat.le_refl _) _
      have BZ := Lib.hid (Blk.now w1.drew w1.heap.size 28 #[.int .i64 0, .int .i64 0, .int .i64 0, .int .i64 0, .int .i64 0, .int .i64 0, .slice none 0 0, .int .i64 0, .int .i64 0, .int .i64 0, .slice none 0 0] rfl)
      have zg : g < w1.heap.size := TK.out.rd.lt; have zt : t < w1.heap.size := TK.out.blk.lt; have zr : w.heap.size < w1.heap.size := BR.out.lt; replace BR := Lib.hid (BR.out.later hb); replace TK := Lib.hid (TK.out.later hb); replace GG := Lib.hid (GG.out.later hb); refine hK.out _ _ ⟨TK.out.blk.cell 0, trivial⟩ (fun hS => ?_)
      clear hK K hb
      try simp only [Act.put, List.getElem_toArray, List.getElem_cons_succ, List.getElem_cons_zero, List.setIfInBounds_toArray, List.set_cons_zero, List.set_cons_succ]
      refine wpAnyH_ready (rs := [4]) (by kernel_rfl) (by simp) ?_
      refine AllReadyH.cons rfl (fun K hK => ?_) AllReadyH.nil
      go_simp
      refine (CN1.out _ TK.out.rd).mono ?_; rintro e w1c0z ⟨rfl, hr, hb⟩; replace TK := Lib.hid (TK.out.step hr hb); replace GG := Lib.hid (GG.out.trans (hb.upto (.inl rfl))); replace BR := Lib.hid (BR.out.but hb (show ¬ w.heap.size = g by omega)); replace BZ := Lib.hid (BZ.out.but hb (show ¬ w1.heap.size = g by omega)); refine hK.out _ _ ⟨TK.out.blk.cell 0, trivial⟩ (fun hS => ?_); clear hr hb
      clear hK K
      try simp only [Act.put, List.getElem_toArray, List.getElem_cons_succ, List.getElem_cons_zero, List.setIfInBounds_toArray, List.set_cons_zero, List.set_cons_succ]
      refine wpAnyH_ready (rs := [9]) (by kernel_rfl) (by simp) ?_
      refine AllReadyH.cons rfl (fun K hK => ?_) AllReadyH.nil
      go_simp
      refine (CN2.out _ TK.out.rd).mono ?_; rintro e w1c1z ⟨rfl, hr, hb⟩; replace TK := Lib.hid (TK.out.step hr hb); replace GG := Lib.hid (GG.out.trans (hb.upto (.inl rfl))); replace BR := Lib.hid (BR.out.but hb (show ¬ w.heap.size = g by omega)); replace BZ := Lib.hid (BZ.out.but hb (show ¬ w1.heap.size = g by omega)); refine hK.out _ _ ⟨TK.out.blk.cell 0, trivial⟩ (fun hS => ?_); clear hr hb
      clear hK K
      try simp only [Act.put, List.getElem_toArray, List.getElem_cons_succ, List.getElem_cons_zero, List.setIfInBounds_toArray, List.set_cons_zero, List.set_cons_succ]
      refine wpAnyH_ready (rs := [14]) (by kernel_rfl) (by simp) ?_
      refine AllReadyH.cons rfl (fun K hK => ?_) AllReadyH.nil
      go_simp
      refine (CN3.out _ TK.out.rd).mono ?_; rintro e w1c2z ⟨rfl, hr, hb⟩; replace TK := Lib.hid (TK.out.step hr hb); replace GG := Lib.hid (GG.out.trans (hb.upto (.inl rfl))); replace BR := Lib.hid (BR.out.but hb (show ¬ w.heap.size = g by omega)); replace BZ := Lib.hid (BZ.out.but hb (show ¬ w1.heap.size = g by omega)); refine hK.out _ _ ⟨TK.out.blk.cell 0, trivial⟩ (fun hS => ?_); clear hr hb
      clear hK K
      try simp only [Act.put, List.getElem_toArray, List.getElem_cons_succ, List.getElem_cons_zero, List.setIfInBounds_toArray, List.set_cons_zero, List.set_cons_succ]
      refine wpAnyH_take (i := 15) (v := ?_) rfl (by as_aux_lemma => kernel_rfl) (by as_aux_lemma => kernel_rfl) (by as_aux_lemma => kernel_rfl) (fun _ _ _ h => h) (Or.inl ⟨by rfl, ?_⟩) hS ?_
      rotate_left
      · intro w hSw; (try dsimp only at hSw); go_simp; try with_reducible rfl
      try simp only [Act.put, List.getElem_toArray, List.getElem_cons_succ, List.getElem_cons_zero, List.setIfInBounds_toArray, List.set_cons_zero, List.set_cons_succ]
      refine wpAnyH_ready (rs := [17]) (by kernel_rfl) (by simp) ?_
      refine AllReadyH.cons rfl (fun K hK => ?_) AllReadyH.nil
      rw [if_pos (by rfl)]; refine oper_store_blk 28 (.tmp 4) (.tmp 22) rfl w1.heap.size 0 #[.int .i64 (a1 : Int), .int .i64 (a2 : Int), .int .i64 (a3 : Int), .int .i64 0, .int .i64 0, .int .i64 0, .slice none 0 0, .int .i64 0, .int .i64 0, .int .i64 0, .slice none 0 0] rfl rfl _ #[.int .i64 0, .int .i64 0, .int .i64 0, .int .i64 0, .int .i64 0, .int .i64 0, .slice none 0 0, .int .i64 0, .int .i64 0, .int .i64 0, .slice none 0 0] #[.int .i64 (a1 : Int), .int .i64 (a2 : Int), .int .i64 (a3 : Int), .int .i64 0, .int .i64 0, .int .i64 0, .slice none 0 0, .int .i64 0, .int .i64 0, .int .i64 0, .slice none 0 0] BZ.out (by simp) (by kernel_rfl) (by simp [Value.oneCell']) rfl ?_; intro wz BX gz; replace GG := Lib.hid (GG.out.step (But.of_grown gz rfl : But (one w1.heap.size) _ _) (fun k h1 h2 => by have h2 : k = w1.heap.size := h2; omega)); replace TK := Lib.hid (TK.out.far (But.of_grown gz rfl : But (one w1.heap.size) _ _) (fun k h => .inr (by have h : k = w1.heap.size := h; omega)) (show ¬ g = w1.heap.size by omega) (show ¬ t = w1.heap.size by omega)); replace BR := Lib.hid (BR.out.but (But.of_grown gz rfl : But (one w1.heap.size) _ _) (show ¬ w.heap.size = w1.heap.size by omega)); refine hK.out _ _ ⟨TK.out.blk.cell 0, trivial⟩ (fun hS => ?_); clear gz
      clear hK K
      try simp only [Act.put, List.getElem_toArray, List.getElem_cons_succ, List.getElem_cons_zero, List.setIfInBounds_toArray, List.set_cons_zero, List.set_cons_succ]
      refine wpAnyH_done (by kernel_rfl) ?_ _
      go_wp2_with fail
      go_meet
      case rel => exact ⟨w1.heap.size, rfl, BX, BR.out, TK.out, GG.out, zr⟩
  case rest =>
    obtain ⟨kp, rfl, bp, br, tk, gg, hk⟩ := hcut
    have BP := Lib.hid bp
    replace BR := Lib.hid br
    replace TK := Lib.hid tk
    replace GG := Lib.hid gg
    have c0 := tk.blk.cell 0
    clear bp br tk gg CN1 CN2 CN3
    go_wp2_with fail
    refine (rdEnd_any _ g s3 _ TK.out.rd).mono ?_
    rintro e w' ⟨rfl, rfl⟩
    go_wp2_with fail
    refine (note_any _ t g s3 tb (endV s3) _ TK.out).mono ?_
    rintro e wn ⟨rfl, tk, b2⟩
    replace TK := Lib.hid tk
    replace GG := Lib.hid (GG.out.trans (b2.upto (.inr rfl)))
    replace BP := Lib.hid (BP.out.but b2 (show ¬ kp = t by omega))
    replace BR := Lib.hid (BR.out.but b2 (show ¬ w.heap.size = t by omega))

    clear tk b2
    rw [E4.out] at TK
    clear c0 E4
    go_wp2_with fail
    refine (taketensor_any _ t g s3 tb1 _ TK.out).mono ?_
    rintro e w3 ⟨⟨A, n, c, rfl, hs⟩, tk, b2⟩
    rw [E5.out] at hs tk
    rw [E5.out]
    have lkp := BP.out.lt
    have HS := Lib.hid (show Sl (tInt .i8) w3 (fun x => kp < x ∧ x < w3.heap.size) A n c t1.data from hs.more (fun q hq => ⟨Nat.lt_of_lt_of_le lkp hq.1, hq.2⟩))
    replace TK := Lib.hid (show TkAt _ w3 t g s4 tb2 from tk)
    replace GG := Lib.hid (GG.out.trans b2)
    replace BP := Lib.hid (BP.out.but b2 (show ¬ (kp = g ∨ kp = t) by omega))
    replace BR := Lib.hid (BR.out.but b2 (show ¬ (w.heap.size = g ∨ w.heap.size = t) by omega))
    clear tk b2 hs E5 lkp
    go_wp2_with (refine wpList_store_blk rfl 26 (.tmp 32) (.tmp 31) rfl kp 3 #[.int .i64 t1.h, .int .i64 t1.v, .int .i64 t1.c, .slice A n c] rfl rfl _ _ #[.int .i64 (a1 : Int), .int .i64 (a2 : Int), .int .i64 (a3 : Int), .int .i64 t1.h, .int .i64 t1.v, .int .i64 t1.c, .slice A n c, .int .i64 0, .int .i64 0, .int .i64 0, .slice none 0 0] BP.out (by simp) (by kernel_rfl) (by simp [Value.oneCell']) rfl ?_; intro w4 B4 g4; have FB := Lib.hid B4; have FG := Lib.hid g4; clear B4 g4; have c0 : w4.cell? ⟨t, 0, none⟩ = some (.pointer (some ⟨g, 0, none⟩)) := (TK.out.far (But.of_grown FG.out rfl : But (one kp) _ _) (fun q h => .inr (by have h : q = kp := h; omega)) (show ¬ g = kp by omega) (show ¬ t = kp by omega)).blk.cell 0)
    have b4 : But (one kp) w3 w4 := But.of_grown FG.out rfl
    replace BP := FB
    replace BR := Lib.hid (BR.out.but b4 (show ¬ w.heap.size = kp by omega))
    replace TK := Lib.hid (TK.out.far b4 (fun q h => .inr (by have h : q = kp := h; omega)) (show ¬ g = kp by omega) (show ¬ t = kp by omega))
    replace GG := Lib.hid (GG.out.step b4 (fun q h1 h2 => by have h2 : q = kp := h2; omega))
    replace HS := Lib.hid (HS.out.over b4 (fun q e => by have e : q = kp := e; omega))
    clear b4 FG FB
    refine (CN4.out _ TK.out.rd).mono ?_
    rintro e w5 ⟨rfl, hr, hb⟩
    replace TK := Lib.hid (TK.out.step hr hb)
    replace GG := Lib.hid (GG.out.trans (hb.upto (.inl rfl)))
    replace BP := Lib.hid (BP.out.but hb (show ¬ kp = g by omega))
    replace BR := Lib.hid (BR.out.but hb (show ¬ w.heap.size = g by omega))
    replace HS := Lib.hid (HS.out.over hb (fun q e => by have e : q = g := e; omega))
    clear hr hb c0 CN4
    have c0 := TK.out.blk.cell 0
    by_cases h0 : ak = 0
    · rw [if_pos h0] at PV
      have u1 : ((ak : Int) == 0) = true := by simp [h0]
      have u2 : (ak == 0) = true := by simp [h0]
      clear h0 E7
      go_wp2_with fail
      refine (rdEnd_any _ g s5 _ TK.out.rd).mono ?_
      rintro e w' ⟨rfl, rfl⟩
      go_wp2_with fail
      refine (note_any _ t g s5 tb2 (endV s5) _ TK.out).mono ?_
      rintro e wn ⟨rfl, tk, b2⟩
      replace TK := Lib.hid tk
      replace GG := Lib.hid (GG.out.trans (b2.upto (.inr rfl)))
      replace BP := Lib.hid (BP.out.but b2 (show ¬ kp = t by omega))
      replace BR := Lib.hid (BR.out.but b2 (show ¬ w.heap.size = t by omega))
      replace HS := Lib.hid (HS.out.over b2 (fun q e => by have e : q = t := e; omega))
      clear tk b2
      clear c0 u1 u2
      go_wp2_with fail
      have nle : n ≤ 1024 := by rw [← HS.out.n_eq]; exact tl1
      have k0 : Below wn.heap.size wn wn.drew := (Below.refl _ _).drew
      replace TK := Lib.hid (TK.out.later k0)
      replace GG := Lib.hid (GG.out.later k0)
      replace BP := Lib.hid (BP.out.later k0)
      replace BR := Lib.hid (BR.out.later k0)
      replace HS := Lib.hid (HS.out.over (But.of_below (X := fun _ => False) k0) (fun _ h => h.elim))
      clear k0
      refine wp_region_held_drew (S := fun w' => w'.cell? ⟨kp, 3, none⟩ = some (.int .i64 t1.h) ∧ w'.cell? ⟨kp, 4, none⟩ = some (.int .i64 t1.v) ∧ w'.cell? ⟨kp, 5, none⟩ = some (.int .i64 t1.c) ∧ w'.cell? ⟨kp, 6, none⟩ = some (.slice A n c) ∧ True) (by kernel_rfl) ?_ (fun hS => ?_)
      · exact ⟨BP.out.cell 3, BP.out.cell 4, BP.out.cell 5, BP.out.cell 6, trivial⟩
      refine wpAnyH_take (i := 0) (v := ?_) rfl (by as_aux_lemma => kernel_rfl) (by as_aux_lemma => kernel_rfl) (by as_aux_lemma => kernel_rfl) (fun _ _ _ h => h) (Or.inl ⟨by rfl, ?_⟩) hS ?_
      rotate_left
      · intro w hSw; (try dsimp only at hSw); go_simp; try with_reducible rfl
      try simp only [Act.put, List.getElem_toArray, List.getElem_cons_succ, List.getElem_cons_zero, List.setIfInBounds_toArray, List.set_cons_zero, List.set_cons_succ]
      refine wpAnyH_take (i := 1) (v := ?_) rfl (by as_aux_lemma => kernel_rfl) (by as_aux_lemma => kernel_rfl) (by as_aux_lemma => kernel_rfl) (fun _ _ _ h => h) (Or.inl ⟨by rfl, ?_⟩) hS ?_
      rotate_left
      · intro w hSw; (try dsimp only at hSw); go_simp; try with_reducible rfl
      try simp only [Act.put, List.getElem_toArray, List.getElem_cons_succ, List.getElem_cons_zero, List.setIfInBounds_toArray, List.set_cons_zero, List.set_cons_succ]
      refine wpAnyH_take (i := 2) rfl (by as_aux_lemma => kernel_rfl) (by as_aux_lemma => kernel_rfl) (by as_aux_lemma => kernel_rfl) (fun _ _ _ h => h) (yieldsIf_load_mid (by rfl) 23 (.tmp 47) rfl kp 3 rfl [.int .i64 t1.h, .int .i64 t1.v, .int .i64 t1.c] _ (fun w hs j v hv => three_cells hs.1 hs.2.1 hs.2.2.1 j v hv) Try.underlying23 rfl (by kernel_rfl)) hS ?_
      try simp only [Act.put, List.getElem_toArray, List.getElem_cons_succ, List.getElem_cons_zero, List.setIfInBounds_toArray, List.set_cons_zero, List.set_cons_succ]
      refine wpAnyH_take (i := 3) (v := ?_) rfl (by as_aux_lemma => kernel_rfl) (by as_aux_lemma => kernel_rfl) (by as_aux_lemma => kernel_rfl) (fun _ _ _ h => h) (Or.inl ⟨by rfl, ?_⟩) hS ?_
      rotate_left
      · intro w hSw; (try dsimp only at hSw); go_simp; try with_reducible rfl
      try simp only [Act.put, List.getElem_toArray, List.getElem_cons_succ, List.getElem_cons_zero, List.setIfInBounds_toArray, List.set_cons_zero, List.set_cons_succ]
      refine wpAnyH_take (i := 4) (v := ?_) rfl (by as_aux_lemma => kernel_rfl) (by as_aux_lemma => kernel_rfl) (by as_aux_lemma => kernel_rfl) (fun _ _ _ h => h) (Or.inl ⟨by rfl, ?_⟩) hS ?_
      rotate_left
      · intro w hSw; (try dsimp only at hSw); go_simp; try with_reducible rfl
      try simp only [Act.put, List.getElem_toArray, List.getElem_cons_succ, List.getElem_cons_zero, List.setIfInBounds_toArray, List.set_cons_zero, List.set_cons_succ]
      refine wpAnyH_take (i := 5) (v := ?_) rfl (by as_aux_lemma => kernel_rfl) (by as_aux_lemma => kernel_rfl) (by as_aux_lemma => kernel_rfl) (fun _ _ _ h => h) (Or.inl ⟨by rfl, ?_⟩) hS ?_
      rotate_left
      · intro w hSw; (try dsimp only at hSw); go_simp; try with_reducible rfl
      try simp only [Act.put, List.getElem_toArray, List.getElem_cons_succ, List.getElem_cons_zero, List.setIfInBounds_toArray, List.set_cons_zero, List.set_cons_succ]
      refine wpAnyH_ready (rs := [6]) (by kernel_rfl) (by simp) ?_
      refine AllReadyH.cons rfl (fun K hK => ?_) AllReadyH.nil
      (go_simp; refine (clone8_any A n c t1.data _ (HS.out.more (fun q hq => hq.2)) (by omega)).mono ?_; rintro e wq ⟨B, m, d, rfl, hs, hb⟩; have lkp := BP.out.lt; have HV := Lib.hid (show Sl (tInt .i8) wq (fun x => kp < x ∧ x < wq.heap.size) B m d t1.data from hs.more (fun q hq => ⟨Nat.lt_of_lt_of_le lkp hq.1, hq.2⟩)); replace TK := Lib.hid (TK.out.later hb); replace GG := Lib.hid (GG.out.later hb); replace BP := Lib.hid (BP.out.later hb); replace BR := Lib.hid (BR.out.later hb); replace HS := Lib.hid (HS.out.over (But.of_below (X := fun _ => False) hb) (fun _ h => h.elim)); refine hK.out _ _ ⟨BP.out.cell 3, BP.out.cell 4, BP.out.cell 5, BP.out.cell 6, trivial⟩ (fun hS => ?_); clear hb hs)
      clear hK K
      try simp only [Act.put, List.getElem_toArray, List.getElem_cons_succ, List.getElem_cons_zero, List.setIfInBounds_toArray, List.set_cons_zero, List.set_cons_succ]
      refine wpAnyH_take (i := 7) (v := ?_) rfl (by as_aux_lemma => kernel_rfl) (by as_aux_lemma => kernel_rfl) (by as_aux_lemma => kernel_rfl) (fun _ _ _ h => h) (Or.inl ⟨by rfl, ?_⟩) hS ?_
      rotate_left
      · intro w hSw; (try dsimp only at hSw); go_simp; try with_reducible rfl
      try simp only [Act.put, List.getElem_toArray, List.getElem_cons_succ, List.getElem_cons_zero, List.setIfInBounds_toArray, List.set_cons_zero, List.set_cons_succ]
      refine wpAnyH_take (i := 8) (v := ?_) rfl (by as_aux_lemma => kernel_rfl) (by as_aux_lemma => kernel_rfl) (by as_aux_lemma => kernel_rfl) (fun _ _ _ h => h) (Or.inl ⟨by rfl, ?_⟩) hS ?_
      rotate_left
      · intro w hSw; (try dsimp only at hSw); go_simp; try with_reducible rfl
      try simp only [Act.put, List.getElem_toArray, List.getElem_cons_succ, List.getElem_cons_zero, List.setIfInBounds_toArray, List.set_cons_zero, List.set_cons_succ]
      refine wpAnyH_ready (rs := [9]) (by kernel_rfl) (by simp) ?_
      refine AllReadyH.cons rfl (fun K hK => ?_) AllReadyH.nil
      (rw [if_pos (by rfl)]; refine oper_store_blk 26 (.tmp 54) (.tmp 53) rfl kp 7 #[.int .i64 t1.h, .int .i64 t1.v, .int .i64 t1.c, .slice B m d] rfl rfl _ #[.int .i64 (a1 : Int), .int .i64 (a2 : Int), .int .i64 (a3 : Int), .int .i64 t1.h, .int .i64 t1.v, .int .i64 t1.c, .slice A n c, .int .i64 0, .int .i64 0, .int .i64 0, .slice none 0 0] #[.int .i64 (a1 : Int), .int .i64 (a2 : Int), .int .i64 (a3 : Int), .int .i64 t1.h, .int .i64 t1.v, .int .i64 t1.c, .slice A n c, .int .i64 t1.h, .int .i64 t1.v, .int .i64 t1.c, .slice B m d] BP.out (by simp) (by kernel_rfl) (by simp [Value.oneCell']) rfl ?_; intro w7 B7 g7; have b7 : But (one kp) wq w7 := But.of_grown g7 rfl; replace BP := Lib.hid B7; refine hK.out _ _ ⟨BP.out.cell 3, BP.out.cell 4, BP.out.cell 5, BP.out.cell 6, trivial⟩ (fun hS => ?_); clear B7 g7)
      clear hK K
      try simp only [Act.put, List.getElem_toArray, List.getElem_cons_succ, List.getElem_cons_zero, List.setIfInBounds_toArray, List.set_cons_zero, List.set_cons_succ]
      refine wpAnyH_done (by kernel_rfl) ?_ _
      clear hS
      replace BR := Lib.hid (BR.out.but b7 (show ¬ w.heap.size = kp by omega))
      replace TK := Lib.hid (TK.out.far b7 (fun q h => .inr (by have h : q = kp := h; omega)) (show ¬ g = kp by omega) (show ¬ t = kp by omega))
      replace GG := Lib.hid (GG.out.step b7 (fun q h1 h2 => by have h2 : q = kp := h2; omega))
      replace HS := Lib.hid (HS.out.over b7 (fun q e => by have e : q = kp := e; omega))
      replace HV := Lib.hid (HV.out.over b7 (fun q e => by have e : q = kp := e; omega))
      clear b7
      go_wp2_with (first | (refine wpList_load_row rfl 28 (.tmp 4) rfl kp rfl _ _ (0, 0) _ BP.out.heap Try.underlying28 rfl (by kernel_rfl) ?_) | (refine wpList_store_all rfl 28 (.tmp 2) (.tmp 55) rfl w.heap.size #[.int .i64 (a1 : Int), .int .i64 (a2 : Int), .int .i64 (a3 : Int), .int .i64 t1.h, .int .i64 t1.v, .int .i64 t1.c, .slice A n c, .int .i64 t1.h, .int .i64 t1.v, .int .i64 t1.c, .slice B m d] rfl rfl _ _ BR.out rfl (by kernel_rfl) (by simp [Value.oneCell']) ?_; intro w9 B9 g9; have FB := Lib.hid B9; have FG := Lib.hid g9; clear B9 g9))
      have b9 : But (one w.heap.size) _ w9 := But.of_grown FG.out rfl
      refine ret_cell rfl FB.out rfl Try.underlying28 (by kernel_rfl) rfl ?_
      replace HS := Lib.hid (HS.out.over b9 (fun q e => by have e : q = w.heap.size := e; omega))
      replace HV := Lib.hid (HV.out.over b9 (fun q e => by have e : q = w.heap.size := e; omega))
      rw [PV.out]
      exact ⟨⟨A, n, c, B, m, d, rfl, HS.out.more (fun q hq => ⟨by omega, hq.2⟩), HV.out.more (fun q hq => ⟨by omega, hq.2⟩)⟩, (TK.out.far b9 (fun q h => .inr (by have h : q = w.heap.size := h; omega)) (show ¬ g = w.heap.size by omega) (show ¬ t = w.heap.size by omega)).more (fun q _ hy => .inl hy) hXg hXt, GG.out.step b9 (fun q h1 h2 => by have h2 : q = w.heap.size := h2; omega)⟩
    · rw [if_neg h0] at PV
      have u1 : ((ak : Int) == 0) = false := by simp [h0]
      have u2 : (ak == 0) = false := by simp [h0]
      clear h0 c0
      go_wp2_with fail
      refine (taketensor_any _ t g s5 tb2 _ TK.out).mono ?_
      rintro e w6 ⟨⟨B, m, d, rfl, hs⟩, tk, b2⟩
      rw [E7.out] at hs tk
      rw [E7.out]
      have lkp := BP.out.lt
      have HV := Lib.hid (show Sl (tInt .i8) w6 (fun x => kp < x ∧ x < w6.heap.size) B m d t2.data from hs.more (fun q hq => ⟨Nat.lt_of_lt_of_le lkp hq.1, hq.2⟩))
      replace TK := Lib.hid (show TkAt _ w6 t g s6 tb3 from tk)
      replace GG := Lib.hid (GG.out.trans b2)
      replace BP := Lib.hid (BP.out.but b2 (show ¬ (kp = g ∨ kp = t) by omega))
      replace BR := Lib.hid (BR.out.but b2 (show ¬ (w.heap.size = g ∨ w.heap.size = t) by omega))
      replace HS := Lib.hid (HS.out.over b2 (fun q e => by have e : q = g ∨ q = t := e; omega))
      clear tk b2 hs E7 lkp u1 u2
      go_wp2_with (refine wpList_store_blk rfl 26 (.tmp 58) (.tmp 57) rfl kp 7 #[.int .i64 t2.h, .int .i64 t2.v, .int .i64 t2.c, .slice B m d] rfl rfl _ _ #[.int .i64 (a1 : Int), .int .i64 (a2 : Int), .int .i64 (a3 : Int), .int .i64 t1.h, .int .i64 t1.v, .int .i64 t1.c, .slice A n c, .int .i64 t2.h, .int .i64 t2.v, .int .i64 t2.c, .slice B m d] BP.out (by simp) (by kernel_rfl) (by simp [Value.oneCell']) rfl ?_; intro w7 B7 g7; have FB := Lib.hid B7; have FG := Lib.hid g7; clear B7 g7; have cA := fun i => FB.out.cell i)
      have b7 : But (one kp) w6 w7 := But.of_grown FG.out rfl
      replace BP := FB
      replace BR := Lib.hid (BR.out.but b7 (show ¬ w.heap.size = kp by omega))
      replace TK := Lib.hid (TK.out.far b7 (fun q h => .inr (by have h : q = kp := h; omega)) (show ¬ g = kp by omega) (show ¬ t = kp by omega))
      replace GG := Lib.hid (GG.out.step b7 (fun q h1 h2 => by have h2 : q = kp := h2; omega))
      replace HS := Lib.hid (HS.out.over b7 (fun q e => by have e : q = kp := e; omega))
      replace HV := Lib.hid (HV.out.over b7 (fun q e => by have e : q = kp := e; omega))
      clear b7 FG FB cA
      refine (tensorSame_any t1 t2 A B n c m d w7 (HS.out.more (fun q hq => hq.2)) (HV.out.more (fun q hq => hq.2))).mono ?_
      rintro e w8 ⟨rfl, hb⟩
      replace TK := Lib.hid (TK.out.later hb)
      replace GG := Lib.hid (GG.out.later hb)
      replace BP := Lib.hid (BP.out.later hb)
      replace BR := Lib.hid (BR.out.later hb)
      replace HS := Lib.hid (HS.out.over (But.of_below (X := fun _ => False) hb) (fun _ h => h.elim))
      replace HV := Lib.hid (HV.out.over (But.of_below (X := fun _ => False) hb) (fun _ h => h.elim))
      clear hb
      cases hl : likeT t1 t2 with
      | true =>
        rw [hl, if_pos rfl] at PV
        clear hl
        go_wp2_with fail
        refine (note_any _ t g s6 tb3 21 _ TK.out).mono ?_
        rintro e wn ⟨rfl, tk, b2⟩
        replace TK := Lib.hid tk
        replace GG := Lib.hid (GG.out.trans (b2.upto (.inr rfl)))
        replace BP := Lib.hid (BP.out.but b2 (show ¬ kp = t by omega))
        replace BR := Lib.hid (BR.out.but b2 (show ¬ w.heap.size = t by omega))
        replace HS := Lib.hid (HS.out.over b2 (fun q e => by have e : q = t := e; omega))
        replace HV := Lib.hid (HV.out.over b2 (fun q e => by have e : q = t := e; omega))
        clear tk b2
        go_wp2_with (first | (refine wpList_load_row rfl 28 (.tmp 4) rfl kp rfl _ _ (0, 0) _ BP.out.heap Try.underlying28 rfl (by kernel_rfl) ?_) | (refine wpList_store_all rfl 28 (.tmp 2) (.tmp 66) rfl w.heap.size #[.int .i64 (a1 : Int), .int .i64 (a2 : Int), .int .i64 (a3 : Int), .int .i64 t1.h, .int .i64 t1.v, .int .i64 t1.c, .slice A n c, .int .i64 t2.h, .int .i64 t2.v, .int .i64 t2.c, .slice B m d] rfl rfl _ _ BR.out rfl (by kernel_rfl) (by simp [Value.oneCell']) ?_; intro w9 B9 g9; have FB := Lib.hid B9; have FG := Lib.hid g9; clear B9 g9))
        have b9 : But (one w.heap.size) _ w9 := But.of_grown FG.out rfl
        refine ret_cell rfl FB.out rfl Try.underlying28 (by kernel_rfl) rfl ?_
        replace HS := Lib.hid (HS.out.over b9 (fun q e => by have e : q = w.heap.size := e; omega))
        replace HV := Lib.hid (HV.out.over b9 (fun q e => by have e : q = w.heap.size := e; omega))
        rw [PV.out]
        exact ⟨⟨A, n, c, B, m, d, rfl, HS.out.more (fun q hq => ⟨by omega, hq.2⟩), HV.out.more (fun q hq => ⟨by omega, hq.2⟩)⟩, (TK.out.far b9 (fun q h => .inr (by have h : q = w.heap.size := h; omega)) (show ¬ g = w.heap.size by omega) (show ¬ t = w.heap.size by omega)).more (fun q _ hy => .inl hy) hXg hXt, GG.out.step b9 (fun q h1 h2 => by have h2 : q = w.heap.size := h2; omega)⟩
      | false =>
        rw [hl, if_neg (by decide)] at PV
        clear hl
        go_wp2_with (first | (refine wpList_load_row rfl 28 (.tmp 4) rfl kp rfl _ _ (0, 0) _ BP.out.heap Try.underlying28 rfl (by kernel_rfl) ?_) | (refine wpList_store_all rfl 28 (.tmp 2) (.tmp 66) rfl w.heap.size #[.int .i64 (a1 : Int), .int .i64 (a2 : Int), .int .i64 (a3 : Int), .int .i64 t1.h, .int .i64 t1.v, .int .i64 t1.c, .slice A n c, .int .i64 t2.h, .int .i64 t2.v, .int .i64 t2.c, .slice B m d] rfl rfl _ _ BR.out rfl (by kernel_rfl) (by simp [Value.oneCell']) ?_; intro w9 B9 g9; have FB := Lib.hid B9; have FG := Lib.hid g9; clear B9 g9))
        have b9 : But (one w.heap.size) _ w9 := But.of_grown FG.out rfl
        refine ret_cell rfl FB.out rfl Try.underlying28 (by kernel_rfl) rfl ?_
        replace HS := Lib.hid (HS.out.over b9 (fun q e => by have e : q = w.heap.size := e; omega))
        replace HV := Lib.hid (HV.out.over b9 (fun q e => by have e : q = w.heap.size := e; omega))
        rw [PV.out]
        exact ⟨⟨A, n, c, B, m, d, rfl, HS.out.more (fun q hq => ⟨by omega, hq.2⟩), HV.out.more (fun q hq => ⟨by omega, hq.2⟩)⟩, (TK.out.far b9 (fun q h => .inr (by have h : q = w.heap.size := h; omega)) (show ¬ g = w.heap.size by omega) (show ¬ t = w.heap.size by omega)).more (fun q _ hy => .inl hy) hXg hXt, GG.out.step b9 (fun q h1 h2 => by have h2 : q = w.heap.size := h2; omega)⟩
end Go.Proofs.Ytanglfmolnfjeaa
