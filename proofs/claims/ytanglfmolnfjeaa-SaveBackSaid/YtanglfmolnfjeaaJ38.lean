/-
  What takes a tensor off a reader (layer 37): the document's taken.
  Conditions: none.
-/
import Derived.Test.YtanglfmolnfjeaaChecked
import Derived.Test.YtanglfmolnfjeaaJ37
import Derived.Test.YtanglfmolnfjeaaJ22
import Derived.Test.YtanglfmolnfjeaaJ14
import Derived.Deep.DeepCutAuto
import Derived.Deep.CutRange
import Derived.Deep.CutBlock
namespace Go.Proofs.Ytanglfmolnfjeaa
set_option linter.unusedVariables false
set_option linter.unusedSimpArgs false
open Go.RowKit Go.ChangeShapes Go.WideShapes
set_option maxRecDepth 100000
set_option maxHeartbeats 8000000

/-- The tensor at which a reader stands, as the document takes it, why there is none; the reader's state. -/
def takenV (s : List Int × Int) : (Tensor × Int) × (List Int × Int) :=
  let c1 := cntV 16 s
  let c2 := cntV 16 c1.2
  let c3 := cntV 1024 c2.2
  if c3.2.2 = 0 then
    if elems (c1.1 : Int) (c2.1 : Int) (c3.1 : Int) = 0 then ((noTensor, 5), c3.2)
    else
      let d := smallV (elems (c1.1 : Int) (c2.1 : Int) (c3.1 : Int)).toNat c3.2
      ((⟨(c1.1 : Int), (c2.1 : Int), (c3.1 : Int), d.1⟩, d.2.2), d.2)
  else ((noTensor, c3.2.2), c3.2)

/-- A tensor in new memory and an error are handed back; the document's reader's next state. -/
structure RetTkn (X : Nat → Prop) (w : World) (g : Nat) (r : (Tensor × Int) × (List Int × Int)) (e : Ending) (w' : World) : Prop where
  out : ∃ A n c, e = .returned (.tuple #[.agg #[.int .i64 r.1.1.h, .int .i64 r.1.1.v, .int .i64 r.1.1.c, .slice A n c], .int .i64 r.1.2]) ∧ Sl (tInt .i8) w' (bin w.heap.size w'.heap.size) A n c r.1.1.data
  rd : RrAt X w' g r.2
  but : But (one g) w w'

theorem rrCount_eq {X : Nat → Prop} {g : Nat} {s s' : List Int × Int} {most a : Nat} (he : cntV most s = (a, s')) (hm : most ≤ 1099511627776) (hX : X g) (w : World) (h : RrAt X w g s) :
    Calls Try.prog 32 #[.pointer (some ⟨g, 0, none⟩), .int .i64 (most : Int)] w fun e' w' => e' = .returned (.int .i64 (a : Int)) ∧ RrAt X w' g s' ∧ But (one g) w w' := by
  have := rrCount_any X g s most hm w h hX
  rw [he] at this
  exact this
theorem RrAt.bad {X : Nat → Prop} {w : World} {g : Nat} {s : List Int × Int} (h : RrAt X w g s) : w.cell? ⟨g, 2, none⟩ = some (.int .i64 s.2) := by
  obtain ⟨A, n, c, L, k, h1, _⟩ := h.out
  exact h1.cell 2

theorem rtaken_any (X : Nat → Prop) (g : Nat) (s : List Int × Int) (w : World) (h : RrAt X w g s) (hX : X g) :
    Calls Try.prog 33 #[.pointer (some ⟨g, 0, none⟩)] w (RetTkn X w g (takenV s)) := by
  have lg : g < w.heap.size := h.lt
  have H := Lib.hid (h.more (Y := fun x => X x ∨ w.heap.size ≤ x) (fun k hk hy => by rcases hy with hy | hy; exact hy; omega))
  obtain ⟨⟨a1, s1⟩, e1⟩ : ∃ x, cntV 16 s = x := ⟨_, rfl⟩
  obtain ⟨⟨a2, s2⟩, e2⟩ : ∃ x, cntV 16 s1 = x := ⟨_, rfl⟩
  obtain ⟨⟨a3, s3⟩, e3⟩ : ∃ x, cntV 1024 s2 = x := ⟨_, rfl⟩
  have l1 : a1 ≤ 16 := by have := cntV_le 16 s; rw [e1] at this; exact this
  have l2 : a2 ≤ 16 := by have := cntV_le 16 s1; rw [e2] at this; exact this
  have l3 : a3 ≤ 1024 := by have := cntV_le 1024 s2; rw [e3] at this; exact this
  have CN1 := Lib.hid (rrCount_eq (X := fun x => X x ∨ w.heap.size ≤ x) (g := g) e1 (by omega) (.inl hX))
  have CN2 := Lib.hid (rrCount_eq (X := fun x => X x ∨ w.heap.size ≤ x) (g := g) e2 (by omega) (.inl hX))
  have CN3 := Lib.hid (rrCount_eq (X := fun x => X x ∨ w.heap.size ≤ x) (g := g) e3 (by omega) (.inl hX))
  have TV := Lib.hid (show takenV s = if s3.2 = 0 then (if elems (a1 : Int) (a2 : Int) (a3 : Int) = 0 then ((noTensor, 5), s3) else ((⟨(a1 : Int), (a2 : Int), (a3 : Int), (smallV (elems (a1 : Int) (a2 : Int) (a3 : Int)).toNat s3).1⟩, (smallV (elems (a1 : Int) (a2 : Int) (a3 : Int)).toNat s3).2.2), (smallV (elems (a1 : Int) (a2 : Int) (a3 : Int)).toNat s3).2)) else ((noTensor, s3.2), s3) by
    unfold takenV; simp only [e1, e2, e3])
  obtain ⟨r, hr⟩ : ∃ r, takenV s = r := ⟨_, rfl⟩
  rw [hr] at TV ⊢
  have SR := Lib.hid (rfl : (1 : Nat) = 1)
  have eb := elems_range (a1 : Int) (a2 : Int) (a3 : Int)
  have EL := Lib.hid (fun wx => relems_any (a1 : Int) (a3 : Int) (a2 : Int) wx (by rw [inK_i64]; omega) (by rw [inK_i64]; omega) (by rw [inK_i64]; omega))
  obtain ⟨m, hm⟩ : ∃ m : Nat, elems (a1 : Int) (a2 : Int) (a3 : Int) = (m : Int) := ⟨(elems (a1 : Int) (a2 : Int) (a3 : Int)).toNat, by omega⟩
  rw [hm] at eb EL TV
  rw [Int.toNat_natCast] at TV
  have m1 : m ≤ 1024 := by omega
  clear hm eb hr e1 e2 e3 h SR
  go_enter Try.func33, Try.ntmps33
  go_wp2_with fail
  obtain ⟨w1, hw1⟩ : ∃ x, w.alloc (.cells #[.int .i64 0, .int .i64 0, .int .i64 0, .slice none 0 0] 26) = x := ⟨_, rfl⟩
  have kb : Below w.heap.size w w1 := by rw [← hw1]; exact (Below.refl _ _).alloc (Nat.le_refl _) _
  have BR := Lib.hid (show Blk w1 w.heap.size 26 #[.int .i64 0, .int .i64 0, .int .i64 0, .slice none 0 0] by rw [← hw1]; exact Blk.now _ _ _ _ rfl)
  rw [hw1]
  clear hw1
  have RD := Lib.hid (H.out.later kb)
  have GG := Lib.hid (show But (one g) w w1 from But.of_below kb)
  clear H kb
  refine (CN1.out _ RD.out).mono ?_
  rintro e w2 ⟨rfl, hr, hb⟩
  replace RD := Lib.hid hr
  replace GG := Lib.hid (GG.out.trans hb)
  replace BR := Lib.hid (BR.out.but hb (show ¬ w.heap.size = g by omega))
  clear hr hb CN1
  go_wp2_with fail
  refine (CN2.out _ RD.out).mono ?_
  rintro e w3 ⟨rfl, hr, hb⟩
  replace RD := Lib.hid hr
  replace GG := Lib.hid (GG.out.trans hb)
  replace BR := Lib.hid (BR.out.but hb (show ¬ w.heap.size = g by omega))
  clear hr hb CN2
  go_wp2_with fail
  refine (CN3.out _ RD.out).mono ?_
  rintro e w4 ⟨rfl, hr, hb⟩
  replace RD := Lib.hid hr
  replace GG := Lib.hid (GG.out.trans hb)
  replace BR := Lib.hid (BR.out.but hb (show ¬ w.heap.size = g by omega))
  clear hr hb CN3
  obtain ⟨l3', bad⟩ := s3
  simp only at TV
  by_cases q : bad = 0
  rotate_left
  · rw [if_neg q] at TV
    have u1 : (bad != 0) = true := by simpa using q
    go_wp2_with (refine wpList_store_all rfl 23 (.tmp 4) (.tmp 12) rfl w4.heap.size #[.int .i64 (a1 : Int), .int .i64 (a2 : Int), .int .i64 (a3 : Int)] rfl rfl _ _ (Blk.now _ _ _ _ rfl) rfl (by kernel_rfl) (by simp [Value.oneCell']) ?_; intro w5 B5 g5; have BX := Lib.hid B5; have zk4 := Lib.hid BR.out.lt; have GX := Lib.hid (show Below w4.heap.size w4 w5 from ((Below.refl _ _).alloc (Nat.le_refl _) _).grown g5 (by simp) (fun k h => by have := Option.some.inj h; omega)); clear B5 g5; have c2 : w5.cell? ⟨g, 2, none⟩ = some (.int .i64 bad) := (RD.out.later GX.out).bad)
    replace RD := Lib.hid (RD.out.later GX.out)
    replace GG := Lib.hid (GG.out.later GX.out)
    replace BR := Lib.hid (BR.out.later GX.out)
    refine wp_region_held_drew (S := fun w' => w'.cell? ⟨g, 2, none⟩ = some (.int .i64 bad) ∧ True) (by kernel_rfl) ?_ (fun hS => ?_)
    · exact ⟨c2, trivial⟩
    refine wpAnyH_take (i := 0) (v := ?_) rfl (by as_aux_lemma => kernel_rfl) (by as_aux_lemma => kernel_rfl) (by as_aux_lemma => kernel_rfl) (fun _ _ _ h => h) (Or.inl ⟨by rfl, ?_⟩) hS ?_
    rotate_left
    · intro w hSw; (try dsimp only at hSw); go_simp; try with_reducible rfl
    try simp only [Act.put, List.getElem_toArray, List.getElem_cons_succ, List.getElem_cons_zero, List.setIfInBounds_toArray, List.set_cons_zero, List.set_cons_succ]
    refine wpAnyH_take (i := 1) (v := ?_) rfl (by as_aux_lemma => kernel_rfl) (by as_aux_lemma => kernel_rfl) (by as_aux_lemma => kernel_rfl) (fun _ _ _ h => h) (Or.inl ⟨by rfl, ?_⟩) hS ?_
    rotate_left
    · intro w hSw; (try dsimp only at hSw); go_simp; try with_reducible rfl
    try simp only [Act.put, List.getElem_toArray, List.getElem_cons_succ, List.getElem_cons_zero, List.setIfInBounds_toArray, List.set_cons_zero, List.set_cons_succ]
    refine wpAnyH_take (i := 2) (v := ?_) rfl (by as_aux_lemma => kernel_rfl) (by as_aux_lemma => kernel_rfl) (by as_aux_lemma => kernel_rfl) (fun _ _ _ h => h) (Or.inl ⟨by rfl, ?_⟩) hS ?_
    rotate_left
    · intro w hSw; (try dsimp only at hSw); go_simp; try with_reducible rfl
    try simp only [Act.put, List.getElem_toArray, List.getElem_cons_succ, List.getElem_cons_zero, List.setIfInBounds_toArray, List.set_cons_zero, List.set_cons_succ]
    refine wpAnyH_take (i := 3) (v := ?_) rfl (by as_aux_lemma => kernel_rfl) (by as_aux_lemma => kernel_rfl) (by as_aux_lemma => kernel_rfl) (fun _ _ _ h => h) (Or.inl ⟨by rfl, ?_⟩) hS ?_
    rotate_left
    · intro w hSw; (try dsimp only at hSw); go_simp; try with_reducible rfl
    try simp only [Act.put, List.getElem_toArray, List.getElem_cons_succ, List.getElem_cons_zero, List.setIfInBounds_toArray, List.set_cons_zero, List.set_cons_succ]
    refine wpAnyH_take (i := 4) (v := ?_) rfl (by as_aux_lemma => kernel_rfl) (by as_aux_lemma => kernel_rfl) (by as_aux_lemma => kernel_rfl) (fun _ _ _ h => h) (Or.inl ⟨by rfl, ?_⟩) hS ?_
    rotate_left
    · intro w hSw; (try dsimp only at hSw); go_simp; try with_reducible rfl
    try simp only [Act.put, List.getElem_toArray, List.getElem_cons_succ, List.getElem_cons_zero, List.setIfInBounds_toArray, List.set_cons_zero, List.set_cons_succ]
    refine wpAnyH_ready (rs := [5]) (by kernel_rfl) (by simp) ?_
    refine AllReadyH.cons rfl (fun K hK => ?_) AllReadyH.nil
    (rw [if_pos (by rfl)]; refine oper_store_blk 26 (.tmp 2) (.tmp 18) rfl w.heap.size 0 #[.int .i64 0, .int .i64 0, .int .i64 0, .slice none 0 0] rfl rfl _ #[.int .i64 0, .int .i64 0, .int .i64 0, .slice none 0 0] #[.int .i64 0, .int .i64 0, .int .i64 0, .slice none 0 0] BR.out.drew (by simp) (by kernel_rfl) (by simp [Value.oneCell']) rfl ?_; intro w9 B9 g9; have FB := Lib.hid B9; have bw : But (one w.heap.size) w5.drew w9 := But.of_grown g9 rfl; refine hK.out _ _ ⟨((RD.out.later (Below.refl _ w5).drew).but bw (fun q h => .inr (by have h : q = w.heap.size := h; omega)) (show ¬ g = w.heap.size by omega)).bad, trivial⟩ (fun hS => ?_); clear B9 g9)
    clear hK K
    try simp only [Act.put, List.getElem_toArray, List.getElem_cons_succ, List.getElem_cons_zero, List.setIfInBounds_toArray, List.set_cons_zero, List.set_cons_succ]
    refine wpAnyH_take (i := 6) (v := ?_) rfl (by as_aux_lemma => kernel_rfl) (by as_aux_lemma => kernel_rfl) (by as_aux_lemma => kernel_rfl) (fun _ _ _ h => h) (Or.inl ⟨by rfl, ?_⟩) hS ?_
    rotate_left
    · intro w hSw; (try dsimp only at hSw); go_simp; try with_reducible rfl
    try simp only [Act.put, List.getElem_toArray, List.getElem_cons_succ, List.getElem_cons_zero, List.setIfInBounds_toArray, List.set_cons_zero, List.set_cons_succ]
    refine wpAnyH_done (by kernel_rfl) ?_ _
    clear hS
    replace RD := Lib.hid (RD.out.later (Below.refl _ w5).drew)
    replace GG := Lib.hid (GG.out.later (Below.refl _ w5).drew)
    go_wp2_with fail
    refine ret_cell_tmp rfl FB.out rfl Try.underlying26 (by kernel_rfl) rfl ?_
    rw [TV.out]
    exact ⟨⟨none, 0, 0, rfl, Sl.nil _ _ _⟩, (RD.out.but bw (fun q h => .inr (by have h : q = w.heap.size := h; omega)) (show ¬ g = w.heap.size by omega)).more (fun q _ hy => .inl hy), GG.out.step bw (fun q h1 h2 => by have h2 : q = w.heap.size := h2; omega)⟩
  subst q
  rw [if_pos rfl] at TV
  by_cases hm0 : m = 0
  · rw [if_pos (by omega)] at TV
    subst hm0
    go_wp2_with (first | (refine wpList_store_all rfl 23 (.tmp 4) (.tmp 12) rfl w4.heap.size #[.int .i64 (a1 : Int), .int .i64 (a2 : Int), .int .i64 (a3 : Int)] rfl rfl _ _ (Blk.now _ _ _ _ rfl) rfl (by kernel_rfl) (by simp [Value.oneCell']) ?_; intro w5 B5 g5; have BX := Lib.hid B5; have zk4 := Lib.hid BR.out.lt; have GX := Lib.hid (show Below w4.heap.size w4 w5 from ((Below.refl _ _).alloc (Nat.le_refl _) _).grown g5 (by simp) (fun k h => by have := Option.some.inj h; omega)); clear B5 g5; have c2 : w5.cell? ⟨g, 2, none⟩ = some (.int .i64 0) := (RD.out.later GX.out).bad) | (refine wpList_load_row rfl 23 (.tmp 4) rfl w4.heap.size rfl _ _ (0, 0) _ BX.out.heap Try.underlying23 rfl (by kernel_rfl) ?_))
    replace RD := Lib.hid (RD.out.later GX.out)
    replace GG := Lib.hid (GG.out.later GX.out)
    replace BR := Lib.hid (BR.out.later GX.out)
    refine (EL.out _).mono ?_
    rintro e w6 ⟨rfl, hb⟩
    replace RD := Lib.hid (RD.out.later hb)
    replace GG := Lib.hid (GG.out.later hb)
    replace BR := Lib.hid (BR.out.later hb)
    clear hb c2
    go_wp2_with (refine wpList_store_all rfl 26 (.tmp 2) (.tmp 26) rfl w.heap.size #[.int .i64 0, .int .i64 0, .int .i64 0, .slice none 0 0] rfl rfl _ _ BR.out rfl (by kernel_rfl) (by simp [Value.oneCell']) ?_; intro w9 B9 g9; have FB := Lib.hid B9; have FG := Lib.hid g9; clear B9 g9)
    have bw : But (one w.heap.size) w6 w9 := But.of_grown FG.out rfl
    refine ret_cell_tmp rfl FB.out rfl Try.underlying26 (by kernel_rfl) rfl ?_
    rw [TV.out]
    exact ⟨⟨none, 0, 0, rfl, Sl.nil _ _ _⟩, (RD.out.but bw (fun q h => .inr (by have h : q = w.heap.size := h; omega)) (show ¬ g = w.heap.size by omega)).more (fun q _ hy => .inl hy), GG.out.step bw (fun q h1 h2 => by have h2 : q = w.heap.size := h2; omega)⟩
  · rw [if_neg (by omega)] at TV
    have u1 : ((m : Int) == 0) = false := by simp; omega
    have u2 : (m == 0) = false := by simp; omega
    obtain ⟨⟨dl, s4⟩, hsv⟩ : ∃ x, smallV m (l3', 0) = x := ⟨_, rfl⟩
    have SM := Lib.hid hsv
    rw [hsv] at TV
    clear hsv
    go_wp2_with (first | (refine wpList_store_all rfl 23 (.tmp 4) (.tmp 12) rfl w4.heap.size #[.int .i64 (a1 : Int), .int .i64 (a2 : Int), .int .i64 (a3 : Int)] rfl rfl _ _ (Blk.now _ _ _ _ rfl) rfl (by kernel_rfl) (by simp [Value.oneCell']) ?_; intro w5 B5 g5; have BX := Lib.hid B5; have zk4 := Lib.hid BR.out.lt; have GX := Lib.hid (show Below w4.heap.size w4 w5 from ((Below.refl _ _).alloc (Nat.le_refl _) _).grown g5 (by simp) (fun k h => by have := Option.some.inj h; omega)); clear B5 g5; have c2 : w5.cell? ⟨g, 2, none⟩ = some (.int .i64 0) := (RD.out.later GX.out).bad) | (refine wpList_load_row rfl 23 (.tmp 4) rfl w4.heap.size rfl _ _ (0, 0) _ BX.out.heap Try.underlying23 rfl (by kernel_rfl) ?_))
    replace RD := Lib.hid (RD.out.later GX.out)
    replace GG := Lib.hid (GG.out.later GX.out)
    replace BR := Lib.hid (BR.out.later GX.out)
    clear c2 GX
    refine (EL.out _).mono ?_
    rintro e w6 ⟨rfl, hb⟩
    replace RD := Lib.hid (RD.out.later hb)
    replace GG := Lib.hid (GG.out.later hb)
    replace BR := Lib.hid (BR.out.later hb)
    replace BX := Lib.hid (BX.out.later hb)
    have hk : w.heap.size < w4.heap.size := zk4.out
    obtain ⟨kx, hkx⟩ : ∃ k, w4.heap.size = k := ⟨_, rfl⟩
    rw [hkx] at BX hk
    rw [hkx]
    clear hb hkx
    go_wp2_with fail
    obtain ⟨w5, hw5⟩ : ∃ x, w6 = x := ⟨_, rfl⟩
    rw [hw5] at RD GG BR BX
    rw [hw5]
    clear hw5
    go_cut [5] (fun b wx => ∃ k2 A n c, b = .pointer (some ⟨k2, 0, none⟩) ∧ Blk wx k2 26 #[.int .i64 (a1 : Int), .int .i64 (a2 : Int), .int .i64 (a3 : Int), .slice A n c] ∧ Sl (tInt .i8) wx (fun x => w.heap.size < x ∧ x < wx.heap.size) A n c dl ∧ Blk wx w.heap.size 26 #[.int .i64 0, .int .i64 0, .int .i64 0, .slice none 0 0] ∧ RrAt (fun x => X x ∨ w.heap.size ≤ x) wx g s4 ∧ But (one g) w wx ∧ w.heap.size < k2)
    case first =>
      replace RD := Lib.hid (RD.out.later (Below.refl _ w5).drew)
      replace GG := Lib.hid (GG.out.later (Below.refl _ w5).drew)
      replace BX := Lib.hid (BX.out.later (Below.refl _ w5).drew)
      replace BR := Lib.hid (BR.out.later (Below.refl _ w5).drew)
      have lkg : g < kx := by omega
      obtain ⟨s3, hs3⟩ : ∃ s3, (l3', (0 : Int)) = s3 := ⟨_, rfl⟩
      rw [hs3] at RD SM
      refine wp_region_held_drew (S := fun w' => Blk w' kx 23 #[.int .i64 (a1 : Int), .int .i64 (a2 : Int), .int .i64 (a3 : Int)] ∧ True) (by kernel_rfl) ?_ (fun hS => ?_)
      · exact ⟨BX.out, trivial⟩
      refine wpAnyH_take (i := 0) rfl (by as_aux_lemma => kernel_rfl) (by as_aux_lemma => kernel_rfl) (by as_aux_lemma => kernel_rfl) (fun _ _ _ h => h) (yieldsIf_load_blk (by rfl) 23 (.tmp 4) rfl kx 0 rfl _ _ #[.int .i64 (a1 : Int), .int .i64 (a2 : Int), .int .i64 (a3 : Int)] _ (fun w hs => hs.1) Try.underlying23 rfl (by kernel_rfl) rfl) hS ?_
      try simp only [Act.put, List.getElem_toArray, List.getElem_cons_succ, List.getElem_cons_zero, List.setIfInBounds_toArray, List.set_cons_zero, List.set_cons_succ]
      refine wpAnyH_take (i := 1) (v := ?_) rfl (by as_aux_lemma => kernel_rfl) (by as_aux_lemma => kernel_rfl) (by as_aux_lemma => kernel_rfl) (fun _ _ _ h => h) (Or.inl ⟨by rfl, ?_⟩) hS ?_
      rotate_left
      · intro w hSw; (try dsimp only at hSw); go_simp; try with_reducible rfl
      try simp only [Act.put, List.getElem_toArray, List.getElem_cons_succ, List.getElem_cons_zero, List.setIfInBounds_toArray, List.set_cons_zero, List.set_cons_succ]
      refine wpAnyH_take (i := 2) rfl (by as_aux_lemma => kernel_rfl) (by as_aux_lemma => kernel_rfl) (by as_aux_lemma => kernel_rfl) (fun _ _ _ h => h) (yieldsIf_load_blk (by rfl) 23 (.tmp 4) rfl kx 0 rfl _ _ #[.int .i64 (a1 : Int), .int .i64 (a2 : Int), .int .i64 (a3 : Int)] _ (fun w hs => hs.1) Try.underlying23 rfl (by kernel_rfl) rfl) hS ?_
      try simp only [Act.put, List.getElem_toArray, List.getElem_cons_succ, List.getElem_cons_zero, List.setIfInBounds_toArray, List.set_cons_zero, List.set_cons_succ]
      refine wpAnyH_ready (rs := [3, 6]) (by kernel_rfl) (by simp) ?_
      refine AllReadyH.cons rfl (fun K hK => ?_) (AllReadyH.cons rfl (fun K hK => ?_) AllReadyH.nil)
      · go_simp
        refine (EL.out _).mono ?_; rintro e w5c0 ⟨rfl, hb⟩; replace RD := Lib.hid (RD.out.later hb); replace GG := Lib.hid (GG.out.later hb); replace BX := Lib.hid (BX.out.later hb); replace BR := Lib.hid (BR.out.later hb); refine hK.out _ _ ⟨BX.out, trivial⟩ (fun hS => ?_); clear hb
        clear hK K
        try simp only [Act.put, List.getElem_toArray, List.getElem_cons_succ, List.getElem_cons_zero, List.setIfInBounds_toArray, List.set_cons_zero, List.set_cons_succ]
        refine wpAnyH_ready (rs := [4, 6]) (by kernel_rfl) (by simp) ?_
        refine AllReadyH.cons rfl (fun K hK => ?_) (AllReadyH.cons rfl (fun K hK => ?_) AllReadyH.nil)
        · go_simp
          refine (rrSmall_any _ g s3 m (by omega) _ RD.out (.inl hX)).mono ?_; rintro e w5c1 ⟨⟨AD, nd, cd, rfl, hs⟩, hr, hb⟩; rw [SM.out] at hs hr; obtain ⟨lo, hi, hs, zlo, zhi⟩ : ∃ lo hi, Sl (tInt .i8) w5c1 (bin lo hi) AD nd cd _ ∧ w.heap.size < lo ∧ hi ≤ w5c1.heap.size := ⟨_, _, hs, BR.out.lt, Nat.le_refl _⟩; have HS := Lib.hid hs; replace RD := Lib.hid hr; replace GG := Lib.hid (GG.out.trans hb); replace BX := Lib.hid (BX.out.but hb (show ¬ kx = g by omega)); replace BR := Lib.hid (BR.out.but hb (show ¬ w.heap.size = g by omega)); refine hK.out _ _ ⟨BX.out, trivial⟩ (fun hS => ?_); clear hr hb hs
          clear hK K
          try simp only [Act.put, List.getElem_toArray, List.getElem_cons_succ, List.getElem_cons_zero, List.setIfInBounds_toArray, List.set_cons_zero, List.set_cons_succ]
          refine wpAnyH_take (i := 5) (v := ?_) rfl (by as_aux_lemma => kernel_rfl) (by as_aux_lemma => kernel_rfl) (by as_aux_lemma => kernel_rfl) (fun _ _ _ h => h) (Or.inl ⟨by rfl, ?_⟩) hS ?_
          rotate_left
          · intro w hSw; (try dsimp only at hSw); go_simp; try with_reducible rfl
          try simp only [Act.put, List.getElem_toArray, List.getElem_cons_succ, List.getElem_cons_zero, List.setIfInBounds_toArray, List.set_cons_zero, List.set_cons_succ]
          refine wpAnyH_ready (rs := [6]) (by kernel_rfl) (by simp) ?_
          refine AllReadyH.cons rfl (fun K hK => ?_) AllReadyH.nil
          go_simp
          have hb : Below w5c1.heap.size w5c1 (w5c1.alloc (.cells #[.int .i64 0, .int .i64 0, .int .i64 0, .slice none 0 0] 26)) := (Below.refl _ _).alloc (Nat.le_refl _) _
          have BZ := Lib.hid (Blk.now w5c1 w5c1.heap.size 26 #[.int .i64 0, .int .i64 0, .int .i64 0, .slice none 0 0] rfl)
          have zg : g < w5c1.heap.size := RD.out.lt; have zr : w.heap.size < w5c1.heap.size := BR.out.lt; have zk : kx < w5c1.heap.size := BX.out.lt; replace BR := Lib.hid (BR.out.later hb); replace BX := Lib.hid (BX.out.later hb); replace RD := Lib.hid (RD.out.later hb); replace GG := Lib.hid (GG.out.later hb); have KL : w5c1.heap.size < lo ∨ hi ≤ w5c1.heap.size := .inr zhi; replace HS := Lib.hid (HS.out.below hb (fun q h => Nat.lt_of_lt_of_le h.2 zhi)); refine hK.out _ _ ⟨BX.out, trivial⟩ (fun hS => ?_)
          clear hK K hb
          try simp only [Act.put, List.getElem_toArray, List.getElem_cons_succ, List.getElem_cons_zero, List.setIfInBounds_toArray, List.set_cons_zero, List.set_cons_succ]
          refine wpAnyH_ready (rs := [7]) (by kernel_rfl) (by simp) ?_
          refine AllReadyH.cons rfl (fun K hK => ?_) AllReadyH.nil
          rw [if_pos (by rfl)]; refine oper_store_blk 26 (.tmp 5) (.tmp 32) rfl w5c1.heap.size 0 #[.int .i64 (a1 : Int), .int .i64 (a2 : Int), .int .i64 (a3 : Int), .slice AD nd cd] rfl rfl _ #[.int .i64 0, .int .i64 0, .int .i64 0, .slice none 0 0] #[.int .i64 (a1 : Int), .int .i64 (a2 : Int), .int .i64 (a3 : Int), .slice AD nd cd] BZ.out (by simp) (by kernel_rfl) (by simp [Value.oneCell']) rfl ?_; intro wz BY gz; have zx : hi ≤ wz.heap.size := Nat.le_trans (by first | exact zhi | exact Nat.le_trans zhi (by simp) | omega) gz.size; replace HS := Lib.hid (HS.out.keep (w' := wz) (fun q hq => (But.of_grown gz rfl : But (one w5c1.heap.size) _ _).block q (by first | exact Nat.lt_of_lt_of_le hq.2 zhi | exact Nat.lt_of_lt_of_le hq.2 (Nat.le_trans zhi (by simp))) (fun e => by have e : q = w5c1.heap.size := e; have := hq.1; have := hq.2; omega))); replace GG := Lib.hid (GG.out.step (But.of_grown gz rfl : But (one w5c1.heap.size) _ _) (fun k h1 h2 => by have h2 : k = w5c1.heap.size := h2; omega)); replace RD := Lib.hid (RD.out.but (But.of_grown gz rfl : But (one w5c1.heap.size) _ _) (fun k h => .inr (by have h : k = w5c1.heap.size := h; omega)) (show ¬ g = w5c1.heap.size by omega)); replace BR := Lib.hid (BR.out.but (But.of_grown gz rfl : But (one w5c1.heap.size) _ _) (show ¬ w.heap.size = w5c1.heap.size by omega)); replace BX := Lib.hid (BX.out.but (But.of_grown gz rfl : But (one w5c1.heap.size) _ _) (show ¬ kx = w5c1.heap.size by omega)); refine hK.out _ _ ⟨BX.out, trivial⟩ (fun hS => ?_); clear gz
          clear hK K
          try simp only [Act.put, List.getElem_toArray, List.getElem_cons_succ, List.getElem_cons_zero, List.setIfInBounds_toArray, List.set_cons_zero, List.set_cons_succ]
          refine wpAnyH_done (by kernel_rfl) ?_ _
          go_wp2_with fail
          go_meet
          case rel => exact ⟨w5c1.heap.size, AD, nd, cd, rfl, BY, HS.out.more (fun q hq => ⟨Nat.lt_of_lt_of_le zlo hq.1, Nat.lt_of_lt_of_le hq.2 zx⟩), BR.out, RD.out, GG.out, zr⟩
        · go_simp
          have hb : Below w5c0.heap.size w5c0 (w5c0.alloc (.cells #[.int .i64 0, .int .i64 0, .int .i64 0, .slice none 0 0] 26)) := (Below.refl _ _).alloc (Nat.le_refl _) _
          have BZ := Lib.hid (Blk.now w5c0 w5c0.heap.size 26 #[.int .i64 0, .int .i64 0, .int .i64 0, .slice none 0 0] rfl)
          have zg : g < w5c0.heap.size := RD.out.lt; have zr : w.heap.size < w5c0.heap.size := BR.out.lt; have zk : kx < w5c0.heap.size := BX.out.lt; replace BR := Lib.hid (BR.out.later hb); replace BX := Lib.hid (BX.out.later hb); replace RD := Lib.hid (RD.out.later hb); replace GG := Lib.hid (GG.out.later hb); refine hK.out _ _ ⟨BX.out, trivial⟩ (fun hS => ?_)
          clear hK K hb
          try simp only [Act.put, List.getElem_toArray, List.getElem_cons_succ, List.getElem_cons_zero, List.setIfInBounds_toArray, List.set_cons_zero, List.set_cons_succ]
          refine wpAnyH_ready (rs := [4]) (by kernel_rfl) (by simp) ?_
          refine AllReadyH.cons rfl (fun K hK => ?_) AllReadyH.nil
          go_simp
          refine (rrSmall_any _ g s3 m (by omega) _ RD.out (.inl hX)).mono ?_; rintro e w5c1z ⟨⟨AD, nd, cd, rfl, hs⟩, hr, hb⟩; rw [SM.out] at hs hr; obtain ⟨lo, hi, hs, zlo, zhi, KL⟩ : ∃ lo hi, Sl (tInt .i8) w5c1z (bin lo hi) AD nd cd _ ∧ w.heap.size < lo ∧ hi ≤ w5c1z.heap.size ∧ (w5c0.heap.size < lo ∨ hi ≤ w5c0.heap.size) := ⟨_, _, hs, BR.out.lt, Nat.le_refl _, .inl BZ.out.lt⟩; have HS := Lib.hid hs; replace RD := Lib.hid hr; replace GG := Lib.hid (GG.out.trans hb); replace BX := Lib.hid (BX.out.but hb (show ¬ kx = g by omega)); replace BR := Lib.hid (BR.out.but hb (show ¬ w.heap.size = g by omega)); replace BZ := Lib.hid (BZ.out.but hb (show ¬ w5c0.heap.size = g by omega)); refine hK.out _ _ ⟨BX.out, trivial⟩ (fun hS => ?_); clear hr hb hs
          clear hK K
          try simp only [Act.put, List.getElem_toArray, List.getElem_cons_succ, List.getElem_cons_zero, List.setIfInBounds_toArray, List.set_cons_zero, List.set_cons_succ]
          refine wpAnyH_take (i := 5) (v := ?_) rfl (by as_aux_lemma => kernel_rfl) (by as_aux_lemma => kernel_rfl) (by as_aux_lemma => kernel_rfl) (fun _ _ _ h => h) (Or.inl ⟨by rfl, ?_⟩) hS ?_
          rotate_left
          · intro w hSw; (try dsimp only at hSw); go_simp; try with_reducible rfl
          try simp only [Act.put, List.getElem_toArray, List.getElem_cons_succ, List.getElem_cons_zero, List.setIfInBounds_toArray, List.set_cons_zero, List.set_cons_succ]
          refine wpAnyH_ready (rs := [7]) (by kernel_rfl) (by simp) ?_
          refine AllReadyH.cons rfl (fun K hK => ?_) AllReadyH.nil
          rw [if_pos (by rfl)]; refine oper_store_blk 26 (.tmp 5) (.tmp 32) rfl w5c0.heap.size 0 #[.int .i64 (a1 : Int), .int .i64 (a2 : Int), .int .i64 (a3 : Int), .slice AD nd cd] rfl rfl _ #[.int .i64 0, .int .i64 0, .int .i64 0, .slice none 0 0] #[.int .i64 (a1 : Int), .int .i64 (a2 : Int), .int .i64 (a3 : Int), .slice AD nd cd] BZ.out (by simp) (by kernel_rfl) (by simp [Value.oneCell']) rfl ?_; intro wz BY gz; have zx : hi ≤ wz.heap.size := Nat.le_trans (by first | exact zhi | exact Nat.le_trans zhi (by simp) | omega) gz.size; replace HS := Lib.hid (HS.out.keep (w' := wz) (fun q hq => (But.of_grown gz rfl : But (one w5c0.heap.size) _ _).block q (by first | exact Nat.lt_of_lt_of_le hq.2 zhi | exact Nat.lt_of_lt_of_le hq.2 (Nat.le_trans zhi (by simp))) (fun e => by have e : q = w5c0.heap.size := e; have := hq.1; have := hq.2; omega))); replace GG := Lib.hid (GG.out.step (But.of_grown gz rfl : But (one w5c0.heap.size) _ _) (fun k h1 h2 => by have h2 : k = w5c0.heap.size := h2; omega)); replace RD := Lib.hid (RD.out.but (But.of_grown gz rfl : But (one w5c0.heap.size) _ _) (fun k h => .inr (by have h : k = w5c0.heap.size := h; omega)) (show ¬ g = w5c0.heap.size by omega)); replace BR := Lib.hid (BR.out.but (But.of_grown gz rfl : But (one w5c0.heap.size) _ _) (show ¬ w.heap.size = w5c0.heap.size by omega)); replace BX := Lib.hid (BX.out.but (But.of_grown gz rfl : But (one w5c0.heap.size) _ _) (show ¬ kx = w5c0.heap.size by omega)); refine hK.out _ _ ⟨BX.out, trivial⟩ (fun hS => ?_); clear gz
          clear hK K
          try simp only [Act.put, List.getElem_toArray, List.getElem_cons_succ, List.getElem_cons_zero, List.setIfInBounds_toArray, List.set_cons_zero, List.set_cons_succ]
          refine wpAnyH_done (by kernel_rfl) ?_ _
          go_wp2_with fail
          go_meet
          case rel => exact ⟨w5c0.heap.size, AD, nd, cd, rfl, BY, HS.out.more (fun q hq => ⟨Nat.lt_of_lt_of_le zlo hq.1, Nat.lt_of_lt_of_le hq.2 zx⟩), BR.out, RD.out, GG.out, zr⟩
      · go_simp
        have hb : Below w5.drew.heap.size w5.drew (w5.drew.alloc (.cells #[.int .i64 0, .int .i64 0, .int .i64 0, .slice none 0 0] 26)) := (Below.refl _ _).alloc (Nat.le_refl _) _
        have BZ := Lib.hid (Blk.now w5.drew w5.heap.size 26 #[.int .i64 0, .int .i64 0, .int .i64 0, .slice none 0 0] rfl)
        have zg : g < w5.heap.size := RD.out.lt; have zr : w.heap.size < w5.heap.size := BR.out.lt; have zk : kx < w5.heap.size := BX.out.lt; replace BR := Lib.hid (BR.out.later hb); replace BX := Lib.hid (BX.out.later hb); replace RD := Lib.hid (RD.out.later hb); replace GG := Lib.hid (GG.out.later hb); refine hK.out _ _ ⟨BX.out, trivial⟩ (fun hS => ?_)
        clear hK K hb
        try simp only [Act.put, List.getElem_toArray, List.getElem_cons_succ, List.getElem_cons_zero, List.setIfInBounds_toArray, List.set_cons_zero, List.set_cons_succ]
        refine wpAnyH_ready (rs := [3]) (by kernel_rfl) (by simp) ?_
        refine AllReadyH.cons rfl (fun K hK => ?_) AllReadyH.nil
        go_simp
        refine (EL.out _).mono ?_; rintro e w5c0z ⟨rfl, hb⟩; replace RD := Lib.hid (RD.out.later hb); replace GG := Lib.hid (GG.out.later hb); replace BX := Lib.hid (BX.out.later hb); replace BR := Lib.hid (BR.out.later hb); replace BZ := Lib.hid (BZ.out.later hb); refine hK.out _ _ ⟨BX.out, trivial⟩ (fun hS => ?_); clear hb
        clear hK K
        try simp only [Act.put, List.getElem_toArray, List.getElem_cons_succ, List.getElem_cons_zero, List.setIfInBounds_toArray, List.set_cons_zero, List.set_cons_succ]
        refine wpAnyH_ready (rs := [4]) (by kernel_rfl) (by simp) ?_
        refine AllReadyH.cons rfl (fun K hK => ?_) AllReadyH.nil
        go_simp
        refine (rrSmall_any _ g s3 m (by omega) _ RD.out (.inl hX)).mono ?_; rintro e w5c1z ⟨⟨AD, nd, cd, rfl, hs⟩, hr, hb⟩; rw [SM.out] at hs hr; obtain ⟨lo, hi, hs, zlo, zhi, KL⟩ : ∃ lo hi, Sl (tInt .i8) w5c1z (bin lo hi) AD nd cd _ ∧ w.heap.size < lo ∧ hi ≤ w5c1z.heap.size ∧ (w5.heap.size < lo ∨ hi ≤ w5.heap.size) := ⟨_, _, hs, BR.out.lt, Nat.le_refl _, .inl BZ.out.lt⟩; have HS := Lib.hid hs; replace RD := Lib.hid hr; replace GG := Lib.hid (GG.out.trans hb); replace BX := Lib.hid (BX.out.but hb (show ¬ kx = g by omega)); replace BR := Lib.hid (BR.out.but hb (show ¬ w.heap.size = g by omega)); replace BZ := Lib.hid (BZ.out.but hb (show ¬ w5.heap.size = g by omega)); refine hK.out _ _ ⟨BX.out, trivial⟩ (fun hS => ?_); clear hr hb hs
        clear hK K
        try simp only [Act.put, List.getElem_toArray, List.getElem_cons_succ, List.getElem_cons_zero, List.setIfInBounds_toArray, List.set_cons_zero, List.set_cons_succ]
        refine wpAnyH_take (i := 5) (v := ?_) rfl (by as_aux_lemma => kernel_rfl) (by as_aux_lemma => kernel_rfl) (by as_aux_lemma => kernel_rfl) (fun _ _ _ h => h) (Or.inl ⟨by rfl, ?_⟩) hS ?_
        rotate_left
        · intro w hSw; (try dsimp only at hSw); go_simp; try with_reducible rfl
        try simp only [Act.put, List.getElem_toArray, List.getElem_cons_succ, List.getElem_cons_zero, List.setIfInBounds_toArray, List.set_cons_zero, List.set_cons_succ]
        refine wpAnyH_ready (rs := [7]) (by kernel_rfl) (by simp) ?_
        refine AllReadyH.cons rfl (fun K hK => ?_) AllReadyH.nil
        rw [if_pos (by rfl)]; refine oper_store_blk 26 (.tmp 5) (.tmp 32) rfl w5.heap.size 0 #[.int .i64 (a1 : Int), .int .i64 (a2 : Int), .int .i64 (a3 : Int), .slice AD nd cd] rfl rfl _ #[.int .i64 0, .int .i64 0, .int .i64 0, .slice none 0 0] #[.int .i64 (a1 : Int), .int .i64 (a2 : Int), .int .i64 (a3 : Int), .slice AD nd cd] BZ.out (by simp) (by kernel_rfl) (by simp [Value.oneCell']) rfl ?_; intro wz BY gz; have zx : hi ≤ wz.heap.size := Nat.le_trans (by first | exact zhi | exact Nat.le_trans zhi (by simp) | omega) gz.size; replace HS := Lib.hid (HS.out.keep (w' := wz) (fun q hq => (But.of_grown gz rfl : But (one w5.heap.size) _ _).block q (by first | exact Nat.lt_of_lt_of_le hq.2 zhi | exact Nat.lt_of_lt_of_le hq.2 (Nat.le_trans zhi (by simp))) (fun e => by have e : q = w5.heap.size := e; have := hq.1; have := hq.2; omega))); replace GG := Lib.hid (GG.out.step (But.of_grown gz rfl : But (one w5.heap.size) _ _) (fun k h1 h2 => by have h2 : k = w5.heap.size := h2; omega)); replace RD := Lib.hid (RD.out.but (But.of_grown gz rfl : But (one w5.heap.size) _ _) (fun k h => .inr (by have h : k = w5.heap.size := h; omega)) (show ¬ g = w5.heap.size by omega)); replace BR := Lib.hid (BR.out.but (But.of_grown gz rfl : But (one w5.heap.size) _ _) (show ¬ w.heap.size = w5.heap.size by omega)); replace BX := Lib.hid (BX.out.but (But.of_grown gz rfl : But (one w5.heap.size) _ _) (show ¬ kx = w5.heap.size by omega)); refine hK.out _ _ ⟨BX.out, trivial⟩ (fun hS => ?_); clear gz
        clear hK K
        try simp only [Act.put, List.getElem_toArray, List.getElem_cons_succ, List.getElem_cons_zero, List.setIfInBounds_toArray, List.set_cons_zero, List.set_cons_succ]
        refine wpAnyH_done (by kernel_rfl) ?_ _
        go_wp2_with fail
        go_meet
        case rel => exact ⟨w5.heap.size, AD, nd, cd, rfl, BY, HS.out.more (fun q hq => ⟨Nat.lt_of_lt_of_le zlo hq.1, Nat.lt_of_lt_of_le hq.2 zx⟩), BR.out, RD.out, GG.out, zr⟩
    case rest =>
      obtain ⟨k2, A, n, c, rfl, by_, hs, br, rd, gg, hk2⟩ := hcut
      have BY := Lib.hid by_
      have HS := Lib.hid hs
      replace BR := Lib.hid br
      replace RD := Lib.hid rd
      replace GG := Lib.hid gg
      have c2 := rd.bad
      clear by_ hs br rd gg SM BX EL
      go_wp2_with fail
      have BYd := Lib.hid BY.out.drew
      refine wp_region_held_drew (S := fun w' => w'.cell? ⟨g, 2, none⟩ = some (.int .i64 s4.2) ∧ Blk w' k2 26 #[.int .i64 (a1 : Int), .int .i64 (a2 : Int), .int .i64 (a3 : Int), .slice A n c] ∧ True) (by kernel_rfl) ?_ (fun hS => ?_)
      · exact ⟨c2, BYd.out, trivial⟩
      refine wpAnyH_take (i := 0) rfl (by as_aux_lemma => kernel_rfl) (by as_aux_lemma => kernel_rfl) (by as_aux_lemma => kernel_rfl) (fun _ _ _ h => h) (yieldsIf_load_blk (by rfl) 26 (.tmp 5) rfl k2 0 rfl _ _ #[.int .i64 (a1 : Int), .int .i64 (a2 : Int), .int .i64 (a3 : Int), .slice A n c] _ (fun w hs => hs.2.1) Try.underlying26 rfl (by kernel_rfl) rfl) hS ?_
      try simp only [Act.put, List.getElem_toArray, List.getElem_cons_succ, List.getElem_cons_zero, List.setIfInBounds_toArray, List.set_cons_zero, List.set_cons_succ]
      refine wpAnyH_take (i := 1) (v := ?_) rfl (by as_aux_lemma => kernel_rfl) (by as_aux_lemma => kernel_rfl) (by as_aux_lemma => kernel_rfl) (fun _ _ _ h => h) (Or.inl ⟨by rfl, ?_⟩) hS ?_
      rotate_left
      · intro w hSw; (try dsimp only at hSw); go_simp; try with_reducible rfl
      try simp only [Act.put, List.getElem_toArray, List.getElem_cons_succ, List.getElem_cons_zero, List.setIfInBounds_toArray, List.set_cons_zero, List.set_cons_succ]
      refine wpAnyH_take (i := 2) (v := ?_) rfl (by as_aux_lemma => kernel_rfl) (by as_aux_lemma => kernel_rfl) (by as_aux_lemma => kernel_rfl) (fun _ _ _ h => h) (Or.inl ⟨by rfl, ?_⟩) hS ?_
      rotate_left
      · intro w hSw; (try dsimp only at hSw); go_simp; try with_reducible rfl
      try simp only [Act.put, List.getElem_toArray, List.getElem_cons_succ, List.getElem_cons_zero, List.setIfInBounds_toArray, List.set_cons_zero, List.set_cons_succ]
      refine wpAnyH_take (i := 3) (v := ?_) rfl (by as_aux_lemma => kernel_rfl) (by as_aux_lemma => kernel_rfl) (by as_aux_lemma => kernel_rfl) (fun _ _ _ h => h) (Or.inl ⟨by rfl, ?_⟩) hS ?_
      rotate_left
      · intro w hSw; (try dsimp only at hSw); go_simp; try with_reducible rfl
      try simp only [Act.put, List.getElem_toArray, List.getElem_cons_succ, List.getElem_cons_zero, List.setIfInBounds_toArray, List.set_cons_zero, List.set_cons_succ]
      refine wpAnyH_take (i := 4) (v := ?_) rfl (by as_aux_lemma => kernel_rfl) (by as_aux_lemma => kernel_rfl) (by as_aux_lemma => kernel_rfl) (fun _ _ _ h => h) (Or.inl ⟨by rfl, ?_⟩) hS ?_
      rotate_left
      · intro w hSw; (try dsimp only at hSw); go_simp; try with_reducible rfl
      try simp only [Act.put, List.getElem_toArray, List.getElem_cons_succ, List.getElem_cons_zero, List.setIfInBounds_toArray, List.set_cons_zero, List.set_cons_succ]
      refine wpAnyH_ready (rs := [5]) (by kernel_rfl) (by simp) ?_
      refine AllReadyH.cons rfl (fun K hK => ?_) AllReadyH.nil
      (rw [if_pos (by rfl)]; refine oper_store_blk 26 (.tmp 2) (.tmp 33) rfl w.heap.size 0 #[.int .i64 (a1 : Int), .int .i64 (a2 : Int), .int .i64 (a3 : Int), .slice A n c] rfl rfl _ #[.int .i64 0, .int .i64 0, .int .i64 0, .slice none 0 0] #[.int .i64 (a1 : Int), .int .i64 (a2 : Int), .int .i64 (a3 : Int), .slice A n c] BR.out.drew (by simp) (by kernel_rfl) (by simp [Value.oneCell']) rfl ?_; intro w9 B9 g9; have FB := Lib.hid B9; have bw : But (one w.heap.size) wc.drew w9 := But.of_grown g9 rfl; refine hK.out _ _ ⟨((RD.out.later (Below.refl _ wc).drew).but bw (fun q h => .inr (by have h : q = w.heap.size := h; omega)) (show ¬ g = w.heap.size by omega)).bad, BYd.out.but bw (show ¬ k2 = w.heap.size by omega), trivial⟩ (fun hS => ?_); clear B9 g9)
      clear hK K
      try simp only [Act.put, List.getElem_toArray, List.getElem_cons_succ, List.getElem_cons_zero, List.setIfInBounds_toArray, List.set_cons_zero, List.set_cons_succ]
      refine wpAnyH_take (i := 6) (v := ?_) rfl (by as_aux_lemma => kernel_rfl) (by as_aux_lemma => kernel_rfl) (by as_aux_lemma => kernel_rfl) (fun _ _ _ h => h) (Or.inl ⟨by rfl, ?_⟩) hS ?_
      rotate_left
      · intro w hSw; (try dsimp only at hSw); go_simp; try with_reducible rfl
      try simp only [Act.put, List.getElem_toArray, List.getElem_cons_succ, List.getElem_cons_zero, List.setIfInBounds_toArray, List.set_cons_zero, List.set_cons_succ]
      refine wpAnyH_done (by kernel_rfl) ?_ _
      clear hS
      replace RD := Lib.hid (RD.out.later (Below.refl _ wc).drew)
      replace GG := Lib.hid (GG.out.later (Below.refl _ wc).drew)
      have z9 : wc.heap.size ≤ w9.heap.size := bw.size
      go_wp2_with fail
      refine ret_cell_tmp rfl FB.out rfl Try.underlying26 (by kernel_rfl) rfl ?_
      rw [TV.out]
      exact ⟨⟨A, n, c, rfl, ((HS.out.keep (w' := wc.drew) (fun b hb => rfl)).but' bw (fun q hq => ⟨hq.2, fun e => by have e : q = w.heap.size := e; have := hq.1; omega⟩)).more (fun q hq => ⟨Nat.le_of_lt hq.1, Nat.lt_of_lt_of_le hq.2 z9⟩)⟩, (RD.out.but bw (fun q h => .inr (by have h : q = w.heap.size := h; omega)) (show ¬ g = w.heap.size by omega)).more (fun q _ hy => .inl hy), GG.out.step bw (fun q h1 h2 => by have h2 : q = w.heap.size := h2; omega)⟩
end Go.Proofs.Ytanglfmolnfjeaa
