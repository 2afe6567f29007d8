/-
  A reader of bytes (layer 8): the document's Count, End.
  Conditions: none.
-/
import Derived.Test.YtanglfmolnfjeaaChecked
import Derived.Test.YtanglfmolnfjeaaJ35
import Derived.Test.YtanglfmolnfjeaaJ07
import Derived.Test.YtanglfmolnfjeaaJ20
namespace Go.Proofs.Ytanglfmolnfjeaa
set_option linter.unusedVariables false
set_option linter.unusedSimpArgs false
open Go.RowKit Go.ChangeShapes Go.WideShapes
set_option maxRecDepth 100000
set_option maxHeartbeats 8000000

/-- The document's reader lies in block g: what is left of its bytes, and its first error; its bytes lie in none of X's blocks. -/
structure RrAt (X : Nat → Prop) (w : World) (g : Nat) (s : List Int × Int) : Prop where
  out : ∃ A n c L at_, Blk w g 67 #[.slice A n c, .int .i64 ((at_ : Nat) : Int), .int .i64 s.2] ∧ Sl (tInt .u8) w (fun x => x < w.heap.size ∧ ¬ X x) A n c L ∧ at_ ≤ n ∧ (s.2 = 0 → L.drop at_ = s.1) ∧ (A = none ∨ ∃ b off, A = some ⟨b, off, none⟩)
section
variable {X Y : Nat → Prop} {w w' : World} {g : Nat} {s : List Int × Int}
theorem RrAt.later (h : RrAt X w g s) (hb : Below w.heap.size w w') : RrAt X w' g s := by
  obtain ⟨A, n, c, L, k, h1, h2, h3, h4⟩ := h.out
  exact ⟨A, n, c, L, k, h1.later hb, (h2.below hb (fun _ h => h.1)).more (fun _ h => ⟨Nat.lt_of_lt_of_le h.1 hb.size, h.2⟩), h3, h4⟩
theorem RrAt.lt (h : RrAt X w g s) : g < w.heap.size := by obtain ⟨A, n, c, L, k, h1, _⟩ := h.out; exact h1.lt
theorem RrAt.but (h : RrAt X w g s) (hb : But Y w w') (hY : ∀ k, Y k → X k) (hg : ¬ Y g) : RrAt X w' g s := by
  obtain ⟨A, n, c, L, k, h1, h2, h3, h4⟩ := h.out
  exact ⟨A, n, c, L, k, h1.but hb hg, h2.but (hb.mono hY), h3, h4⟩
theorem RrAt.more (h : RrAt X w g s) (hY : ∀ k, k < w.heap.size → Y k → X k) : RrAt Y w g s := by
  obtain ⟨A, n, c, L, k, h1, h2, h3, h4⟩ := h.out
  exact ⟨A, n, c, L, k, h1, h2.more fun q hq => ⟨hq.1, fun e => hq.2 (hY q hq.1 e)⟩, h3, h4⟩
end

/-- What is left of a row from a place on, as the walk slices it. -/
theorem Sl.rest {w : World} {S : Nat → Prop} {A : Option Addr} {n c : Nat} {l : List Int} (h : Sl (tInt .u8) w S A n c l) (hA : A = none ∨ ∃ b off, A = some ⟨b, off, none⟩) (k : Nat) (hk : k ≤ n) :
    (A = none ∧ n = 0 ∧ c = 0 ∧ k = 0 ∧ l = []) ∨ (∃ b off, A = some ⟨b, off, none⟩ ∧ k = c ∧ k = n ∧ Sl (tInt .u8) w S (some ⟨b, off, none⟩) 0 0 (l.drop k)) ∨
    (∃ b off, A = some ⟨b, off, none⟩ ∧ ¬ c = k ∧ Sl (tInt .u8) w S (some ⟨b, off + k, none⟩) (n - k) (c - k) (l.drop k)) := by
  have hc := h.cap_le
  have hn := h.n_eq
  rcases hA with rfl | ⟨b, off, rfl⟩
  · have := h.nil_ rfl
    left
    exact ⟨rfl, by omega, this, by omega, List.length_eq_zero_iff.1 (by omega)⟩
  · right
    by_cases e : c = k
    · left
      refine ⟨b, off, rfl, e.symm, by omega, ⟨by rw [List.length_drop]; omega, by omega, Nat.zero_le _, (fun h => by cases h), fun i x hx => ?_⟩⟩
      rw [List.drop_of_length_le (by omega)] at hx
      cases hx
    · right
      refine ⟨b, off, rfl, e, ?_⟩
      have := h.sub k (n - k) k (c - k) (by simp [tInt]) (by omega) (by omega) (by omega)
      rwa [List.take_of_length_le (by rw [List.length_drop]; omega)] at this

theorem rrCount_any (X : Nat → Prop) (g : Nat) (s : List Int × Int) (most : Nat) (hm : most ≤ 1099511627776) (w : World) (h : RrAt X w g s) (hX : X g) :
    Calls Try.prog 32 #[.pointer (some ⟨g, 0, none⟩), .int .i64 (most : Int)] w fun e' w' => e' = .returned (.int .i64 ((cntV most s).1 : Int)) ∧ RrAt X w' g (cntV most s).2 ∧ But (one g) w w' := by
  have H := Lib.hid h
  obtain ⟨A, n, c, L, k, hB, hs, hk, hd, hA⟩ := h.out
  have BB := Lib.hid hB
  have c2 : w.cell? ⟨g, 2, none⟩ = some (.int .i64 s.2) := hB.cell 2
  have c1 : w.cell? ⟨g, 1, none⟩ = some (.int .i64 (k : Int)) := hB.cell 1
  have c0 : w.cell? ⟨g, 0, none⟩ = some (.slice A n c) := hB.cell 0
  have f1 := hB.frozen 1
  have f2 := hB.frozen 2
  have lt := hB.lt
  have CV := Lib.hid (show cntV most s = if (nextV s).1.2 = true then (if most < (nextV s).1.1 then (0, fails 3 (nextV s).2) else ((nextV s).1.1, (nextV s).2)) else (0, (nextV s).2) from rfl)
  have NV := Lib.hid (show nextV s = if s.2 = 0 then (if (lebGetV s.1).2.2 = 0 then (((lebGetV s.1).1, true), (s.1.drop (lebGetV s.1).2.1, 0)) else ((0, false), ([], (lebGetV s.1).2.2))) else ((0, false), s) from rfl)
  obtain ⟨r, hr⟩ : ∃ r, cntV most s = r := ⟨_, rfl⟩
  rw [hr] at CV ⊢
  rw [NV.out] at CV
  obtain ⟨l, bad⟩ := s
  simp only at c2 CV hd
  have SS := Lib.hid hs
  have HA := Lib.hid hA
  clear hr NV h hB hs hA
  by_cases q : bad = 0
  rotate_left
  · rw [if_neg q] at CV
    simp only [Bool.false_eq_true, if_false] at CV
    have t1 : (bad != 0) = true := by simpa using q
    clear hd
    go_enter Try.func32, Try.ntmps32
    go_wp2_with fail
    go_ret
    rw [CV.out]
    exact ⟨rfl, H.out, But.refl _ _⟩
  subst q
  rw [if_pos rfl] at CV
  have hl := hd rfl
  subst hl
  clear hd
  have bd := lebGetV_bd (L.drop k) (fun i => by
    have := SS.out.allK (k + i)
    rw [inK_u8] at this
    have e : (L.drop k).getD i 0 = L.getD (k + i) 0 := by simp [List.getD_eq_getElem?_getD]
    rw [e]; exact this.1)
  have hn := SS.out.n_eq
  have hcl := SS.out.cap_le
  have mx : max (most : Int) 0 = (most : Int) := by omega
  have mc := SS.out.max_le
  unfold maxLen at mc
  obtain ⟨rl, hrl⟩ : ∃ r, lebGetV (L.drop k) = r := ⟨_, rfl⟩
  rw [hrl] at CV bd
  have LG := Lib.hid (fun (B : Option Addr) (m d : Nat) (w' : World) (hsl : Sl (tInt .u8) w' (blo w'.heap.size) B m d (L.drop k)) => rlebGet_any B m d (L.drop k) w' hsl)
  rw [hrl] at LG
  obtain ⟨v, e, er⟩ := rl
  simp only at bd CV
  rw [List.length_drop, hn] at bd
  obtain ⟨b1, b2, b3, b4⟩ := bd
  have PK := Lib.hid (fun (w' : World) (b : But (one g) w w') => (SS.out.but (b.mono (fun q e => by cases e; exact hX)) : Sl _ w' _ A n c L))
  have D1 := Lib.hid (show (L.drop k).drop e = L.drop (k + e) from List.drop_drop ..)
  have HN := Lib.hid hn
  rcases SS.out.rest HA.out k hk with ⟨rfl, rfl, rfl, rfl, rfl⟩ | ⟨b, off, rfl, rfl, rfl, SD⟩ | ⟨b, off, rfl, nck, SD⟩
  · have HD := Lib.hid (rlebGet_any none 0 0 [] w.drew (Sl.nil _ _ _))
    rw [List.drop_nil] at hrl
    rw [hrl] at HD
    clear hrl LG HA PK
    go_enter Try.func32, Try.ntmps32
    go_wp2_with fail
    refine wp_region_held_drew (S := fun w' => w'.cell? ⟨g, 0, none⟩ = some (.slice none 0 0) ∧ w'.cell? ⟨g, 1, none⟩ = some (.int .i64 ((0 : Nat) : Int)) ∧ True) (by kernel_rfl) ?_ (fun hS => ?_)
    · exact ⟨c0, c1, trivial⟩
    refine wpAnyH_take (i := 0) (v := ?_) rfl (by as_aux_lemma => kernel_rfl) (by as_aux_lemma => kernel_rfl) (by as_aux_lemma => kernel_rfl) (fun _ _ _ h => h) (Or.inl ⟨by rfl, ?_⟩) hS ?_
    rotate_left
    · intro w hSw; (try dsimp only at hSw); go_simp; try with_reducible rfl
    try simp only [Act.put, List.getElem_toArray, List.getElem_cons_succ, List.getElem_cons_zero, List.setIfInBounds_toArray, List.set_cons_zero, List.set_cons_succ]
    refine wpAnyH_take (i := 1) (v := ?_) rfl (by as_aux_lemma => kernel_rfl) (by as_aux_lemma => kernel_rfl) (by as_aux_lemma => kernel_rfl) (fun _ _ _ h => h) (Or.inl ⟨by rfl, ?_⟩) hS ?_
    rotate_left
    · intro w hSw; (try dsimp only at hSw); go_simp; try with_reducible rfl
    try simp only [Act.put, List.getElem_toArray, List.getElem_cons_succ, List.getElem_cons_zero, List.setIfInBounds_toArray, List.set_cons_zero, List.set_cons_succ]
    refine wpAnyH_take (i := 2) (v := ?_) rfl (by as_aux_lemma => kernel_rfl) (by as_aux_lemma => kernel_rfl) (by as_aux_lemma => kernel_rfl) (fun _ _ _ h => h) (Or.inl ⟨by rfl, ?_⟩) hS ?_
    rotate_left
    · intro w hSw; (try dsimp only at hSw); go_simp; try with_reducible rfl
    try simp only [Act.put, List.getElem_toArray, List.getElem_cons_succ, List.getElem_cons_zero, List.setIfInBounds_toArray, List.set_cons_zero, List.set_cons_succ]
    refine wpAnyH_take (i := 3) (v := ?_) rfl (by as_aux_lemma => kernel_rfl) (by as_aux_lemma => kernel_rfl) (by as_aux_lemma => kernel_rfl) (fun _ _ _ h => h) (Or.inl ⟨by rfl, ?_⟩) hS ?_
    rotate_left
    · intro w hSw; (try dsimp only at hSw); go_simp; try with_reducible rfl
    try simp only [Act.put, List.getElem_toArray, List.getElem_cons_succ, List.getElem_cons_zero, List.setIfInBounds_toArray, List.set_cons_zero, List.set_cons_succ]
    refine wpAnyH_take (i := 4) (v := ?_) rfl (by as_aux_lemma => kernel_rfl) (by as_aux_lemma => kernel_rfl) (by as_aux_lemma => kernel_rfl) (fun _ _ _ h => h) (Or.inl ⟨by rfl, ?_⟩) hS ?_
    rotate_left
    · intro w hSw; (try dsimp only at hSw); go_simp; try with_reducible rfl
    try simp only [Act.put, List.getElem_toArray, List.getElem_cons_succ, List.getElem_cons_zero, List.setIfInBounds_toArray, List.set_cons_zero, List.set_cons_succ]
    refine wpAnyH_take (i := 5) (v := ?_) rfl (by as_aux_lemma => kernel_rfl) (by as_aux_lemma => kernel_rfl) (by as_aux_lemma => kernel_rfl) (fun _ _ _ h => h) (Or.inl ⟨by rfl, ?_⟩) hS ?_
    rotate_left
    · intro w hSw; (try dsimp only at hSw); go_simp; try with_reducible rfl
    try simp only [Act.put, List.getElem_toArray, List.getElem_cons_succ, List.getElem_cons_zero, List.setIfInBounds_toArray, List.set_cons_zero, List.set_cons_succ]
    refine wpAnyH_take (i := 6) (v := ?_) rfl (by as_aux_lemma => kernel_rfl) (by as_aux_lemma => kernel_rfl) (by as_aux_lemma => kernel_rfl) (fun _ _ _ h => h) (Or.inl ⟨by rfl, ?_⟩) hS ?_
    rotate_left
    · intro w hSw; (try dsimp only at hSw); go_simp; try with_reducible rfl
    try simp only [Act.put, List.getElem_toArray, List.getElem_cons_succ, List.getElem_cons_zero, List.setIfInBounds_toArray, List.set_cons_zero, List.set_cons_succ]
    refine wpAnyH_take (i := 7) (v := ?_) rfl (by as_aux_lemma => kernel_rfl) (by as_aux_lemma => kernel_rfl) (by as_aux_lemma => kernel_rfl) (fun _ _ _ h => h) (Or.inl ⟨by rfl, ?_⟩) hS ?_
    rotate_left
    · intro w hSw; (try dsimp only at hSw); go_simp; try with_reducible rfl
    try simp only [Act.put, List.getElem_toArray, List.getElem_cons_succ, List.getElem_cons_zero, List.setIfInBounds_toArray, List.set_cons_zero, List.set_cons_succ]
    refine wpAnyH_take (i := 8) (v := ?_) rfl (by as_aux_lemma => kernel_rfl) (by as_aux_lemma => kernel_rfl) (by as_aux_lemma => kernel_rfl) (fun _ _ _ h => h) (Or.inl ⟨by rfl, ?_⟩) hS ?_
    rotate_left
    · intro w hSw; (try dsimp only at hSw); go_simp; try with_reducible rfl
    try simp only [Act.put, List.getElem_toArray, List.getElem_cons_succ, List.getElem_cons_zero, List.setIfInBounds_toArray, List.set_cons_zero, List.set_cons_succ]
    refine wpAnyH_ready (rs := [9]) (by kernel_rfl) (by simp) ?_
    refine AllReadyH.cons rfl (fun K hK => ?_) AllReadyH.nil
    go_simp
    refine HD.out.mono ?_; rintro e' w2 ⟨rfl, rfl⟩
    refine hK.out _ _ hS (fun hS => ?_)
    clear hK K
    try simp only [Act.put, List.getElem_toArray, List.getElem_cons_succ, List.getElem_cons_zero, List.setIfInBounds_toArray, List.set_cons_zero, List.set_cons_succ]
    refine wpAnyH_take (i := 10) (v := ?_) rfl (by as_aux_lemma => kernel_rfl) (by as_aux_lemma => kernel_rfl) (by as_aux_lemma => kernel_rfl) (fun _ _ _ h => h) (Or.inl ⟨by rfl, ?_⟩) hS ?_
    rotate_left
    · intro w hSw; (try dsimp only at hSw); go_simp; try with_reducible rfl
    try simp only [Act.put, List.getElem_toArray, List.getElem_cons_succ, List.getElem_cons_zero, List.setIfInBounds_toArray, List.set_cons_zero, List.set_cons_succ]
    refine wpAnyH_take (i := 11) (v := ?_) rfl (by as_aux_lemma => kernel_rfl) (by as_aux_lemma => kernel_rfl) (by as_aux_lemma => kernel_rfl) (fun _ _ _ h => h) (Or.inl ⟨by rfl, ?_⟩) hS ?_
    rotate_left
    · intro w hSw; (try dsimp only at hSw); go_simp; try with_reducible rfl
    try simp only [Act.put, List.getElem_toArray, List.getElem_cons_succ, List.getElem_cons_zero, List.setIfInBounds_toArray, List.set_cons_zero, List.set_cons_succ]
    refine wpAnyH_take (i := 12) (v := ?_) rfl (by as_aux_lemma => kernel_rfl) (by as_aux_lemma => kernel_rfl) (by as_aux_lemma => kernel_rfl) (fun _ _ _ h => h) (Or.inl ⟨by rfl, ?_⟩) hS ?_
    rotate_left
    · intro w hSw; (try dsimp only at hSw); go_simp; try with_reducible rfl
    try simp only [Act.put, List.getElem_toArray, List.getElem_cons_succ, List.getElem_cons_zero, List.setIfInBounds_toArray, List.set_cons_zero, List.set_cons_succ]
    refine wpAnyH_take (i := 13) (v := ?_) rfl (by as_aux_lemma => kernel_rfl) (by as_aux_lemma => kernel_rfl) (by as_aux_lemma => kernel_rfl) (fun _ _ _ h => h) (Or.inl ⟨by rfl, ?_⟩) hS ?_
    rotate_left
    · intro w hSw; (try dsimp only at hSw); go_simp; try with_reducible rfl
    try simp only [Act.put, List.getElem_toArray, List.getElem_cons_succ, List.getElem_cons_zero, List.setIfInBounds_toArray, List.set_cons_zero, List.set_cons_succ]
    refine wpAnyH_take (i := 14) (v := ?_) rfl (by as_aux_lemma => kernel_rfl) (by as_aux_lemma => kernel_rfl) (by as_aux_lemma => kernel_rfl) (fun _ _ _ h => h) (Or.inl ⟨by rfl, ?_⟩) hS ?_
    rotate_left
    · intro w hSw; (try dsimp only at hSw); go_simp; try with_reducible rfl
    try simp only [Act.put, List.getElem_toArray, List.getElem_cons_succ, List.getElem_cons_zero, List.setIfInBounds_toArray, List.set_cons_zero, List.set_cons_succ]
    refine wpAnyH_take (i := 15) (v := ?_) rfl (by as_aux_lemma => kernel_rfl) (by as_aux_lemma => kernel_rfl) (by as_aux_lemma => kernel_rfl) (fun _ _ _ h => h) (Or.inl ⟨by rfl, ?_⟩) hS ?_
    rotate_left
    · intro w hSw; (try dsimp only at hSw); go_simp; try with_reducible rfl
    try simp only [Act.put, List.getElem_toArray, List.getElem_cons_succ, List.getElem_cons_zero, List.setIfInBounds_toArray, List.set_cons_zero, List.set_cons_succ]
    refine wpAnyH_take (i := 16) (v := ?_) rfl (by as_aux_lemma => kernel_rfl) (by as_aux_lemma => kernel_rfl) (by as_aux_lemma => kernel_rfl) (fun _ _ _ h => h) (Or.inl ⟨by rfl, ?_⟩) hS ?_
    rotate_left
    · intro w hSw; (try dsimp only at hSw); go_simp; try with_reducible rfl
    try simp only [Act.put, List.getElem_toArray, List.getElem_cons_succ, List.getElem_cons_zero, List.setIfInBounds_toArray, List.set_cons_zero, List.set_cons_succ]
    refine wpAnyH_done (by kernel_rfl) ?_ _
    clear hS HD c0 c1 c2 f1 f2 H
    have BD := Lib.hid BB.out.drew
    have SD2 := Lib.hid (SS.out.keep (w' := w.drew) (fun b hb => rfl))
    have b0 : But (one g) w w.drew := But.of_below (Below.refl _ w).drew
    obtain ⟨wd, hwd⟩ : ∃ x, w.drew = x := ⟨_, rfl⟩
    rw [hwd] at BD SD2 b0
    rw [hwd]
    have B0 := Lib.hid b0
    have c1 := BD.out.cell 1
    have c2 := BD.out.cell 2
    have f1 := BD.out.frozen 1
    have f2 := BD.out.frozen 2
    have zd : wd.heap.size = w.heap.size := by rw [← hwd]; rfl
    rw [← zd] at SD2
    clear BB SS hwd zd b0
    by_cases he : er = 0
    rotate_left
    · rw [if_neg he] at CV
      simp only [Bool.false_eq_true, if_false] at CV
      have t1 : (er != 0) = true := by simpa using he
      go_wp2_with fail
      go_ret
      rw [CV.out]
      refine ⟨rfl, ⟨none, 0, 0, [], 0, by simpa using BD.out.set_ 2 (.int .i64 er), (SD2.out.but (X := X) (But.one_set wd g 2 (.int .i64 er) |>.upto hX)), hk, fun h => absurd h he, .inl rfl⟩, B0.out.trans (But.one_set _ _ _ _)⟩
    · subst he
      rw [if_pos rfl] at CV
      simp only [if_true] at CV
      clear b4
      by_cases hv : most < v
      · rw [if_pos hv] at CV
        replace CV := Lib.hid (show r = (0, ([], 3)) by rw [CV.out]; rfl)
        have t1 : decide ((most : Int) < (v : Int)) = true := by simp; omega
        have t2 : decide (most < v) = true := by simp; omega
        go_wp2_with fail
        go_ret
        rw [CV.out]
        refine ⟨rfl, ⟨none, 0, 0, [], 0, by simpa using BD.out.set_ 2 (.int .i64 3), (SD2.out.but (X := X) (But.one_set wd g 2 (.int .i64 3) |>.upto hX)), hk, fun h => absurd h (show ¬ (3 : Int) = 0 by decide), .inl rfl⟩, B0.out.trans (But.one_set _ _ _ _)⟩
      · rw [if_neg hv] at CV
        have t1 : decide ((most : Int) < (v : Int)) = false := by simp; omega
        have t2 : decide (most < v) = false := by simp; omega
        have hv' : v ≤ most := by omega
        go_wp2_with fail
        go_ret
        rw [CV.out]
        refine ⟨rfl, ⟨none, 0, 0, [], 0 + e, by simpa using BD.out.set_ 1 (.int .i64 (e : Int)), (SD2.out.but (X := X) (But.one_set wd g 1 _ |>.upto hX)), by omega, fun _ => D1.out.symm, .inl rfl⟩, B0.out.trans (But.one_set _ _ _ _)⟩
  · have HD := Lib.hid (rlebGet_any _ _ _ (L.drop k) w.drew ((SD.keep (w' := w.drew) (fun b hb => rfl)).more (fun q hq => hq.1)))
    clear SD
    rw [hrl] at HD
    clear hrl LG HA PK
    go_enter Try.func32, Try.ntmps32
    go_wp2_with fail
    refine wp_region_held_drew (S := fun w' => w'.cell? ⟨g, 0, none⟩ = some (.slice (some ⟨b, off, none⟩) k k) ∧ w'.cell? ⟨g, 1, none⟩ = some (.int .i64 ((k : Nat) : Int)) ∧ True) (by kernel_rfl) ?_ (fun hS => ?_)
    · exact ⟨c0, c1, trivial⟩
    refine wpAnyH_take (i := 0) (v := ?_) rfl (by as_aux_lemma => kernel_rfl) (by as_aux_lemma => kernel_rfl) (by as_aux_lemma => kernel_rfl) (fun _ _ _ h => h) (Or.inl ⟨by rfl, ?_⟩) hS ?_
    rotate_left
    · intro w hSw; (try dsimp only at hSw); go_simp; try with_reducible rfl
    try simp only [Act.put, List.getElem_toArray, List.getElem_cons_succ, List.getElem_cons_zero, List.setIfInBounds_toArray, List.set_cons_zero, List.set_cons_succ]
    refine wpAnyH_take (i := 1) (v := ?_) rfl (by as_aux_lemma => kernel_rfl) (by as_aux_lemma => kernel_rfl) (by as_aux_lemma => kernel_rfl) (fun _ _ _ h => h) (Or.inl ⟨by rfl, ?_⟩) hS ?_
    rotate_left
    · intro w hSw; (try dsimp only at hSw); go_simp; try with_reducible rfl
    try simp only [Act.put, List.getElem_toArray, List.getElem_cons_succ, List.getElem_cons_zero, List.setIfInBounds_toArray, List.set_cons_zero, List.set_cons_succ]
    refine wpAnyH_take (i := 2) (v := ?_) rfl (by as_aux_lemma => kernel_rfl) (by as_aux_lemma => kernel_rfl) (by as_aux_lemma => kernel_rfl) (fun _ _ _ h => h) (Or.inl ⟨by rfl, ?_⟩) hS ?_
    rotate_left
    · intro w hSw; (try dsimp only at hSw); go_simp; try with_reducible rfl
    try simp only [Act.put, List.getElem_toArray, List.getElem_cons_succ, List.getElem_cons_zero, List.setIfInBounds_toArray, List.set_cons_zero, List.set_cons_succ]
    refine wpAnyH_take (i := 3) (v := ?_) rfl (by as_aux_lemma => kernel_rfl) (by as_aux_lemma => kernel_rfl) (by as_aux_lemma => kernel_rfl) (fun _ _ _ h => h) (Or.inl ⟨by rfl, ?_⟩) hS ?_
    rotate_left
    · intro w hSw; (try dsimp only at hSw); go_simp; try with_reducible rfl
    try simp only [Act.put, List.getElem_toArray, List.getElem_cons_succ, List.getElem_cons_zero, List.setIfInBounds_toArray, List.set_cons_zero, List.set_cons_succ]
    refine wpAnyH_take (i := 4) (v := ?_) rfl (by as_aux_lemma => kernel_rfl) (by as_aux_lemma => kernel_rfl) (by as_aux_lemma => kernel_rfl) (fun _ _ _ h => h) (Or.inl ⟨by rfl, ?_⟩) hS ?_
    rotate_left
    · intro w hSw; (try dsimp only at hSw); go_simp; try with_reducible rfl
    try simp only [Act.put, List.getElem_toArray, List.getElem_cons_succ, List.getElem_cons_zero, List.setIfInBounds_toArray, List.set_cons_zero, List.set_cons_succ]
    refine wpAnyH_take (i := 5) (v := ?_) rfl (by as_aux_lemma => kernel_rfl) (by as_aux_lemma => kernel_rfl) (by as_aux_lemma => kernel_rfl) (fun _ _ _ h => h) (Or.inl ⟨by rfl, ?_⟩) hS ?_
    rotate_left
    · intro w hSw; (try dsimp only at hSw); go_simp; try with_reducible rfl
    try simp only [Act.put, List.getElem_toArray, List.getElem_cons_succ, List.getElem_cons_zero, List.setIfInBounds_toArray, List.set_cons_zero, List.set_cons_succ]
    refine wpAnyH_take (i := 6) (v := ?_) rfl (by as_aux_lemma => kernel_rfl) (by as_aux_lemma => kernel_rfl) (by as_aux_lemma => kernel_rfl) (fun _ _ _ h => h) (Or.inl ⟨by rfl, ?_⟩) hS ?_
    rotate_left
    · intro w hSw; (try dsimp only at hSw); go_simp; try with_reducible rfl
    try simp only [Act.put, List.getElem_toArray, List.getElem_cons_succ, List.getElem_cons_zero, List.setIfInBounds_toArray, List.set_cons_zero, List.set_cons_succ]
    refine wpAnyH_take (i := 7) (v := ?_) rfl (by as_aux_lemma => kernel_rfl) (by as_aux_lemma => kernel_rfl) (by as_aux_lemma => kernel_rfl) (fun _ _ _ h => h) (Or.inl ⟨by rfl, ?_⟩) hS ?_
    rotate_left
    · intro w hSw; (try dsimp only at hSw); go_simp; try with_reducible rfl
    try simp only [Act.put, List.getElem_toArray, List.getElem_cons_succ, List.getElem_cons_zero, List.setIfInBounds_toArray, List.set_cons_zero, List.set_cons_succ]
    refine wpAnyH_take (i := 8) (v := ?_) rfl (by as_aux_lemma => kernel_rfl) (by as_aux_lemma => kernel_rfl) (by as_aux_lemma => kernel_rfl) (fun _ _ _ h => h) (Or.inl ⟨by rfl, ?_⟩) hS ?_
    rotate_left
    · intro w hSw; (try dsimp only at hSw); go_simp; try with_reducible rfl
    try simp only [Act.put, List.getElem_toArray, List.getElem_cons_succ, List.getElem_cons_zero, List.setIfInBounds_toArray, List.set_cons_zero, List.set_cons_succ]
    refine wpAnyH_ready (rs := [9]) (by kernel_rfl) (by simp) ?_
    refine AllReadyH.cons rfl (fun K hK => ?_) AllReadyH.nil
    go_simp
    refine HD.out.mono ?_; rintro e' w2 ⟨rfl, rfl⟩
    refine hK.out _ _ hS (fun hS => ?_)
    clear hK K
    try simp only [Act.put, List.getElem_toArray, List.getElem_cons_succ, List.getElem_cons_zero, List.setIfInBounds_toArray, List.set_cons_zero, List.set_cons_succ]
    refine wpAnyH_take (i := 10) (v := ?_) rfl (by as_aux_lemma => kernel_rfl) (by as_aux_lemma => kernel_rfl) (by as_aux_lemma => kernel_rfl) (fun _ _ _ h => h) (Or.inl ⟨by rfl, ?_⟩) hS ?_
    rotate_left
    · intro w hSw; (try dsimp only at hSw); go_simp; try with_reducible rfl
    try simp only [Act.put, List.getElem_toArray, List.getElem_cons_succ, List.getElem_cons_zero, List.setIfInBounds_toArray, List.set_cons_zero, List.set_cons_succ]
    refine wpAnyH_take (i := 11) (v := ?_) rfl (by as_aux_lemma => kernel_rfl) (by as_aux_lemma => kernel_rfl) (by as_aux_lemma => kernel_rfl) (fun _ _ _ h => h) (Or.inl ⟨by rfl, ?_⟩) hS ?_
    rotate_left
    · intro w hSw; (try dsimp only at hSw); go_simp; try with_reducible rfl
    try simp only [Act.put, List.getElem_toArray, List.getElem_cons_succ, List.getElem_cons_zero, List.setIfInBounds_toArray, List.set_cons_zero, List.set_cons_succ]
    refine wpAnyH_take (i := 12) (v := ?_) rfl (by as_aux_lemma => kernel_rfl) (by as_aux_lemma => kernel_rfl) (by as_aux_lemma => kernel_rfl) (fun _ _ _ h => h) (Or.inl ⟨by rfl, ?_⟩) hS ?_
    rotate_left
    · intro w hSw; (try dsimp only at hSw); go_simp; try with_reducible rfl
    try simp only [Act.put, List.getElem_toArray, List.getElem_cons_succ, List.getElem_cons_zero, List.setIfInBounds_toArray, List.set_cons_zero, List.set_cons_succ]
    refine wpAnyH_take (i := 13) (v := ?_) rfl (by as_aux_lemma => kernel_rfl) (by as_aux_lemma => kernel_rfl) (by as_aux_lemma => kernel_rfl) (fun _ _ _ h => h) (Or.inl ⟨by rfl, ?_⟩) hS ?_
    rotate_left
    · intro w hSw; (try dsimp only at hSw); go_simp; try with_reducible rfl
    try simp only [Act.put, List.getElem_toArray, List.getElem_cons_succ, List.getElem_cons_zero, List.setIfInBounds_toArray, List.set_cons_zero, List.set_cons_succ]
    refine wpAnyH_take (i := 14) (v := ?_) rfl (by as_aux_lemma => kernel_rfl) (by as_aux_lemma => kernel_rfl) (by as_aux_lemma => kernel_rfl) (fun _ _ _ h => h) (Or.inl ⟨by rfl, ?_⟩) hS ?_
    rotate_left
    · intro w hSw; (try dsimp only at hSw); go_simp; try with_reducible rfl
    try simp only [Act.put, List.getElem_toArray, List.getElem_cons_succ, List.getElem_cons_zero, List.setIfInBounds_toArray, List.set_cons_zero, List.set_cons_succ]
    refine wpAnyH_take (i := 15) (v := ?_) rfl (by as_aux_lemma => kernel_rfl) (by as_aux_lemma => kernel_rfl) (by as_aux_lemma => kernel_rfl) (fun _ _ _ h => h) (Or.inl ⟨by rfl, ?_⟩) hS ?_
    rotate_left
    · intro w hSw; (try dsimp only at hSw); go_simp; try with_reducible rfl
    try simp only [Act.put, List.getElem_toArray, List.getElem_cons_succ, List.getElem_cons_zero, List.setIfInBounds_toArray, List.set_cons_zero, List.set_cons_succ]
    refine wpAnyH_take (i := 16) (v := ?_) rfl (by as_aux_lemma => kernel_rfl) (by as_aux_lemma => kernel_rfl) (by as_aux_lemma => kernel_rfl) (fun _ _ _ h => h) (Or.inl ⟨by rfl, ?_⟩) hS ?_
    rotate_left
    · intro w hSw; (try dsimp only at hSw); go_simp; try with_reducible rfl
    try simp only [Act.put, List.getElem_toArray, List.getElem_cons_succ, List.getElem_cons_zero, List.setIfInBounds_toArray, List.set_cons_zero, List.set_cons_succ]
    refine wpAnyH_done (by kernel_rfl) ?_ _
    clear hS HD c0 c1 c2 f1 f2 H
    have BD := Lib.hid BB.out.drew
    have SD2 := Lib.hid (SS.out.keep (w' := w.drew) (fun b hb => rfl))
    have b0 : But (one g) w w.drew := But.of_below (Below.refl _ w).drew
    obtain ⟨wd, hwd⟩ : ∃ x, w.drew = x := ⟨_, rfl⟩
    rw [hwd] at BD SD2 b0
    rw [hwd]
    have B0 := Lib.hid b0
    have c1 := BD.out.cell 1
    have c2 := BD.out.cell 2
    have f1 := BD.out.frozen 1
    have f2 := BD.out.frozen 2
    have zd : wd.heap.size = w.heap.size := by rw [← hwd]; rfl
    rw [← zd] at SD2
    clear BB SS hwd zd b0
    by_cases he : er = 0
    rotate_left
    · rw [if_neg he] at CV
      simp only [Bool.false_eq_true, if_false] at CV
      have t1 : (er != 0) = true := by simpa using he
      go_wp2_with fail
      go_ret
      rw [CV.out]
      refine ⟨rfl, ⟨(some ⟨b, off, none⟩), k, k, L, k, by simpa using BD.out.set_ 2 (.int .i64 er), (SD2.out.but (X := X) (But.one_set wd g 2 (.int .i64 er) |>.upto hX)), hk, fun h => absurd h he, .inr ⟨_, _, rfl⟩⟩, B0.out.trans (But.one_set _ _ _ _)⟩
    · subst he
      rw [if_pos rfl] at CV
      simp only [if_true] at CV
      clear b4
      by_cases hv : most < v
      · rw [if_pos hv] at CV
        replace CV := Lib.hid (show r = (0, ([], 3)) by rw [CV.out]; rfl)
        have t1 : decide ((most : Int) < (v : Int)) = true := by simp; omega
        have t2 : decide (most < v) = true := by simp; omega
        go_wp2_with fail
        go_ret
        rw [CV.out]
        refine ⟨rfl, ⟨(some ⟨b, off, none⟩), k, k, L, k, by simpa using BD.out.set_ 2 (.int .i64 3), (SD2.out.but (X := X) (But.one_set wd g 2 (.int .i64 3) |>.upto hX)), hk, fun h => absurd h (show ¬ (3 : Int) = 0 by decide), .inr ⟨_, _, rfl⟩⟩, B0.out.trans (But.one_set _ _ _ _)⟩
      · rw [if_neg hv] at CV
        have t1 : decide ((most : Int) < (v : Int)) = false := by simp; omega
        have t2 : decide (most < v) = false := by simp; omega
        have hv' : v ≤ most := by omega
        go_wp2_with fail
        go_ret
        rw [CV.out]
        refine ⟨rfl, ⟨(some ⟨b, off, none⟩), k, k, L, k + e, by simpa using BD.out.set_ 1 (.int .i64 ((k : Int) + (e : Int))), (SD2.out.but (X := X) (But.one_set wd g 1 _ |>.upto hX)), by omega, fun _ => D1.out.symm, .inr ⟨_, _, rfl⟩⟩, B0.out.trans (But.one_set _ _ _ _)⟩
  · have HD := Lib.hid (rlebGet_any _ _ _ (L.drop k) w.drew ((SD.keep (w' := w.drew) (fun b hb => rfl)).more (fun q hq => hq.1)))
    have kc : k ≤ c := by omega
    clear SD
    rw [hrl] at HD
    clear hrl LG HA PK
    go_enter Try.func32, Try.ntmps32
    go_wp2_with fail
    refine wp_region_held_drew (S := fun w' => w'.cell? ⟨g, 0, none⟩ = some (.slice (some ⟨b, off, none⟩) n c) ∧ w'.cell? ⟨g, 1, none⟩ = some (.int .i64 ((k : Nat) : Int)) ∧ True) (by kernel_rfl) ?_ (fun hS => ?_)
    · exact ⟨c0, c1, trivial⟩
    refine wpAnyH_take (i := 0) (v := ?_) rfl (by as_aux_lemma => kernel_rfl) (by as_aux_lemma => kernel_rfl) (by as_aux_lemma => kernel_rfl) (fun _ _ _ h => h) (Or.inl ⟨by rfl, ?_⟩) hS ?_
    rotate_left
    · intro w hSw; (try dsimp only at hSw); go_simp; try with_reducible rfl
    try simp only [Act.put, List.getElem_toArray, List.getElem_cons_succ, List.getElem_cons_zero, List.setIfInBounds_toArray, List.set_cons_zero, List.set_cons_succ]
    refine wpAnyH_take (i := 1) (v := ?_) rfl (by as_aux_lemma => kernel_rfl) (by as_aux_lemma => kernel_rfl) (by as_aux_lemma => kernel_rfl) (fun _ _ _ h => h) (Or.inl ⟨by rfl, ?_⟩) hS ?_
    rotate_left
    · intro w hSw; (try dsimp only at hSw); go_simp; try with_reducible rfl
    try simp only [Act.put, List.getElem_toArray, List.getElem_cons_succ, List.getElem_cons_zero, List.setIfInBounds_toArray, List.set_cons_zero, List.set_cons_succ]
    refine wpAnyH_take (i := 2) (v := ?_) rfl (by as_aux_lemma => kernel_rfl) (by as_aux_lemma => kernel_rfl) (by as_aux_lemma => kernel_rfl) (fun _ _ _ h => h) (Or.inl ⟨by rfl, ?_⟩) hS ?_
    rotate_left
    · intro w hSw; (try dsimp only at hSw); go_simp; try with_reducible rfl
    try simp only [Act.put, List.getElem_toArray, List.getElem_cons_succ, List.getElem_cons_zero, List.setIfInBounds_toArray, List.set_cons_zero, List.set_cons_succ]
    refine wpAnyH_take (i := 3) (v := ?_) rfl (by as_aux_lemma => kernel_rfl) (by as_aux_lemma => kernel_rfl) (by as_aux_lemma => kernel_rfl) (fun _ _ _ h => h) (Or.inl ⟨by rfl, ?_⟩) hS ?_
    rotate_left
    · intro w hSw; (try dsimp only at hSw); go_simp; try with_reducible rfl
    try simp only [Act.put, List.getElem_toArray, List.getElem_cons_succ, List.getElem_cons_zero, List.setIfInBounds_toArray, List.set_cons_zero, List.set_cons_succ]
    refine wpAnyH_take (i := 4) (v := ?_) rfl (by as_aux_lemma => kernel_rfl) (by as_aux_lemma => kernel_rfl) (by as_aux_lemma => kernel_rfl) (fun _ _ _ h => h) (Or.inl ⟨by rfl, ?_⟩) hS ?_
    rotate_left
    · intro w hSw; (try dsimp only at hSw); go_simp; try with_reducible rfl
    try simp only [Act.put, List.getElem_toArray, List.getElem_cons_succ, List.getElem_cons_zero, List.setIfInBounds_toArray, List.set_cons_zero, List.set_cons_succ]
    refine wpAnyH_take (i := 5) (v := ?_) rfl (by as_aux_lemma => kernel_rfl) (by as_aux_lemma => kernel_rfl) (by as_aux_lemma => kernel_rfl) (fun _ _ _ h => h) (Or.inl ⟨by rfl, ?_⟩) hS ?_
    rotate_left
    · intro w hSw; (try dsimp only at hSw); go_simp; try with_reducible rfl
    try simp only [Act.put, List.getElem_toArray, List.getElem_cons_succ, List.getElem_cons_zero, List.setIfInBounds_toArray, List.set_cons_zero, List.set_cons_succ]
    refine wpAnyH_take (i := 6) (v := ?_) rfl (by as_aux_lemma => kernel_rfl) (by as_aux_lemma => kernel_rfl) (by as_aux_lemma => kernel_rfl) (fun _ _ _ h => h) (Or.inl ⟨by rfl, ?_⟩) hS ?_
    rotate_left
    · intro w hSw; (try dsimp only at hSw); go_simp; try with_reducible rfl
    try simp only [Act.put, List.getElem_toArray, List.getElem_cons_succ, List.getElem_cons_zero, List.setIfInBounds_toArray, List.set_cons_zero, List.set_cons_succ]
    refine wpAnyH_take (i := 7) (v := ?_) rfl (by as_aux_lemma => kernel_rfl) (by as_aux_lemma => kernel_rfl) (by as_aux_lemma => kernel_rfl) (fun _ _ _ h => h) (Or.inl ⟨by rfl, ?_⟩) hS ?_
    rotate_left
    · intro w hSw; (try dsimp only at hSw); go_simp; try with_reducible rfl
    try simp only [Act.put, List.getElem_toArray, List.getElem_cons_succ, List.getElem_cons_zero, List.setIfInBounds_toArray, List.set_cons_zero, List.set_cons_succ]
    refine wpAnyH_take (i := 8) (v := ?_) rfl (by as_aux_lemma => kernel_rfl) (by as_aux_lemma => kernel_rfl) (by as_aux_lemma => kernel_rfl) (fun _ _ _ h => h) (Or.inl ⟨by rfl, ?_⟩) hS ?_
    rotate_left
    · intro w hSw; (try dsimp only at hSw); go_simp; try with_reducible rfl
    try simp only [Act.put, List.getElem_toArray, List.getElem_cons_succ, List.getElem_cons_zero, List.setIfInBounds_toArray, List.set_cons_zero, List.set_cons_succ]
    refine wpAnyH_ready (rs := [9]) (by kernel_rfl) (by simp) ?_
    refine AllReadyH.cons rfl (fun K hK => ?_) AllReadyH.nil
    go_simp
    refine HD.out.mono ?_; rintro e' w2 ⟨rfl, rfl⟩
    refine hK.out _ _ hS (fun hS => ?_)
    clear hK K
    try simp only [Act.put, List.getElem_toArray, List.getElem_cons_succ, List.getElem_cons_zero, List.setIfInBounds_toArray, List.set_cons_zero, List.set_cons_succ]
    refine wpAnyH_take (i := 10) (v := ?_) rfl (by as_aux_lemma => kernel_rfl) (by as_aux_lemma => kernel_rfl) (by as_aux_lemma => kernel_rfl) (fun _ _ _ h => h) (Or.inl ⟨by rfl, ?_⟩) hS ?_
    rotate_left
    · intro w hSw; (try dsimp only at hSw); go_simp; try with_reducible rfl
    try simp only [Act.put, List.getElem_toArray, List.getElem_cons_succ, List.getElem_cons_zero, List.setIfInBounds_toArray, List.set_cons_zero, List.set_cons_succ]
    refine wpAnyH_take (i := 11) (v := ?_) rfl (by as_aux_lemma => kernel_rfl) (by as_aux_lemma => kernel_rfl) (by as_aux_lemma => kernel_rfl) (fun _ _ _ h => h) (Or.inl ⟨by rfl, ?_⟩) hS ?_
    rotate_left
    · intro w hSw; (try dsimp only at hSw); go_simp; try with_reducible rfl
    try simp only [Act.put, List.getElem_toArray, List.getElem_cons_succ, List.getElem_cons_zero, List.setIfInBounds_toArray, List.set_cons_zero, List.set_cons_succ]
    refine wpAnyH_take (i := 12) (v := ?_) rfl (by as_aux_lemma => kernel_rfl) (by as_aux_lemma => kernel_rfl) (by as_aux_lemma => kernel_rfl) (fun _ _ _ h => h) (Or.inl ⟨by rfl, ?_⟩) hS ?_
    rotate_left
    · intro w hSw; (try dsimp only at hSw); go_simp; try with_reducible rfl
    try simp only [Act.put, List.getElem_toArray, List.getElem_cons_succ, List.getElem_cons_zero, List.setIfInBounds_toArray, List.set_cons_zero, List.set_cons_succ]
    refine wpAnyH_take (i := 13) (v := ?_) rfl (by as_aux_lemma => kernel_rfl) (by as_aux_lemma => kernel_rfl) (by as_aux_lemma => kernel_rfl) (fun _ _ _ h => h) (Or.inl ⟨by rfl, ?_⟩) hS ?_
    rotate_left
    · intro w hSw; (try dsimp only at hSw); go_simp; try with_reducible rfl
    try simp only [Act.put, List.getElem_toArray, List.getElem_cons_succ, List.getElem_cons_zero, List.setIfInBounds_toArray, List.set_cons_zero, List.set_cons_succ]
    refine wpAnyH_take (i := 14) (v := ?_) rfl (by as_aux_lemma => kernel_rfl) (by as_aux_lemma => kernel_rfl) (by as_aux_lemma => kernel_rfl) (fun _ _ _ h => h) (Or.inl ⟨by rfl, ?_⟩) hS ?_
    rotate_left
    · intro w hSw; (try dsimp only at hSw); go_simp; try with_reducible rfl
    try simp only [Act.put, List.getElem_toArray, List.getElem_cons_succ, List.getElem_cons_zero, List.setIfInBounds_toArray, List.set_cons_zero, List.set_cons_succ]
    refine wpAnyH_take (i := 15) (v := ?_) rfl (by as_aux_lemma => kernel_rfl) (by as_aux_lemma => kernel_rfl) (by as_aux_lemma => kernel_rfl) (fun _ _ _ h => h) (Or.inl ⟨by rfl, ?_⟩) hS ?_
    rotate_left
    · intro w hSw; (try dsimp only at hSw); go_simp; try with_reducible rfl
    try simp only [Act.put, List.getElem_toArray, List.getElem_cons_succ, List.getElem_cons_zero, List.setIfInBounds_toArray, List.set_cons_zero, List.set_cons_succ]
    refine wpAnyH_take (i := 16) (v := ?_) rfl (by as_aux_lemma => kernel_rfl) (by as_aux_lemma => kernel_rfl) (by as_aux_lemma => kernel_rfl) (fun _ _ _ h => h) (Or.inl ⟨by rfl, ?_⟩) hS ?_
    rotate_left
    · intro w hSw; (try dsimp only at hSw); go_simp; try with_reducible rfl
    try simp only [Act.put, List.getElem_toArray, List.getElem_cons_succ, List.getElem_cons_zero, List.setIfInBounds_toArray, List.set_cons_zero, List.set_cons_succ]
    refine wpAnyH_done (by kernel_rfl) ?_ _
    clear hS HD c0 c1 c2 f1 f2 H
    have BD := Lib.hid BB.out.drew
    have SD2 := Lib.hid (SS.out.keep (w' := w.drew) (fun b hb => rfl))
    have b0 : But (one g) w w.drew := But.of_below (Below.refl _ w).drew
    obtain ⟨wd, hwd⟩ : ∃ x, w.drew = x := ⟨_, rfl⟩
    rw [hwd] at BD SD2 b0
    rw [hwd]
    have B0 := Lib.hid b0
    have c1 := BD.out.cell 1
    have c2 := BD.out.cell 2
    have f1 := BD.out.frozen 1
    have f2 := BD.out.frozen 2
    have zd : wd.heap.size = w.heap.size := by rw [← hwd]; rfl
    rw [← zd] at SD2
    clear BB SS hwd zd b0
    by_cases he : er = 0
    rotate_left
    · rw [if_neg he] at CV
      simp only [Bool.false_eq_true, if_false] at CV
      have t1 : (er != 0) = true := by simpa using he
      go_wp2_with fail
      go_ret
      rw [CV.out]
      refine ⟨rfl, ⟨(some ⟨b, off, none⟩), n, c, L, k, by simpa using BD.out.set_ 2 (.int .i64 er), (SD2.out.but (X := X) (But.one_set wd g 2 (.int .i64 er) |>.upto hX)), hk, fun h => absurd h he, .inr ⟨_, _, rfl⟩⟩, B0.out.trans (But.one_set _ _ _ _)⟩
    · subst he
      rw [if_pos rfl] at CV
      simp only [if_true] at CV
      clear b4
      by_cases hv : most < v
      · rw [if_pos hv] at CV
        replace CV := Lib.hid (show r = (0, ([], 3)) by rw [CV.out]; rfl)
        have t1 : decide ((most : Int) < (v : Int)) = true := by simp; omega
        have t2 : decide (most < v) = true := by simp; omega
        go_wp2_with fail
        go_ret
        rw [CV.out]
        refine ⟨rfl, ⟨(some ⟨b, off, none⟩), n, c, L, k, by simpa using BD.out.set_ 2 (.int .i64 3), (SD2.out.but (X := X) (But.one_set wd g 2 (.int .i64 3) |>.upto hX)), hk, fun h => absurd h (show ¬ (3 : Int) = 0 by decide), .inr ⟨_, _, rfl⟩⟩, B0.out.trans (But.one_set _ _ _ _)⟩
      · rw [if_neg hv] at CV
        have t1 : decide ((most : Int) < (v : Int)) = false := by simp; omega
        have t2 : decide (most < v) = false := by simp; omega
        have hv' : v ≤ most := by omega
        go_wp2_with fail
        go_ret
        rw [CV.out]
        refine ⟨rfl, ⟨(some ⟨b, off, none⟩), n, c, L, k + e, by simpa using BD.out.set_ 1 (.int .i64 ((k : Int) + (e : Int))), (SD2.out.but (X := X) (But.one_set wd g 1 _ |>.upto hX)), by omega, fun _ => D1.out.symm, .inr ⟨_, _, rfl⟩⟩, B0.out.trans (But.one_set _ _ _ _)⟩

theorem rrEnd_any (X : Nat → Prop) (g : Nat) (s : List Int × Int) (w : World) (h : RrAt X w g s) :
    Calls Try.prog 34 #[.pointer (some ⟨g, 0, none⟩)] w fun e' w' => e' = .returned (.int .i64 (endV s)) ∧ Below w.heap.size w w' := by
  obtain ⟨A, n, c, L, k, hB, hs, hk, hd, hA⟩ := h.out
  have C2 := Lib.hid (fun x : Ext w => (hB.ext x).cell 2)
  have C1 := Lib.hid (fun x : Ext w => (hB.ext x).cell 1)
  have C0 := Lib.hid (fun x : Ext w => (hB.ext x).cell 0)
  obtain ⟨l, bad⟩ := s
  have EV := Lib.hid (show endV (l, bad) = if bad = 0 then (if k < n then 24 else 0) else bad by
    unfold endV
    by_cases q : bad = 0
    · rw [if_pos q, if_pos q, ← hd q, List.length_drop, hs.n_eq]
      by_cases q2 : k < n
      · rw [if_pos q2, if_pos (by omega)]
      · rw [if_neg q2, if_neg (by omega)]
    · rw [if_neg q, if_neg q])
  have hm : n ≤ 9223372036854775807 := Nat.le_trans hs.cap_le hs.max_le
  obtain ⟨r, hr⟩ : ∃ r, endV (l, bad) = r := ⟨_, rfl⟩
  rw [hr] at EV ⊢
  clear h hB hs hr hd hA
  go_enter Try.func34, Try.ntmps34
  go_wp2_with fail
  have c0 : ∀ x : Ext w, x.1.cell? ⟨g, 0, none⟩ = some (.slice A n c) := C0.out
  have c1 : ∀ x : Ext w, x.1.cell? ⟨g, 1, none⟩ = some (.int .i64 (k : Int)) := C1.out
  have c2 : ∀ x : Ext w, x.1.cell? ⟨g, 2, none⟩ = some (.int .i64 bad) := C2.out
  by_cases q : bad = 0
  · rw [if_pos q] at EV
    have t0 : (bad == 0) = true := by simp [q]
    by_cases q2 : k < n
    · rw [if_pos q2] at EV
      have t1 : decide ((k : Int) < (n : Int)) = true := by simp; omega
      have t2 : decide (k < n) = true := by simp; omega
      refine wp_region_ext w (by kernel_rfl) (by kernel_rfl) (Below.refl _ _) ?_
      repeat (go_big_quiet_step (fail))
      refine wpQuiet_nil ?_
      rintro _ ⟨⟨w3, hb⟩, rfl⟩
      go_wp2_with fail
      go_ret
      exact ⟨by rw [EV.out]; rfl, hb⟩
    · rw [if_neg q2] at EV
      have t1 : decide ((k : Int) < (n : Int)) = false := by simp; omega
      have t2 : decide (k < n) = false := by simp; omega
      refine wp_region_ext w (by kernel_rfl) (by kernel_rfl) (Below.refl _ _) ?_
      repeat (go_big_quiet_step (fail))
      refine wpQuiet_nil ?_
      rintro _ ⟨⟨w3, hb⟩, rfl⟩
      have d2 := C2.out ⟨_, hb⟩
      have Q := Lib.hid q
      clear c0 c1 c2 q
      go_wp2_with fail
      go_ret
      exact ⟨by rw [EV.out, ← Q.out]; rfl, hb⟩
  · rw [if_neg q] at EV
    have t0 : (bad == 0) = false := by simpa using q
    refine wp_region_ext w (by kernel_rfl) (by kernel_rfl) (Below.refl _ _) ?_
    repeat (go_big_quiet_step (fail))
    refine wpQuiet_nil ?_
    rintro _ ⟨⟨w3, hb⟩, rfl⟩
    have d2 := C2.out ⟨_, hb⟩
    clear c0 c1 c2
    go_wp2_with fail
    go_ret
    exact ⟨by rw [EV.out]; rfl, hb⟩
end Go.Proofs.Ytanglfmolnfjeaa
