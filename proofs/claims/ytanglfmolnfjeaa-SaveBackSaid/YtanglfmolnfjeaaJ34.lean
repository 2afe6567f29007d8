/-
  The point of some bytes (layer 37): save.Get.
  Conditions: at most 100000 bytes.
-/
import Derived.Test.YtanglfmolnfjeaaChecked
import Derived.Test.YtanglfmolnfjeaaJ26
import Derived.Test.YtanglfmolnfjeaaJ31
import Derived.Test.YtanglfmolnfjeaaJ32
import Derived.Test.YtanglfmolnfjeaaJ33
namespace Go.Proofs.Ytanglfmolnfjeaa
set_option linter.unusedVariables false
set_option linter.unusedSimpArgs false
open Go.RowKit Go.ChangeShapes Go.WideShapes
set_option maxRecDepth 100000
set_option maxHeartbeats 8000000

/-- The point of some bytes, or why there is none: as the program takes it. -/
def getV (l : List Int) : Pt × Int :=
  if l.length < 4 then (noPoint, 20)
  else if put32V (crcV (l.take (l.length - 4))).toNat = l.drop (l.length - 4) then
    (if (pointV (l.take (l.length - 4), 0) 0).2.2 = 0 then
      (if endV (pointV (l.take (l.length - 4), 0) 0).2.1 = 0 then ((pointV (l.take (l.length - 4), 0) 0).1, 0) else (noPoint, endV (pointV (l.take (l.length - 4), 0) 0).2.1))
    else (noPoint, (pointV (l.take (l.length - 4), 0) 0).2.2))
  else (noPoint, 23)

/-- A point in new memory, and an error, are handed back. -/
structure RetPt (w : World) (r : Pt × Int) (e : Ending) (w' : World) : Prop where
  out : ∃ A n c B m d, e = .returned (.tuple #[.agg (ptCells r.1 A n c B m d), .int .i64 r.2]) ∧ Sl (tInt .i8) w' (bin w.heap.size w'.heap.size) A n c r.1.input.data ∧ Sl (tInt .i8) w' (bin w.heap.size w'.heap.size) B m d r.1.value.data
  far : Below w.heap.size w w'
theorem RetPt.none {w w' : World} {e : Int} (h : Below w.heap.size w w') : RetPt w (noPoint, e) (.returned (.tuple #[.agg #[.int .i64 0, .int .i64 0, .int .i64 0, .int .i64 0, .int .i64 0, .int .i64 0, .slice none 0 0, .int .i64 0, .int .i64 0, .int .i64 0, .slice none 0 0], .int .i64 e])) w' :=
  ⟨⟨Option.none, 0, 0, Option.none, 0, 0, rfl, Sl.nil _ _ _, Sl.nil _ _ _⟩, h⟩

theorem saveGet_any (A : Option Addr) (n cap : Nat) (l : List Int) (w : World) (hs : Sl (tInt .u8) w (blo w.heap.size) A n cap l) (hn : n ≤ 100000) :
    Calls Try.prog 9 #[.slice A n cap] w (RetPt w (getV l)) := by
  have HN := Lib.hid hs.n_eq
  have GV := Lib.hid (show getV l = if n < 4 then (noPoint, 20)
  else if put32V (crcV (l.take (n - 4))).toNat = l.drop (n - 4) then
    (if (pointV (l.take (n - 4), 0) 0).2.2 = 0 then
      (if endV (pointV (l.take (n - 4), 0) 0).2.1 = 0 then ((pointV (l.take (n - 4), 0) 0).1, 0) else (noPoint, endV (pointV (l.take (n - 4), 0) 0).2.1))
    else (noPoint, (pointV (l.take (n - 4), 0) 0).2.2))
  else (noPoint, 23) by unfold getV; rw [hs.n_eq])
  obtain ⟨r, hr⟩ : ∃ r, getV l = r := ⟨_, rfl⟩
  rw [hr] at GV ⊢
  have H := Lib.hid hs
  clear hs hr
  by_cases h4 : n < 4
  · rw [if_pos h4] at GV
    have u1 : decide ((n : Int) < 4) = true := by simp; omega
    have u2 : decide (n < 4) = true := by simp; omega
    go_enter Try.func9, Try.ntmps9
    go_wp2_with (refine wpList_store_all rfl 28 (.tmp 2) (.tmp 11) rfl w.heap.size #[.int .i64 0, .int .i64 0, .int .i64 0, .int .i64 0, .int .i64 0, .int .i64 0, .slice none 0 0, .int .i64 0, .int .i64 0, .int .i64 0, .slice none 0 0] rfl rfl _ _ (Blk.now _ _ _ _ rfl) rfl (by kernel_rfl) (by simp [Value.oneCell']) ?_; intro w9 B9 g9; have FB := Lib.hid B9; have FG := Lib.hid g9; clear B9 g9)
    refine ret_cell_tmp rfl FB.out rfl Try.underlying28 (by kernel_rfl) rfl ?_
    rw [GV.out]
    exact RetPt.none (((Far.refl w).fut ((Below.refl _ _).alloc (Nat.le_refl _) _)).away FG.out (Nat.le_refl _)).out
  rw [if_neg h4] at GV
  obtain ⟨q, hqn⟩ : ∃ q, n = q + 4 := ⟨n - 4, by omega⟩
  rw [show n - 4 = q by omega] at GV
  obtain ⟨b, off, rfl, _⟩ := H.out.int_at 0 (by omega)
  have cl := H.out.cap_le
  have cm := H.out.max_le
  unfold maxLen at cm
  have hq : (n : Int) - 4 = (q : Int) := by omega
  have S0 := Lib.hid (show Sl (tInt .u8) w (blo w.heap.size) (some ⟨b, off, none⟩) q cap (l.take q) from by have := H.out.sub 0 q 0 cap rfl (by omega) (by omega) (by omega); simpa using this)
  have S1 := Lib.hid (show Sl (tInt .u8) w (blo w.heap.size) (some ⟨b, off + q, none⟩) (n - q) (cap - q) (l.drop q) from by
    have := H.out.sub q (n - q) q (cap - q) (by simp [tInt]) (by omega) (by omega) (by omega)
    rwa [List.take_of_length_le (by rw [List.length_drop, HN.out]; exact Nat.le_refl _)] at this)
  obtain ⟨bd, hbd⟩ : ∃ x, l.take q = x := ⟨_, rfl⟩
  obtain ⟨tl, htl⟩ : ∃ x, l.drop q = x := ⟨_, rfl⟩
  rw [hbd, htl] at GV
  rw [hbd] at S0
  rw [htl] at S1
  have qn1 : q ≤ n := by omega
  have qn2 : n ≤ q + 4 := by omega
  have qc : ¬ cap = q := by omega
  have qcap : q ≤ cap := by omega
  have u1 : decide ((n : Int) < 4) = false := by simp; omega
  have u2 : decide (n < 4) = false := by simp; omega
  clear hbd htl h4 hqn HN H
  go_enter Try.func9, Try.ntmps9
  go_wp2_with fail
  clear u1 u2
  obtain ⟨w1, hw1⟩ : ∃ x, w.alloc (.cells #[.int .i64 0, .int .i64 0, .int .i64 0, .int .i64 0, .int .i64 0, .int .i64 0, .slice none 0 0, .int .i64 0, .int .i64 0, .int .i64 0, .slice none 0 0] 28) = x := ⟨_, rfl⟩
  have BR := Lib.hid (show Blk w1.drew w.heap.size 28 #[.int .i64 0, .int .i64 0, .int .i64 0, .int .i64 0, .int .i64 0, .int .i64 0, .slice none 0 0, .int .i64 0, .int .i64 0, .int .i64 0, .slice none 0 0] by rw [← hw1]; exact (Blk.now _ _ _ _ rfl).drew)
  have FR := Lib.hid (show Far w w1.drew by rw [← hw1]; exact ⟨((Below.refl _ _).alloc (Nat.le_refl _) _).drew⟩)
  rw [hw1]
  clear hw1
  refine wp_region_held_drew (S := fun w' => Below w.heap.size w w') (by kernel_rfl) ?_ (fun hS => ?_)
  · exact FR.out.out
  refine wpAnyH_take (i := 0) (v := ?_) rfl (by as_aux_lemma => kernel_rfl) (by as_aux_lemma => kernel_rfl) (by as_aux_lemma => kernel_rfl) (fun _ _ _ h => h) (Or.inl ⟨by rfl, ?_⟩) hS ?_
  rotate_left
  · intro w hSw; (try dsimp only at hSw); go_simp; try with_reducible rfl
  try simp only [Act.put, List.getElem_toArray, List.getElem_cons_succ, List.getElem_cons_zero, List.setIfInBounds_toArray, List.set_cons_zero, List.set_cons_succ]
  refine wpAnyH_take (i := 1) (v := ?_) rfl (by as_aux_lemma => kernel_rfl) (by as_aux_lemma => kernel_rfl) (by as_aux_lemma => kernel_rfl) (fun _ _ _ h => h) (Or.inl ⟨by rfl, ?_⟩) hS ?_
  rotate_left
  · intro w hSw; (try dsimp only at hSw); go_simp; try with_reducible rfl
  try simp only [Act.put, List.getElem_toArray, List.getElem_cons_succ, List.getElem_cons_zero, List.setIfInBounds_toArray, List.set_cons_zero, List.set_cons_succ]
  refine wpAnyH_take (i := 2) (v := ?_) rfl (by as_aux_lemma => kernel_rfl) (by as_aux_lemma => kernel_rfl) (by as_aux_lemma => kernel_rfl) (fun _ _ _ h => h) (Or.inl ⟨by rfl, ?_⟩) hS ?_
  rotate_left
  · intro w hSw; (try dsimp only at hSw); go_simp; try with_reducible rfl
  try simp only [Act.put, List.getElem_toArray, List.getElem_cons_succ, List.getElem_cons_zero, List.setIfInBounds_toArray, List.set_cons_zero, List.set_cons_succ]
  refine wpAnyH_take (i := 5) (v := ?_) rfl (by as_aux_lemma => kernel_rfl) (by as_aux_lemma => kernel_rfl) (by as_aux_lemma => kernel_rfl) (fun _ _ _ h => h) (Or.inl ⟨by rfl, ?_⟩) hS ?_
  rotate_left
  · intro w hSw; (try dsimp only at hSw); go_simp; try with_reducible rfl
  try simp only [Act.put, List.getElem_toArray, List.getElem_cons_succ, List.getElem_cons_zero, List.setIfInBounds_toArray, List.set_cons_zero, List.set_cons_succ]
  refine wpAnyH_take (i := 6) (v := ?_) rfl (by as_aux_lemma => kernel_rfl) (by as_aux_lemma => kernel_rfl) (by as_aux_lemma => kernel_rfl) (fun _ _ _ h => h) (Or.inl ⟨by rfl, ?_⟩) hS ?_
  rotate_left
  · intro w hSw; (try dsimp only at hSw); go_simp; try with_reducible rfl
  try simp only [Act.put, List.getElem_toArray, List.getElem_cons_succ, List.getElem_cons_zero, List.setIfInBounds_toArray, List.set_cons_zero, List.set_cons_succ]
  refine wpAnyH_take (i := 7) (v := ?_) rfl (by as_aux_lemma => kernel_rfl) (by as_aux_lemma => kernel_rfl) (by as_aux_lemma => kernel_rfl) (fun _ _ _ h => h) (Or.inl ⟨by rfl, ?_⟩) hS ?_
  rotate_left
  · intro w hSw; (try dsimp only at hSw); go_simp; try with_reducible rfl
  try simp only [Act.put, List.getElem_toArray, List.getElem_cons_succ, List.getElem_cons_zero, List.setIfInBounds_toArray, List.set_cons_zero, List.set_cons_succ]
  refine wpAnyH_ready (rs := [3]) (by kernel_rfl) (by simp) ?_
  refine AllReadyH.cons rfl (fun K hK => ?_) AllReadyH.nil
  go_simp
  refine (crcOf_any _ q cap bd w1.drew (S0.out.later hS (Nat.le_refl _))).mono ?_; rintro e w2 ⟨rfl, hb⟩; replace BR := Lib.hid (BR.out.fut hb); replace FR := Lib.hid (FR.out.fut hb)
  refine hK.out _ _ ?_ (fun hS => ?_)
  · exact below_later hb hS
  clear hK K
  try simp only [Act.put, List.getElem_toArray, List.getElem_cons_succ, List.getElem_cons_zero, List.setIfInBounds_toArray, List.set_cons_zero, List.set_cons_succ]
  refine wpAnyH_ready (rs := [4]) (by kernel_rfl) (by simp) ?_
  refine AllReadyH.cons rfl (fun K hK => ?_) AllReadyH.nil
  go_simp
  refine (put32_any (crcV bd).toNat w2 (crcV bd).isLt).mono ?_; rintro e w3 ⟨A3, n3, c3, rfl, hs3, hb⟩; have S3 := Lib.hid hs3.old; replace BR := Lib.hid (BR.out.fut hb); replace FR := Lib.hid (FR.out.fut hb)
  refine hK.out _ _ ?_ (fun hS => ?_)
  · exact below_later hb hS
  clear hK K
  try simp only [Act.put, List.getElem_toArray, List.getElem_cons_succ, List.getElem_cons_zero, List.setIfInBounds_toArray, List.set_cons_zero, List.set_cons_succ]
  refine wpAnyH_ready (rs := [8]) (by kernel_rfl) (by simp) ?_
  refine AllReadyH.cons rfl (fun K hK => ?_) AllReadyH.nil
  go_simp
  refine (equalu8_any A3 _ n3 c3 _ _ _ _ w3 S3.out (S1.out.later hS (Nat.le_refl _))).mono ?_; rintro e w4 ⟨rfl, hb⟩; replace BR := Lib.hid (BR.out.fut hb); replace FR := Lib.hid (FR.out.fut hb)
  refine hK.out _ _ ?_ (fun hS => ?_)
  · exact below_later hb hS
  clear hK K
  try simp only [Act.put, List.getElem_toArray, List.getElem_cons_succ, List.getElem_cons_zero, List.setIfInBounds_toArray, List.set_cons_zero, List.set_cons_succ]
  refine wpAnyH_take (i := 9) (v := ?_) rfl (by as_aux_lemma => kernel_rfl) (by as_aux_lemma => kernel_rfl) (by as_aux_lemma => kernel_rfl) (fun _ _ _ h => h) (Or.inl ⟨by rfl, ?_⟩) hS ?_
  rotate_left
  · intro w hSw; (try dsimp only at hSw); go_simp; try with_reducible rfl
  try simp only [Act.put, List.getElem_toArray, List.getElem_cons_succ, List.getElem_cons_zero, List.setIfInBounds_toArray, List.set_cons_zero, List.set_cons_succ]
  refine wpAnyH_done (by kernel_rfl) ?_ _
  clear hS hb
  have w4lt := Lib.hid BR.out.lt
  by_cases hsum : put32V (crcV bd).toNat = tl
  rotate_left
  · rw [if_neg hsum] at GV
    have u1 : decide (put32V (crcV bd).toNat = tl) = false := decide_eq_false hsum
    rw [u1]
    clear hsum u1
    go_wp2_with (refine wpList_store_all rfl 28 (.tmp 2) (.tmp 25) rfl w.heap.size #[.int .i64 0, .int .i64 0, .int .i64 0, .int .i64 0, .int .i64 0, .int .i64 0, .slice none 0 0, .int .i64 0, .int .i64 0, .int .i64 0, .slice none 0 0] rfl rfl _ _ BR.out rfl (by kernel_rfl) (by simp [Value.oneCell']) ?_; intro w9 B9 g9; have FB := Lib.hid B9; have FG := Lib.hid g9; clear B9 g9)
    refine ret_cell_tmp rfl FB.out rfl Try.underlying28 (by kernel_rfl) rfl ?_
    rw [GV.out]
    exact RetPt.none (FR.out.away FG.out (Nat.le_refl _)).out
  rw [if_pos hsum] at GV
  have u1 : decide (put32V (crcV bd).toNat = tl) = true := decide_eq_true hsum
  rw [u1]
  clear hsum u1
  obtain ⟨⟨pt, s2, tb⟩, hpv⟩ : ∃ x, pointV (bd, 0) 0 = x := ⟨_, rfl⟩
  rw [hpv] at GV
  simp only at GV
  have PE := Lib.hid hpv
  clear hpv
  go_wp2_with fail
  refine (rdRead_any _ q cap bd w4 (S0.out.later FR.out.out (Nat.le_refl _)) (by omega)).mono ?_
  rintro e w5 ⟨g, rfl, hg, hr, hb⟩
  replace BR := Lib.hid (BR.out.fut hb)
  replace FR := Lib.hid (FR.out.fut hb)
  have z4 := FR.out.size
  have lg := hr.lt
  have RD := Lib.hid hr
  have zw : w.heap.size < w4.heap.size := w4lt.out
  clear hr hb
  go_wp2_with fail
  obtain ⟨w6, hw6⟩ : ∃ x, w5.alloc (.cells #[.pointer (some ⟨g, 0, none⟩), .int .i64 0] 62) = x := ⟨_, rfl⟩
  have kb : Below w5.heap.size w5 w6 := by rw [← hw6]; exact (Below.refl _ _).alloc (Nat.le_refl _) _
  have BT := Lib.hid (show Blk w6 w5.heap.size 62 #[.pointer (some ⟨g, 0, none⟩), .int .i64 0] by rw [← hw6]; exact Blk.now _ _ _ _ rfl)
  rw [hw6]
  clear hw6
  have TK := Lib.hid (show TkAt (fun x => (x < w4.heap.size ∨ x = g) ∨ w5.heap.size ≤ x) w6 w5.heap.size g (bd, 0) 0 from ⟨BT.out, RD.out.grow kb, .inl (.inr rfl), .inr (Nat.le_refl _), by omega⟩)
  replace BR := Lib.hid (BR.out.fut kb)
  replace FR := Lib.hid (FR.out.fut kb)
  obtain ⟨t, ht⟩ : ∃ t, w5.heap.size = t := ⟨_, rfl⟩
  rw [ht] at TK lg BT
  rw [ht]
  have lt : w.heap.size < t := by omega
  have lg2 : w.heap.size < g := by omega
  clear RD BT kb ht
  refine (takepoint_any _ t g (bd, 0) 0 w6 TK.out).mono ?_
  rw [PE.out]
  rintro e w7 ⟨⟨A, n', c, B, m, d, rfl, hs, hs'⟩, tk, bt⟩
  have lr := BR.out.lt
  have HS := Lib.hid (show Sl (tInt .i8) w7 (fun x => w.heap.size < x ∧ x < w7.heap.size) A n' c pt.input.data from hs.more (fun q hq => ⟨Nat.lt_of_lt_of_le lr hq.1, hq.2⟩))
  have HV := Lib.hid (show Sl (tInt .i8) w7 (fun x => w.heap.size < x ∧ x < w7.heap.size) B m d pt.value.data from hs'.more (fun q hq => ⟨Nat.lt_of_lt_of_le lr hq.1, hq.2⟩))
  replace TK := Lib.hid tk
  replace FR := Lib.hid (bt.since FR.out (fun k hk => by rcases hk with rfl | rfl <;> omega))
  replace BR := Lib.hid (BR.out.but bt (show ¬ (w.heap.size = g ∨ w.heap.size = t) by omega))
  have zb := BR.out.lt
  clear hs hs' tk bt PE
  unfold ptCells
  by_cases htb : tb = 0
  rotate_left
  · rw [if_neg htb] at GV
    have u1 : (tb != 0) = true := by simpa using htb
    clear htb
    go_wp2_with (refine wpList_store_all rfl 28 (.tmp 6) (.tmp 33) rfl w7.heap.size #[.int .i64 pt.model, .int .i64 pt.block, .int .i64 pt.spent, .int .i64 pt.input.h, .int .i64 pt.input.v, .int .i64 pt.input.c, .slice A n' c, .int .i64 pt.value.h, .int .i64 pt.value.v, .int .i64 pt.value.c, .slice B m d] rfl rfl _ _ (Blk.now _ _ _ _ rfl) rfl (by kernel_rfl) (by simp [Value.oneCell']) ?_; intro w8 B8 g8; have BP := Lib.hid B8; have G8 := Lib.hid (show Below w7.heap.size w7 w8 from ((Below.refl _ _).alloc (Nat.le_refl _) _).grown g8 (by simp) (fun k h => by have := Option.some.inj h; omega)); clear B8 g8; have c0 : w8.cell? ⟨t, 0, none⟩ = some (.pointer (some ⟨g, 0, none⟩)) := (TK.out.blk.later G8.out).cell 0; have c1 : w8.cell? ⟨t, 1, none⟩ = some (.int .i64 tb) := (TK.out.blk.later G8.out).cell 1)
    replace TK := Lib.hid (TK.out.later G8.out)
    replace FR := Lib.hid (FR.out.fut G8.out)
    replace BR := Lib.hid (BR.out.fut G8.out)
    replace HS := Lib.hid (HS.out.over (But.of_below (X := fun _ => False) G8.out) (fun _ h => h.elim))
    replace HV := Lib.hid (HV.out.over (But.of_below (X := fun _ => False) G8.out) (fun _ h => h.elim))
    clear G8
    clear c0
    refine wp_region_held_drew (S := fun w' => w'.cell? ⟨t, 1, none⟩ = some (.int .i64 tb) ∧ True) (by kernel_rfl) ?_ (fun hS => ?_)
    · exact ⟨c1, trivial⟩
    refine wpAnyH_take (i := 0) (v := ?_) rfl (by as_aux_lemma => kernel_rfl) (by as_aux_lemma => kernel_rfl) (by as_aux_lemma => kernel_rfl) (fun _ _ _ h => h) (Or.inl ⟨by rfl, ?_⟩) hS ?_
    rotate_left
    · intro w hSw; (try dsimp only at hSw); go_simp; try with_reducible rfl
    try simp only [Act.put, List.getElem_toArray, List.getElem_cons_succ, List.getElem_cons_zero, List.setIfInBounds_toArray, List.set_cons_zero, List.set_cons_succ]
    refine wpAnyH_take (i := 1) (v := ?_) rfl (by as_aux_lemma => kernel_rfl) (by as_aux_lemma => kernel_rfl) (by as_aux_lemma => kernel_rfl) (fun _ _ _ h => h) (Or.inl ⟨by rfl, ?_⟩) hS ?_
    rotate_left
    · intro w hSw; (try dsimp only at hSw); go_simp; try with_reducible rfl
    try simp only [Act.put, List.getElem_toArray, List.getElem_cons_succ, List.getElem_cons_zero, List.setIfInBounds_toArray, List.set_cons_zero, List.set_cons_succ]
    refine wpAnyH_take (i := 2) (v := ?_) rfl (by as_aux_lemma => kernel_rfl) (by as_aux_lemma => kernel_rfl) (by as_aux_lemma => kernel_rfl) (fun _ _ _ h => h) (Or.inl ⟨by rfl, ?_⟩) hS ?_
    rotate_left
    · intro w hSw; (try dsimp only at hSw); go_simp; try with_reducible rfl
    try simp only [Act.put, List.getElem_toArray, List.getElem_cons_succ, List.getElem_cons_zero, List.setIfInBounds_toArray, List.set_cons_zero, List.set_cons_succ]
    refine wpAnyH_take (i := 3) (v := ?_) rfl (by as_aux_lemma => kernel_rfl) (by as_aux_lemma => kernel_rfl) (by as_aux_lemma => kernel_rfl) (fun _ _ _ h => h) (Or.inl ⟨by rfl, ?_⟩) hS ?_
    rotate_left
    · intro w hSw; (try dsimp only at hSw); go_simp; try with_reducible rfl
    try simp only [Act.put, List.getElem_toArray, List.getElem_cons_succ, List.getElem_cons_zero, List.setIfInBounds_toArray, List.set_cons_zero, List.set_cons_succ]
    refine wpAnyH_take (i := 4) (v := ?_) rfl (by as_aux_lemma => kernel_rfl) (by as_aux_lemma => kernel_rfl) (by as_aux_lemma => kernel_rfl) (fun _ _ _ h => h) (Or.inl ⟨by rfl, ?_⟩) hS ?_
    rotate_left
    · intro w hSw; (try dsimp only at hSw); go_simp; try with_reducible rfl
    try simp only [Act.put, List.getElem_toArray, List.getElem_cons_succ, List.getElem_cons_zero, List.setIfInBounds_toArray, List.set_cons_zero, List.set_cons_succ]
    refine wpAnyH_ready (rs := [5]) (by kernel_rfl) (by simp) ?_
    refine AllReadyH.cons rfl (fun K hK => ?_) AllReadyH.nil
    (rw [if_pos (by rfl)]; refine oper_store_blk 28 (.tmp 2) (.tmp 39) rfl w.heap.size 0 #[.int .i64 0, .int .i64 0, .int .i64 0, .int .i64 0, .int .i64 0, .int .i64 0, .slice none 0 0, .int .i64 0, .int .i64 0, .int .i64 0, .slice none 0 0] rfl rfl _ #[.int .i64 0, .int .i64 0, .int .i64 0, .int .i64 0, .int .i64 0, .int .i64 0, .slice none 0 0, .int .i64 0, .int .i64 0, .int .i64 0, .slice none 0 0] #[.int .i64 0, .int .i64 0, .int .i64 0, .int .i64 0, .int .i64 0, .int .i64 0, .slice none 0 0, .int .i64 0, .int .i64 0, .int .i64 0, .slice none 0 0] BR.out.drew (by simp) (by kernel_rfl) (by simp [Value.oneCell']) rfl ?_; intro w9 B9 g9; have FB := Lib.hid B9; have FG := Lib.hid g9; have TK2 := Lib.hid (TK.out.blk.drew.row g9 (by intro e; have := Option.some.inj e; omega)); refine hK.out _ _ ⟨TK2.out.cell 1, trivial⟩ (fun hS => ?_); clear B9 g9)
    clear hK K
    try simp only [Act.put, List.getElem_toArray, List.getElem_cons_succ, List.getElem_cons_zero, List.setIfInBounds_toArray, List.set_cons_zero, List.set_cons_succ]
    refine wpAnyH_take (i := 6) (v := ?_) rfl (by as_aux_lemma => kernel_rfl) (by as_aux_lemma => kernel_rfl) (by as_aux_lemma => kernel_rfl) (fun _ _ _ h => h) (Or.inl ⟨by rfl, ?_⟩) hS ?_
    rotate_left
    · intro w hSw; (try dsimp only at hSw); go_simp; try with_reducible rfl
    try simp only [Act.put, List.getElem_toArray, List.getElem_cons_succ, List.getElem_cons_zero, List.setIfInBounds_toArray, List.set_cons_zero, List.set_cons_succ]
    refine wpAnyH_done (by kernel_rfl) ?_ _
    clear hS
    go_wp2_with fail
    refine ret_cell_tmp rfl FB.out rfl Try.underlying28 (by kernel_rfl) rfl ?_
    rw [GV.out]
    exact RetPt.none ((FR.out.fut (Below.refl _ w8).drew).away FG.out (Nat.le_refl _)).out
  · subst htb
    rw [if_pos rfl] at GV
    go_wp2_with (refine wpList_store_all rfl 28 (.tmp 6) (.tmp 33) rfl w7.heap.size #[.int .i64 pt.model, .int .i64 pt.block, .int .i64 pt.spent, .int .i64 pt.input.h, .int .i64 pt.input.v, .int .i64 pt.input.c, .slice A n' c, .int .i64 pt.value.h, .int .i64 pt.value.v, .int .i64 pt.value.c, .slice B m d] rfl rfl _ _ (Blk.now _ _ _ _ rfl) rfl (by kernel_rfl) (by simp [Value.oneCell']) ?_; intro w8 B8 g8; have BP := Lib.hid B8; have G8 := Lib.hid (show Below w7.heap.size w7 w8 from ((Below.refl _ _).alloc (Nat.le_refl _) _).grown g8 (by simp) (fun k h => by have := Option.some.inj h; omega)); clear B8 g8; have c0 : w8.cell? ⟨t, 0, none⟩ = some (.pointer (some ⟨g, 0, none⟩)) := (TK.out.blk.later G8.out).cell 0; have c1 : w8.cell? ⟨t, 1, none⟩ = some (.int .i64 0) := (TK.out.blk.later G8.out).cell 1)
    replace TK := Lib.hid (TK.out.later G8.out)
    replace FR := Lib.hid (FR.out.fut G8.out)
    replace BR := Lib.hid (BR.out.fut G8.out)
    replace HS := Lib.hid (HS.out.over (But.of_below (X := fun _ => False) G8.out) (fun _ h => h.elim))
    replace HV := Lib.hid (HV.out.over (But.of_below (X := fun _ => False) G8.out) (fun _ h => h.elim))
    clear G8
    clear c1
    refine (rdEnd_any _ g s2 _ TK.out.rd).mono ?_
    rintro e w' ⟨rfl, rfl⟩
    obtain ⟨ev, hev⟩ : ∃ x, endV s2 = x := ⟨_, rfl⟩
    rw [hev] at GV
    rw [hev]
    clear hev c0
    by_cases h0 : ev = 0
    rotate_left
    · rw [if_neg h0] at GV
      have u1 : (ev != 0) = true := by simpa using h0
      clear h0
      go_wp2_with (refine wpList_store_all rfl 28 (.tmp 2) (.tmp 51) rfl w.heap.size #[.int .i64 0, .int .i64 0, .int .i64 0, .int .i64 0, .int .i64 0, .int .i64 0, .slice none 0 0, .int .i64 0, .int .i64 0, .int .i64 0, .slice none 0 0] rfl rfl _ _ BR.out rfl (by kernel_rfl) (by simp [Value.oneCell']) ?_; intro w9 B9 g9; have FB := Lib.hid B9; have FG := Lib.hid g9; clear B9 g9)
      refine ret_cell_tmp rfl FB.out rfl Try.underlying28 (by kernel_rfl) rfl ?_
      rw [GV.out]
      exact RetPt.none (FR.out.away FG.out (Nat.le_refl _)).out
    · subst h0
      rw [if_pos rfl] at GV
      go_wp2_with (first | (refine wpList_load_row rfl 28 (.tmp 6) rfl w7.heap.size rfl _ _ (0, 0) _ BP.out.heap Try.underlying28 rfl (by kernel_rfl) ?_) | (refine wpList_store_all rfl 28 (.tmp 2) (.tmp 53) rfl w.heap.size #[.int .i64 pt.model, .int .i64 pt.block, .int .i64 pt.spent, .int .i64 pt.input.h, .int .i64 pt.input.v, .int .i64 pt.input.c, .slice A n' c, .int .i64 pt.value.h, .int .i64 pt.value.v, .int .i64 pt.value.c, .slice B m d] rfl rfl _ _ BR.out rfl (by kernel_rfl) (by simp [Value.oneCell']) ?_; intro w9 B9 g9; have FB := Lib.hid B9; have FG := Lib.hid g9; clear B9 g9))
      refine ret_cell_tmp rfl FB.out rfl Try.underlying28 (by kernel_rfl) rfl ?_
      rw [GV.out]
      have bw : But (one w.heap.size) _ w9 := But.of_grown FG.out rfl
      exact ⟨⟨A, n', c, B, m, d, rfl, (HS.out.over bw (fun q e => Nat.le_of_eq e)).more (fun q hq => ⟨Nat.le_of_lt hq.1, hq.2⟩), (HV.out.over bw (fun q e => Nat.le_of_eq e)).more (fun q hq => ⟨Nat.le_of_lt hq.1, hq.2⟩)⟩, (FR.out.away FG.out (Nat.le_refl _)).out⟩
end Go.Proofs.Ytanglfmolnfjeaa
