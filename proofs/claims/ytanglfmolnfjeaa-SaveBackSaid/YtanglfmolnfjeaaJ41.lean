/-
  The point of some bytes (layer 37): the document's Get.
  Conditions: at most 100000 bytes.
-/
import Derived.Test.YtanglfmolnfjeaaChecked
import Derived.Test.YtanglfmolnfjeaaJ34
import Derived.Test.YtanglfmolnfjeaaJ38
import Derived.Test.YtanglfmolnfjeaaJ40
namespace Go.Proofs.Ytanglfmolnfjeaa
set_option linter.unusedVariables false
set_option linter.unusedSimpArgs false
open Go.RowKit Go.ChangeShapes Go.WideShapes
set_option maxRecDepth 100000
set_option maxHeartbeats 16000000

/-- The point of a body, or why there is none: as the document takes it. -/
def rendV (p : Pt) (s : List Int × Int) : Pt × Int := if endV s = 0 then (p, 0) else (noPoint, endV s)
def rbodyV (b : List Int) : Pt × Int :=
  let c1 := cntV 3 (b, 0)
  let c2 := cntV 6 c1.2
  let c3 := cntV 1099511627776 c2.2
  if c3.2.2 = 0 then
    let t := takenV c3.2
    if t.1.2 = 0 then
      let k := cntV 1 t.2
      if k.2.2 = 0 then
        if k.1 = 1 then
          let u := takenV k.2
          if u.1.2 = 0 then
            if likeT t.1.1 u.1.1 = true then (noPoint, 21) else rendV ⟨(c1.1 : Int), (c2.1 : Int), (c3.1 : Int), t.1.1, u.1.1⟩ u.2
          else (noPoint, u.1.2)
        else rendV ⟨(c1.1 : Int), (c2.1 : Int), (c3.1 : Int), t.1.1, t.1.1⟩ k.2
      else (noPoint, k.2.2)
    else (noPoint, t.1.2)
  else (noPoint, c3.2.2)
/-- The point of some bytes, or why there is none: as the document takes it. -/
def rgetV (l : List Int) : Pt × Int :=
  if l.length < 4 then (noPoint, 20) else if put32V (crcV (l.take (l.length - 4))).toNat = l.drop (l.length - 4) then rbodyV (l.take (l.length - 4)) else (noPoint, 23)

/-- A row whose blocks lie within bounds. -/
structure Dat (lo hi : Nat) (w : World) (A : Option Addr) (n c : Nat) (l : List Int) : Prop where
  sl : Sl (tInt .i8) w (bin lo hi) A n c l
  hz : hi ≤ w.heap.size
theorem Dat.later {lo hi : Nat} {w w' : World} {A : Option Addr} {n c : Nat} {l : List Int} (h : Dat lo hi w A n c l) (hb : Below w.heap.size w w') : Dat lo hi w' A n c l := ⟨h.sl.below hb (fun q hq => Nat.lt_of_lt_of_le hq.2 h.hz), Nat.le_trans h.hz hb.size⟩
theorem Dat.but {Y : Nat → Prop} {lo hi : Nat} {w w' : World} {A : Option Addr} {n c : Nat} {l : List Int} (h : Dat lo hi w A n c l) (b : But Y w w') (hY : ∀ q, Y q → q < lo ∨ hi ≤ q) : Dat lo hi w' A n c l :=
  ⟨h.sl.but' b (fun q hq => ⟨Nat.lt_of_lt_of_le hq.2 h.hz, fun e => by have h1 := hY q e; have h2 : lo ≤ q := hq.1; have h3 : q < hi := hq.2; omega⟩), Nat.le_trans h.hz b.size⟩
theorem RrAt.c2 {X : Nat → Prop} {w : World} {g : Nat} {l : List Int} {b : Int} (h : RrAt X w g (l, b)) : w.cell? ⟨g, 2, none⟩ = some (.int .i64 b) := h.bad

theorem rGet37_any (A : Option Addr) (n cap : Nat) (l : List Int) (w : World) (hs : Sl (tInt .u8) w (blo w.heap.size) A n cap l) (hn : n ≤ 100000) :
    Calls Try.prog 11 #[.slice A n cap] w (RetPt w (rgetV l)) := by
  have HN := Lib.hid hs.n_eq
  have GV := Lib.hid (show rgetV l = if n < 4 then (noPoint, 20) else if put32V (crcV (l.take (n - 4))).toNat = l.drop (n - 4) then rbodyV (l.take (n - 4)) else (noPoint, 23) by unfold rgetV; rw [hs.n_eq])
  obtain ⟨r, hr⟩ : ∃ r, rgetV l = r := ⟨_, rfl⟩
  rw [hr] at GV ⊢
  have H := Lib.hid hs
  clear hs hr
  by_cases h4 : n < 4
  · rw [if_pos h4] at GV
    have u1 : decide ((n : Int) < 4) = true := by simp; omega
    have u2 : decide (n < 4) = true := by simp; omega
    go_enter Try.func11, Try.ntmps11
    go_wp2_with (refine wpList_store_all rfl 36 (.tmp 2) (.tmp 15) rfl w.heap.size #[.int .i64 0, .int .i64 0, .int .i64 0, .int .i64 0, .int .i64 0, .int .i64 0, .slice none 0 0, .int .i64 0, .int .i64 0, .int .i64 0, .slice none 0 0] rfl rfl _ _ (Blk.now _ _ _ _ rfl) rfl (by kernel_rfl) (by simp [Value.oneCell']) ?_; intro w9 B9 g9; have FB := Lib.hid B9; have FG := Lib.hid g9; clear B9 g9)
    refine ret_cell_tmp rfl FB.out rfl Try.underlying36 (by kernel_rfl) rfl ?_
    rw [GV.out]
    exact RetPt.none (((Far.refl w).fut ((Below.refl _ _).alloc (Nat.le_refl _) _)).away FG.out (Nat.le_refl _)).out
  rw [if_neg h4] at GV
  obtain ⟨q, hqn⟩ : ∃ q, n = q + 4 := ⟨n - 4, by omega⟩
  rw [show n - 4 = q by omega] at GV
  obtain ⟨b, off, rfl, _⟩ := H.out.int_at 0 (by omega)
  have cl := H.out.cap_le
  have cm := H.out.max_le
  unfold maxLen at cm
  have hq : (n : Int) - 4 = (q : Int) := by omega
  have S0 := Lib.hid (show Sl (tInt .u8) w (blo w.heap.size) (some ⟨b, off, none⟩) q cap (l.take q) from by have := H.out.sub 0 q 0 cap rfl (by omega) (by omega) (by omega); simpa using this)
  have S1 := Lib.hid (show Sl (tInt .u8) w (blo w.heap.size) (some ⟨b, off + q, none⟩) (n - q) (cap - q) (l.drop q) from by
    have := H.out.sub q (n - q) q (cap - q) (by simp [tInt]) (by omega) (by omega) (by omega)
    rwa [List.take_of_length_le (by rw [List.length_drop, HN.out]; exact Nat.le_refl _)] at this)
  obtain ⟨bd, hbd⟩ : ∃ x, l.take q = x := ⟨_, rfl⟩
  obtain ⟨tl, htl⟩ : ∃ x, l.drop q = x := ⟨_, rfl⟩
  rw [hbd, htl] at GV
  rw [hbd] at S0
  rw [htl] at S1
  have qn1 : q ≤ n := by omega
  have qn2 : n ≤ q + 4 := by omega
  have qc : ¬ cap = q := by omega
  have qcap : q ≤ cap := by omega
  have u1 : decide ((n : Int) < 4) = false := by simp; omega
  have u2 : decide (n < 4) = false := by simp; omega
  clear hbd htl h4 hqn HN H
  go_enter Try.func11, Try.ntmps11
  go_wp2_with fail
  clear u1 u2
  obtain ⟨w1, hw1⟩ : ∃ x, w.alloc (.cells #[.int .i64 0, .int .i64 0, .int .i64 0, .int .i64 0, .int .i64 0, .int .i64 0, .slice none 0 0, .int .i64 0, .int .i64 0, .int .i64 0, .slice none 0 0] 36) = x := ⟨_, rfl⟩
  have BR := Lib.hid (show Blk w1.drew w.heap.size 36 #[.int .i64 0, .int .i64 0, .int .i64 0, .int .i64 0, .int .i64 0, .int .i64 0, .slice none 0 0, .int .i64 0, .int .i64 0, .int .i64 0, .slice none 0 0] by rw [← hw1]; exact (Blk.now _ _ _ _ rfl).drew)
  have FR := Lib.hid (show Far w w1.drew by rw [← hw1]; exact ⟨((Below.refl _ _).alloc (Nat.le_refl _) _).drew⟩)
  rw [hw1]
  clear hw1
  refine wp_region_held_drew (S := fun w' => Below w.heap.size w w') (by kernel_rfl) ?_ (fun hS => ?_)
  · exact FR.out.out
  refine wpAnyH_take (i := 0) (v := ?_) rfl (by as_aux_lemma => kernel_rfl) (by as_aux_lemma => kernel_rfl) (by as_aux_lemma => kernel_rfl) (fun _ _ _ h => h) (Or.inl ⟨by rfl, ?_⟩) hS ?_
  rotate_left
  · intro w hSw; (try dsimp only at hSw); go_simp; try with_reducible rfl
  try simp only [Act.put, List.getElem_toArray, List.getElem_cons_succ, List.getElem_cons_zero, List.setIfInBounds_toArray, List.set_cons_zero, List.set_cons_succ]
  refine wpAnyH_take (i := 1) (v := ?_) rfl (by as_aux_lemma => kernel_rfl) (by as_aux_lemma => kernel_rfl) (by as_aux_lemma => kernel_rfl) (fun _ _ _ h => h) (Or.inl ⟨by rfl, ?_⟩) hS ?_
  rotate_left
  · intro w hSw; (try dsimp only at hSw); go_simp; try with_reducible rfl
  try simp only [Act.put, List.getElem_toArray, List.getElem_cons_succ, List.getElem_cons_zero, List.setIfInBounds_toArray, List.set_cons_zero, List.set_cons_succ]
  refine wpAnyH_take (i := 2) (v := ?_) rfl (by as_aux_lemma => kernel_rfl) (by as_aux_lemma => kernel_rfl) (by as_aux_lemma => kernel_rfl) (fun _ _ _ h => h) (Or.inl ⟨by rfl, ?_⟩) hS ?_
  rotate_left
  · intro w hSw; (try dsimp only at hSw); go_simp; try with_reducible rfl
  try simp only [Act.put, List.getElem_toArray, List.getElem_cons_succ, List.getElem_cons_zero, List.setIfInBounds_toArray, List.set_cons_zero, List.set_cons_succ]
  refine wpAnyH_take (i := 5) (v := ?_) rfl (by as_aux_lemma => kernel_rfl) (by as_aux_lemma => kernel_rfl) (by as_aux_lemma => kernel_rfl) (fun _ _ _ h => h) (Or.inl ⟨by rfl, ?_⟩) hS ?_
  rotate_left
  · intro w hSw; (try dsimp only at hSw); go_simp; try with_reducible rfl
  try simp only [Act.put, List.getElem_toArray, List.getElem_cons_succ, List.getElem_cons_zero, List.setIfInBounds_toArray, List.set_cons_zero, List.set_cons_succ]
  refine wpAnyH_take (i := 6) (v := ?_) rfl (by as_aux_lemma => kernel_rfl) (by as_aux_lemma => kernel_rfl) (by as_aux_lemma => kernel_rfl) (fun _ _ _ h => h) (Or.inl ⟨by rfl, ?_⟩) hS ?_
  rotate_left
  · intro w hSw; (try dsimp only at hSw); go_simp; try with_reducible rfl
  try simp only [Act.put, List.getElem_toArray, List.getElem_cons_succ, List.getElem_cons_zero, List.setIfInBounds_toArray, List.set_cons_zero, List.set_cons_succ]
  refine wpAnyH_take (i := 7) (v := ?_) rfl (by as_aux_lemma => kernel_rfl) (by as_aux_lemma => kernel_rfl) (by as_aux_lemma => kernel_rfl) (fun _ _ _ h => h) (Or.inl ⟨by rfl, ?_⟩) hS ?_
  rotate_left
  · intro w hSw; (try dsimp only at hSw); go_simp; try with_reducible rfl
  try simp only [Act.put, List.getElem_toArray, List.getElem_cons_succ, List.getElem_cons_zero, List.setIfInBounds_toArray, List.set_cons_zero, List.set_cons_succ]
  refine wpAnyH_ready (rs := [3]) (by kernel_rfl) (by simp) ?_
  refine AllReadyH.cons rfl (fun K hK => ?_) AllReadyH.nil
  go_simp
  refine (rcrcOf_any _ q cap bd w1.drew (S0.out.later hS (Nat.le_refl _))).mono ?_; rintro e w2 ⟨rfl, rfl⟩; have hb := Below.refl w1.drew.heap.size w1.drew; replace BR := Lib.hid (BR.out.fut hb); replace FR := Lib.hid (FR.out.fut hb)
  refine hK.out _ _ ?_ (fun hS => ?_)
  · exact below_later hb hS
  clear hK K
  try simp only [Act.put, List.getElem_toArray, List.getElem_cons_succ, List.getElem_cons_zero, List.setIfInBounds_toArray, List.set_cons_zero, List.set_cons_succ]
  refine wpAnyH_ready (rs := [4]) (by kernel_rfl) (by simp) ?_
  refine AllReadyH.cons rfl (fun K hK => ?_) AllReadyH.nil
  go_simp
  refine (rput32_any (crcV bd).toNat w1.drew (crcV bd).isLt).mono ?_; rintro e w3 ⟨A3, n3, c3, rfl, hs3, hb⟩; have S3 := Lib.hid hs3.old; replace BR := Lib.hid (BR.out.fut hb); replace FR := Lib.hid (FR.out.fut hb)
  refine hK.out _ _ ?_ (fun hS => ?_)
  · exact below_later hb hS
  clear hK K
  try simp only [Act.put, List.getElem_toArray, List.getElem_cons_succ, List.getElem_cons_zero, List.setIfInBounds_toArray, List.set_cons_zero, List.set_cons_succ]
  refine wpAnyH_ready (rs := [8]) (by kernel_rfl) (by simp) ?_
  refine AllReadyH.cons rfl (fun K hK => ?_) AllReadyH.nil
  go_simp
  refine (same06_any A3 _ n3 c3 _ _ _ _ w3 S3.out (S1.out.later hS (Nat.le_refl _))).mono ?_; rintro e w4 ⟨rfl, hb⟩; replace BR := Lib.hid (BR.out.fut hb); replace FR := Lib.hid (FR.out.fut hb)
  refine hK.out _ _ ?_ (fun hS => ?_)
  · exact below_later hb hS
  clear hK K
  try simp only [Act.put, List.getElem_toArray, List.getElem_cons_succ, List.getElem_cons_zero, List.setIfInBounds_toArray, List.set_cons_zero, List.set_cons_succ]
  refine wpAnyH_take (i := 9) (v := ?_) rfl (by as_aux_lemma => kernel_rfl) (by as_aux_lemma => kernel_rfl) (by as_aux_lemma => kernel_rfl) (fun _ _ _ h => h) (Or.inl ⟨by rfl, ?_⟩) hS ?_
  rotate_left
  · intro w hSw; (try dsimp only at hSw); go_simp; try with_reducible rfl
  try simp only [Act.put, List.getElem_toArray, List.getElem_cons_succ, List.getElem_cons_zero, List.setIfInBounds_toArray, List.set_cons_zero, List.set_cons_succ]
  refine wpAnyH_done (by kernel_rfl) ?_ _
  clear hS hb
  have w4lt := Lib.hid BR.out.lt
  by_cases hsum : put32V (crcV bd).toNat = tl
  rotate_left
  · rw [if_neg hsum] at GV
    have u1 : decide (put32V (crcV bd).toNat = tl) = false := decide_eq_false hsum
    rw [u1]
    clear hsum u1
    go_wp2_with (refine wpList_store_all rfl 36 (.tmp 2) (.tmp 29) rfl w.heap.size #[.int .i64 0, .int .i64 0, .int .i64 0, .int .i64 0, .int .i64 0, .int .i64 0, .slice none 0 0, .int .i64 0, .int .i64 0, .int .i64 0, .slice none 0 0] rfl rfl _ _ BR.out rfl (by kernel_rfl) (by simp [Value.oneCell']) ?_; intro w9 B9 g9; have FB := Lib.hid B9; have FG := Lib.hid g9; clear B9 g9)
    refine ret_cell_tmp rfl FB.out rfl Try.underlying36 (by kernel_rfl) rfl ?_
    rw [GV.out]
    exact RetPt.none (FR.out.away FG.out (Nat.le_refl _)).out
  rw [if_pos hsum] at GV
  have u1 : decide (put32V (crcV bd).toNat = tl) = true := decide_eq_true hsum
  rw [u1]
  clear hsum u1
  have hu1 : True := trivial
  obtain ⟨⟨a1, s1⟩, e1⟩ : ∃ x, cntV 3 (bd, 0) = x := ⟨_, rfl⟩
  obtain ⟨⟨a2, s2⟩, e2⟩ : ∃ x, cntV 6 s1 = x := ⟨_, rfl⟩
  obtain ⟨⟨a3, ⟨l3, b3⟩⟩, e3⟩ : ∃ x, cntV 1099511627776 s2 = x := ⟨_, rfl⟩
  obtain ⟨⟨⟨t1, te⟩, s4⟩, e4⟩ : ∃ x, takenV (l3, b3) = x := ⟨_, rfl⟩
  obtain ⟨⟨ak, ⟨l5, b5⟩⟩, e5⟩ : ∃ x, cntV 1 s4 = x := ⟨_, rfl⟩
  obtain ⟨⟨⟨t2, ue⟩, s6⟩, e6⟩ : ∃ x, takenV (l5, b5) = x := ⟨_, rfl⟩
  have BV := Lib.hid (show rbodyV bd = if b3 = 0 then (if te = 0 then (if b5 = 0 then (if ak = 1 then (if ue = 0 then (if likeT t1 t2 = true then (noPoint, 21) else rendV ⟨(a1 : Int), (a2 : Int), (a3 : Int), t1, t2⟩ s6) else (noPoint, ue)) else rendV ⟨(a1 : Int), (a2 : Int), (a3 : Int), t1, t1⟩ (l5, b5)) else (noPoint, b5)) else (noPoint, te)) else (noPoint, b3) by
    unfold rbodyV; simp only [e1, e2, e3, e4, e5, e6])
  rw [BV.out] at GV
  have E4 := Lib.hid e4
  have E6 := Lib.hid e6
  have CN1 := Lib.hid (fun g => rrCount_eq (X := fun x => w.heap.size ≤ x) (g := g) e1 (by omega))
  have CN2 := Lib.hid (fun g => rrCount_eq (X := fun x => w.heap.size ≤ x) (g := g) e2 (by omega))
  have CN3 := Lib.hid (fun g => rrCount_eq (X := fun x => w.heap.size ≤ x) (g := g) e3 (by omega))
  have CN5 := Lib.hid (fun g => rrCount_eq (X := fun x => w.heap.size ≤ x) (g := g) e5 (by omega))
  have lk : ak ≤ 1 := by have := cntV_le 1 s4; rw [e5] at this; exact this
  clear e1 e2 e3 e4 e5 e6 BV hu1
  have S04 := Lib.hid (show Sl (tInt .u8) w4 (blo w.heap.size) (some ⟨b, off, none⟩) q cap bd from S0.out.below FR.out.out (fun _ h => h))
  go_wp2_with fail
  obtain ⟨w5, hw5⟩ : ∃ x, w4.alloc (.cells #[.slice (some ⟨b, off, none⟩) q cap, .int .i64 0, .int .i64 0] 67) = x := ⟨_, rfl⟩
  have kb : Below w4.heap.size w4 w5 := by rw [← hw5]; exact (Below.refl _ _).alloc (Nat.le_refl _) _
  have BG := Lib.hid (show Blk w5 w4.heap.size 67 #[.slice (some ⟨b, off, none⟩) q cap, .int .i64 0, .int .i64 0] by rw [← hw5]; exact Blk.now _ _ _ _ rfl)
  rw [hw5]
  clear hw5
  have zg : w.heap.size < w4.heap.size := BR.out.lt
  have RD := Lib.hid (show RrAt (fun x => w.heap.size ≤ x) w5 w4.heap.size (bd, 0) from ⟨_, _, _, bd, 0, BG.out, ((S04.out.below kb (fun q hq => Nat.lt_of_lt_of_le hq (Nat.le_of_lt zg))).more (fun q hq => ⟨Nat.lt_of_lt_of_le hq (Nat.le_trans (Nat.le_of_lt zg) kb.size), Nat.not_le.2 hq⟩)), Nat.zero_le _, fun _ => rfl, .inr ⟨_, _, rfl⟩⟩)
  replace BR := Lib.hid (BR.out.later kb)
  replace FR := Lib.hid (FR.out.fut kb)
  obtain ⟨g, hg⟩ : ∃ g, w4.heap.size = g := ⟨_, rfl⟩
  rw [hg] at RD zg
  rw [hg]
  clear hg BG kb S04
  refine (CN1.out g (Nat.le_of_lt zg) _ RD.out).mono ?_
  rintro e x1 ⟨rfl, hr, hb⟩
  replace BR := Lib.hid (BR.out.but hb (show ¬ w.heap.size = g by omega))
  replace RD := Lib.hid hr
  replace FR := Lib.hid (hb.since FR.out (fun q h => by have h : q = g := h; omega))
  clear hr hb CN1
  go_wp2_with fail
  refine (CN2.out g (Nat.le_of_lt zg) _ RD.out).mono ?_
  rintro e x2 ⟨rfl, hr, hb⟩
  replace BR := Lib.hid (BR.out.but hb (show ¬ w.heap.size = g by omega))
  replace RD := Lib.hid hr
  replace FR := Lib.hid (hb.since FR.out (fun q h => by have h : q = g := h; omega))
  clear hr hb CN2
  go_wp2_with fail
  refine (CN3.out g (Nat.le_of_lt zg) _ RD.out).mono ?_
  rintro e x3 ⟨rfl, hr, hb⟩
  replace BR := Lib.hid (BR.out.but hb (show ¬ w.heap.size = g by omega))
  replace RD := Lib.hid hr
  replace FR := Lib.hid (hb.since FR.out (fun q h => by have h : q = g := h; omega))
  clear hr hb CN3
  by_cases q3 : b3 = 0
  rotate_left
  · rw [if_neg q3] at GV
    have u1 : (b3 != 0) = true := by simpa using q3
    clear q3
    go_wp2_with (refine wpList_store_all rfl 36 (.tmp 6) (.tmp 41) rfl x3.heap.size #[.int .i64 (a1 : Int), .int .i64 (a2 : Int), .int .i64 (a3 : Int), .int .i64 0, .int .i64 0, .int .i64 0, .slice none 0 0, .int .i64 0, .int .i64 0, .int .i64 0, .slice none 0 0] rfl rfl _ _ (Blk.now _ _ _ _ rfl) rfl (by kernel_rfl) (by simp [Value.oneCell']) ?_; intro x4 B5 g5; have BP := Lib.hid B5; have GX := Lib.hid (show Below x3.heap.size x3 x4 from ((Below.refl _ _).alloc (Nat.le_refl _) _).grown g5 (by simp) (fun k h => by have := Option.some.inj h; omega)); clear B5 g5; have c2 : x4.cell? ⟨g, 2, none⟩ = some (.int .i64 b3) := (RD.out.later GX.out).c2)
    replace BR := Lib.hid (BR.out.later GX.out)
    replace RD := Lib.hid (RD.out.later GX.out)
    replace FR := Lib.hid (FR.out.fut GX.out)
    refine wp_region_held_drew (S := fun w' => w'.cell? ⟨g, 2, none⟩ = some (.int .i64 b3) ∧ True) (by kernel_rfl) ?_ (fun hS => ?_)
    · exact ⟨c2, trivial⟩
    refine wpAnyH_take (i := 0) (v := ?_) rfl (by as_aux_lemma => kernel_rfl) (by as_aux_lemma => kernel_rfl) (by as_aux_lemma => kernel_rfl) (fun _ _ _ h => h) (Or.inl ⟨by rfl, ?_⟩) hS ?_
    rotate_left
    · intro w hSw; (try dsimp only at hSw); go_simp; try with_reducible rfl
    try simp only [Act.put, List.getElem_toArray, List.getElem_cons_succ, List.getElem_cons_zero, List.setIfInBounds_toArray, List.set_cons_zero, List.set_cons_succ]
    refine wpAnyH_take (i := 1) (v := ?_) rfl (by as_aux_lemma => kernel_rfl) (by as_aux_lemma => kernel_rfl) (by as_aux_lemma => kernel_rfl) (fun _ _ _ h => h) (Or.inl ⟨by rfl, ?_⟩) hS ?_
    rotate_left
    · intro w hSw; (try dsimp only at hSw); go_simp; try with_reducible rfl
    try simp only [Act.put, List.getElem_toArray, List.getElem_cons_succ, List.getElem_cons_zero, List.setIfInBounds_toArray, List.set_cons_zero, List.set_cons_succ]
    refine wpAnyH_take (i := 2) (v := ?_) rfl (by as_aux_lemma => kernel_rfl) (by as_aux_lemma => kernel_rfl) (by as_aux_lemma => kernel_rfl) (fun _ _ _ h => h) (Or.inl ⟨by rfl, ?_⟩) hS ?_
    rotate_left
    · intro w hSw; (try dsimp only at hSw); go_simp; try with_reducible rfl
    try simp only [Act.put, List.getElem_toArray, List.getElem_cons_succ, List.getElem_cons_zero, List.setIfInBounds_toArray, List.set_cons_zero, List.set_cons_succ]
    refine wpAnyH_take (i := 3) (v := ?_) rfl (by as_aux_lemma => kernel_rfl) (by as_aux_lemma => kernel_rfl) (by as_aux_lemma => kernel_rfl) (fun _ _ _ h => h) (Or.inl ⟨by rfl, ?_⟩) hS ?_
    rotate_left
    · intro w hSw; (try dsimp only at hSw); go_simp; try with_reducible rfl
    try simp only [Act.put, List.getElem_toArray, List.getElem_cons_succ, List.getElem_cons_zero, List.setIfInBounds_toArray, List.set_cons_zero, List.set_cons_succ]
    refine wpAnyH_take (i := 4) (v := ?_) rfl (by as_aux_lemma => kernel_rfl) (by as_aux_lemma => kernel_rfl) (by as_aux_lemma => kernel_rfl) (fun _ _ _ h => h) (Or.inl ⟨by rfl, ?_⟩) hS ?_
    rotate_left
    · intro w hSw; (try dsimp only at hSw); go_simp; try with_reducible rfl
    try simp only [Act.put, List.getElem_toArray, List.getElem_cons_succ, List.getElem_cons_zero, List.setIfInBounds_toArray, List.set_cons_zero, List.set_cons_succ]
    refine wpAnyH_ready (rs := [5]) (by kernel_rfl) (by simp) ?_
    refine AllReadyH.cons rfl (fun K hK => ?_) AllReadyH.nil
    (rw [if_pos (by rfl)]; refine oper_store_blk 36 (.tmp 2) (.tmp 47) rfl w.heap.size 0 #[.int .i64 0, .int .i64 0, .int .i64 0, .int .i64 0, .int .i64 0, .int .i64 0, .slice none 0 0, .int .i64 0, .int .i64 0, .int .i64 0, .slice none 0 0] rfl rfl _ #[.int .i64 0, .int .i64 0, .int .i64 0, .int .i64 0, .int .i64 0, .int .i64 0, .slice none 0 0, .int .i64 0, .int .i64 0, .int .i64 0, .slice none 0 0] #[.int .i64 0, .int .i64 0, .int .i64 0, .int .i64 0, .int .i64 0, .int .i64 0, .slice none 0 0, .int .i64 0, .int .i64 0, .int .i64 0, .slice none 0 0] BR.out.drew (by simp) (by kernel_rfl) (by simp [Value.oneCell']) rfl ?_; intro w9 B9 g9; have FB := Lib.hid B9; have FG := Lib.hid g9; have bw : But (one w.heap.size) x4.drew w9 := But.of_grown g9 rfl; refine hK.out _ _ ⟨((RD.out.later (Below.refl _ x4).drew).but bw (fun q h => by have h : q = w.heap.size := h; show w.heap.size ≤ q; omega) (show ¬ g = w.heap.size by omega)).bad, trivial⟩ (fun hS => ?_); clear B9 g9)
    clear hK K
    try simp only [Act.put, List.getElem_toArray, List.getElem_cons_succ, List.getElem_cons_zero, List.setIfInBounds_toArray, List.set_cons_zero, List.set_cons_succ]
    refine wpAnyH_take (i := 6) (v := ?_) rfl (by as_aux_lemma => kernel_rfl) (by as_aux_lemma => kernel_rfl) (by as_aux_lemma => kernel_rfl) (fun _ _ _ h => h) (Or.inl ⟨by rfl, ?_⟩) hS ?_
    rotate_left
    · intro w hSw; (try dsimp only at hSw); go_simp; try with_reducible rfl
    try simp only [Act.put, List.getElem_toArray, List.getElem_cons_succ, List.getElem_cons_zero, List.setIfInBounds_toArray, List.set_cons_zero, List.set_cons_succ]
    refine wpAnyH_done (by kernel_rfl) ?_ _
    clear hS
    go_wp2_with fail
    refine ret_cell_tmp rfl FB.out rfl Try.underlying36 (by kernel_rfl) rfl ?_
    rw [GV.out]
    exact RetPt.none ((FR.out.fut (Below.refl _ x4).drew).away FG.out (Nat.le_refl _)).out
  subst q3
  rw [if_pos rfl] at GV
  go_wp2_with (refine wpList_store_all rfl 36 (.tmp 6) (.tmp 41) rfl x3.heap.size #[.int .i64 (a1 : Int), .int .i64 (a2 : Int), .int .i64 (a3 : Int), .int .i64 0, .int .i64 0, .int .i64 0, .slice none 0 0, .int .i64 0, .int .i64 0, .int .i64 0, .slice none 0 0] rfl rfl _ _ (Blk.now _ _ _ _ rfl) rfl (by kernel_rfl) (by simp [Value.oneCell']) ?_; intro x4 B5 g5; have BP := Lib.hid B5; have GX := Lib.hid (show Below x3.heap.size x3 x4 from ((Below.refl _ _).alloc (Nat.le_refl _) _).grown g5 (by simp) (fun k h => by have := Option.some.inj h; omega)); clear B5 g5; have c2 : x4.cell? ⟨g, 2, none⟩ = some (.int .i64 0) := (RD.out.later GX.out).c2)
  have zkp : g < x3.heap.size := RD.out.lt
  have zkr : w.heap.size < x3.heap.size := BR.out.lt
  replace BR := Lib.hid (BR.out.later GX.out)
  replace RD := Lib.hid (RD.out.later GX.out)
  replace FR := Lib.hid (FR.out.fut GX.out)
  clear GX c2
  obtain ⟨kp, hkp⟩ : ∃ k, x3.heap.size = k := ⟨_, rfl⟩
  rw [hkp] at BP zkp zkr
  rw [hkp]
  clear hkp
  refine (rtaken_any _ g (l3, 0) _ RD.out (Nat.le_of_lt zg)).mono ?_
  rw [E4.out]
  rintro e x5 ⟨⟨A, n1, c, rfl, hs⟩, hr, hb⟩
  obtain ⟨lo, hi, hs, zlo, zhi⟩ : ∃ lo hi, Sl (tInt .i8) x5 (bin lo hi) A n1 c t1.data ∧ kp < lo ∧ hi = x5.heap.size := ⟨_, _, hs, BP.out.lt, rfl⟩
  have DT := Lib.hid (show Dat lo hi x5 A n1 c t1.data from ⟨hs, Nat.le_of_eq zhi⟩)
  replace BR := Lib.hid (BR.out.but hb (show ¬ w.heap.size = g by omega))
  replace BP := Lib.hid (BP.out.but hb (show ¬ kp = g by omega))
  replace RD := Lib.hid hr
  replace FR := Lib.hid (hb.since FR.out (fun q h => by have h : q = g := h; omega))
  clear hr hb hs E4
  by_cases qe : te = 0
  rotate_left
  · rw [if_neg qe] at GV
    have u1 : (te != 0) = true := by simpa using qe
    clear qe
    go_wp2_with (first | (refine wpList_store_all rfl 26 (.tmp 7) (.tmp 55) rfl x5.heap.size #[.int .i64 t1.h, .int .i64 t1.v, .int .i64 t1.c, .slice A n1 c] rfl rfl _ _ (Blk.now _ _ _ _ rfl) rfl (by kernel_rfl) (by simp [Value.oneCell']) ?_; intro x6 B5 g5; have BT := Lib.hid B5; have GX := Lib.hid (show Below x5.heap.size x5 x6 from ((Below.refl _ _).alloc (Nat.le_refl _) _).grown g5 (by simp) (fun k h => by have := Option.some.inj h; omega)); clear B5 g5; replace BR := Lib.hid (BR.out.later GX.out); replace FR := Lib.hid (FR.out.fut GX.out)) | (refine wpList_store_all rfl 36 (.tmp 2) (.tmp 59) rfl w.heap.size #[.int .i64 0, .int .i64 0, .int .i64 0, .int .i64 0, .int .i64 0, .int .i64 0, .slice none 0 0, .int .i64 0, .int .i64 0, .int .i64 0, .slice none 0 0] rfl rfl _ _ BR.out rfl (by kernel_rfl) (by simp [Value.oneCell']) ?_; intro w9 B9 g9; have FB := Lib.hid B9; have FG := Lib.hid g9; clear B9 g9))
    refine ret_cell_tmp rfl FB.out rfl Try.underlying36 (by kernel_rfl) rfl ?_
    rw [GV.out]
    exact RetPt.none (FR.out.away FG.out (Nat.le_refl _)).out
  subst qe
  rw [if_pos rfl] at GV
  go_upto_region 13 with (refine wpList_store_all rfl 26 (.tmp 7) (.tmp 55) rfl x5.heap.size #[.int .i64 t1.h, .int .i64 t1.v, .int .i64 t1.c, .slice A n1 c] rfl rfl _ _ (Blk.now _ _ _ _ rfl) rfl (by kernel_rfl) (by simp [Value.oneCell']) ?_; intro x6 B5 g5; have BT := Lib.hid B5; have GX := Lib.hid (show Below x5.heap.size x5 x6 from ((Below.refl _ _).alloc (Nat.le_refl _) _).grown g5 (by simp) (fun k h => by have := Option.some.inj h; omega)); clear B5 g5)
  have zkt : kp < x5.heap.size := BP.out.lt
  have zht : hi ≤ x5.heap.size := DT.out.hz
  replace BR := Lib.hid (BR.out.later GX.out)
  replace BP := Lib.hid (BP.out.later GX.out)
  replace DT := Lib.hid (DT.out.later GX.out)
  replace RD := Lib.hid (RD.out.later GX.out)
  replace FR := Lib.hid (FR.out.fut GX.out)
  clear GX
  obtain ⟨kt, hkt⟩ : ∃ k, x5.heap.size = k := ⟨_, rfl⟩
  rw [hkt] at BT zkt zhi zht
  rw [hkt]
  clear hkt zhi
  go_upto_region 14 with (first | (refine wpList_load_row rfl 26 (.tmp 7) rfl kt rfl _ _ (0, 0) _ BT.out.heap Try.underlying26 rfl (by kernel_rfl) ?_) | (refine wpList_store_blk rfl 26 (.tmp 62) (.tmp 61) rfl kp 3 #[.int .i64 t1.h, .int .i64 t1.v, .int .i64 t1.c, .slice A n1 c] rfl rfl _ #[.int .i64 (a1 : Int), .int .i64 (a2 : Int), .int .i64 (a3 : Int), .int .i64 0, .int .i64 0, .int .i64 0, .slice none 0 0, .int .i64 0, .int .i64 0, .int .i64 0, .slice none 0 0] #[.int .i64 (a1 : Int), .int .i64 (a2 : Int), .int .i64 (a3 : Int), .int .i64 t1.h, .int .i64 t1.v, .int .i64 t1.c, .slice A n1 c, .int .i64 0, .int .i64 0, .int .i64 0, .slice none 0 0] BP.out (by simp) (by kernel_rfl) (by simp [Value.oneCell']) rfl ?_; intro x7 B7 g7; have FB := Lib.hid B7; have FG := Lib.hid g7; clear B7 g7))
  have b7 : But (one kp) x6 x7 := But.of_grown FG.out rfl
  replace BR := Lib.hid (BR.out.but b7 (show ¬ w.heap.size = kp by omega))
  replace BP := FB
  replace BT := Lib.hid (BT.out.but b7 (show ¬ kt = kp by omega))
  replace DT := Lib.hid (DT.out.but b7 (fun q h => by have h : q = kp := h; omega))
  replace RD := Lib.hid (RD.out.but b7 (fun q h => by have h : q = kp := h; show w.heap.size ≤ q; omega) (show ¬ g = kp by omega))
  replace FR := Lib.hid (b7.since FR.out (fun q h => by have h : q = kp := h; omega))
  clear b7 FB FG
  go_upto_region 15 with (first | (refine wpList_load_row rfl 26 (.tmp 7) rfl kt rfl _ _ (0, 0) _ BT.out.heap Try.underlying26 rfl (by kernel_rfl) ?_) | (refine wpList_store_blk rfl 26 (.tmp 64) (.tmp 63) rfl kp 7 #[.int .i64 t1.h, .int .i64 t1.v, .int .i64 t1.c, .slice A n1 c] rfl rfl _ #[.int .i64 (a1 : Int), .int .i64 (a2 : Int), .int .i64 (a3 : Int), .int .i64 t1.h, .int .i64 t1.v, .int .i64 t1.c, .slice A n1 c, .int .i64 0, .int .i64 0, .int .i64 0, .slice none 0 0] #[.int .i64 (a1 : Int), .int .i64 (a2 : Int), .int .i64 (a3 : Int), .int .i64 t1.h, .int .i64 t1.v, .int .i64 t1.c, .slice A n1 c, .int .i64 t1.h, .int .i64 t1.v, .int .i64 t1.c, .slice A n1 c] BP.out (by simp) (by kernel_rfl) (by simp [Value.oneCell']) rfl ?_; intro x8 B7 g7; have FB := Lib.hid B7; have FG := Lib.hid g7; clear B7 g7))
  have b7 : But (one kp) x7 x8 := But.of_grown FG.out rfl
  replace BR := Lib.hid (BR.out.but b7 (show ¬ w.heap.size = kp by omega))
  replace BP := FB
  replace BT := Lib.hid (BT.out.but b7 (show ¬ kt = kp by omega))
  replace DT := Lib.hid (DT.out.but b7 (fun q h => by have h : q = kp := h; omega))
  replace RD := Lib.hid (RD.out.but b7 (fun q h => by have h : q = kp := h; show w.heap.size ≤ q; omega) (show ¬ g = kp by omega))
  replace FR := Lib.hid (b7.since FR.out (fun q h => by have h : q = kp := h; omega))
  clear b7 FB FG
  go_wp2_with fail
  refine (CN5.out g (Nat.le_of_lt zg) _ RD.out).mono ?_
  rintro e x9 ⟨rfl, hr, hb⟩
  replace BR := Lib.hid (BR.out.but hb (show ¬ w.heap.size = g by omega))
  replace BP := Lib.hid (BP.out.but hb (show ¬ kp = g by omega))
  replace BT := Lib.hid (BT.out.but hb (show ¬ kt = g by omega))
  replace DT := Lib.hid (DT.out.but hb (fun q h => by have h : q = g := h; omega))
  replace RD := Lib.hid hr
  replace FR := Lib.hid (hb.since FR.out (fun q h => by have h : q = g := h; omega))
  clear hr hb CN5
  have c2 := RD.out.c2
  by_cases q5 : b5 = 0
  rotate_left
  · rw [if_neg q5] at GV
    have u1 : (b5 != 0) = true := by simpa using q5
    clear q5
    go_wp2_with fail
    refine wp_region_held_drew (S := fun w' => w'.cell? ⟨g, 2, none⟩ = some (.int .i64 b5) ∧ True) (by kernel_rfl) ?_ (fun hS => ?_)
    · exact ⟨c2, trivial⟩
    refine wpAnyH_take (i := 0) (v := ?_) rfl (by as_aux_lemma => kernel_rfl) (by as_aux_lemma => kernel_rfl) (by as_aux_lemma => kernel_rfl) (fun _ _ _ h => h) (Or.inl ⟨by rfl, ?_⟩) hS ?_
    rotate_left
    · intro w hSw; (try dsimp only at hSw); go_simp; try with_reducible rfl
    try simp only [Act.put, List.getElem_toArray, List.getElem_cons_succ, List.getElem_cons_zero, List.setIfInBounds_toArray, List.set_cons_zero, List.set_cons_succ]
    refine wpAnyH_take (i := 1) (v := ?_) rfl (by as_aux_lemma => kernel_rfl) (by as_aux_lemma => kernel_rfl) (by as_aux_lemma => kernel_rfl) (fun _ _ _ h => h) (Or.inl ⟨by rfl, ?_⟩) hS ?_
    rotate_left
    · intro w hSw; (try dsimp only at hSw); go_simp; try with_reducible rfl
    try simp only [Act.put, List.getElem_toArray, List.getElem_cons_succ, List.getElem_cons_zero, List.setIfInBounds_toArray, List.set_cons_zero, List.set_cons_succ]
    refine wpAnyH_take (i := 2) (v := ?_) rfl (by as_aux_lemma => kernel_rfl) (by as_aux_lemma => kernel_rfl) (by as_aux_lemma => kernel_rfl) (fun _ _ _ h => h) (Or.inl ⟨by rfl, ?_⟩) hS ?_
    rotate_left
    · intro w hSw; (try dsimp only at hSw); go_simp; try with_reducible rfl
    try simp only [Act.put, List.getElem_toArray, List.getElem_cons_succ, List.getElem_cons_zero, List.setIfInBounds_toArray, List.set_cons_zero, List.set_cons_succ]
    refine wpAnyH_take (i := 3) (v := ?_) rfl (by as_aux_lemma => kernel_rfl) (by as_aux_lemma => kernel_rfl) (by as_aux_lemma => kernel_rfl) (fun _ _ _ h => h) (Or.inl ⟨by rfl, ?_⟩) hS ?_
    rotate_left
    · intro w hSw; (try dsimp only at hSw); go_simp; try with_reducible rfl
    try simp only [Act.put, List.getElem_toArray, List.getElem_cons_succ, List.getElem_cons_zero, List.setIfInBounds_toArray, List.set_cons_zero, List.set_cons_succ]
    refine wpAnyH_take (i := 4) (v := ?_) rfl (by as_aux_lemma => kernel_rfl) (by as_aux_lemma => kernel_rfl) (by as_aux_lemma => kernel_rfl) (fun _ _ _ h => h) (Or.inl ⟨by rfl, ?_⟩) hS ?_
    rotate_left
    · intro w hSw; (try dsimp only at hSw); go_simp; try with_reducible rfl
    try simp only [Act.put, List.getElem_toArray, List.getElem_cons_succ, List.getElem_cons_zero, List.setIfInBounds_toArray, List.set_cons_zero, List.set_cons_succ]
    refine wpAnyH_ready (rs := [5]) (by kernel_rfl) (by simp) ?_
    refine AllReadyH.cons rfl (fun K hK => ?_) AllReadyH.nil
    (rw [if_pos (by rfl)]; refine oper_store_blk 36 (.tmp 2) (.tmp 72) rfl w.heap.size 0 #[.int .i64 0, .int .i64 0, .int .i64 0, .int .i64 0, .int .i64 0, .int .i64 0, .slice none 0 0, .int .i64 0, .int .i64 0, .int .i64 0, .slice none 0 0] rfl rfl _ #[.int .i64 0, .int .i64 0, .int .i64 0, .int .i64 0, .int .i64 0, .int .i64 0, .slice none 0 0, .int .i64 0, .int .i64 0, .int .i64 0, .slice none 0 0] #[.int .i64 0, .int .i64 0, .int .i64 0, .int .i64 0, .int .i64 0, .int .i64 0, .slice none 0 0, .int .i64 0, .int .i64 0, .int .i64 0, .slice none 0 0] BR.out.drew (by simp) (by kernel_rfl) (by simp [Value.oneCell']) rfl ?_; intro w9 B9 g9; have FB := Lib.hid B9; have FG := Lib.hid g9; have bw : But (one w.heap.size) x9.drew w9 := But.of_grown g9 rfl; refine hK.out _ _ ⟨((RD.out.later (Below.refl _ x9).drew).but bw (fun q h => by have h : q = w.heap.size := h; show w.heap.size ≤ q; omega) (show ¬ g = w.heap.size by omega)).bad, trivial⟩ (fun hS => ?_); clear B9 g9)
    clear hK K
    try simp only [Act.put, List.getElem_toArray, List.getElem_cons_succ, List.getElem_cons_zero, List.setIfInBounds_toArray, List.set_cons_zero, List.set_cons_succ]
    refine wpAnyH_take (i := 6) (v := ?_) rfl (by as_aux_lemma => kernel_rfl) (by as_aux_lemma => kernel_rfl) (by as_aux_lemma => kernel_rfl) (fun _ _ _ h => h) (Or.inl ⟨by rfl, ?_⟩) hS ?_
    rotate_left
    · intro w hSw; (try dsimp only at hSw); go_simp; try with_reducible rfl
    try simp only [Act.put, List.getElem_toArray, List.getElem_cons_succ, List.getElem_cons_zero, List.setIfInBounds_toArray, List.set_cons_zero, List.set_cons_succ]
    refine wpAnyH_done (by kernel_rfl) ?_ _
    clear hS
    go_wp2_with fail
    refine ret_cell_tmp rfl FB.out rfl Try.underlying36 (by kernel_rfl) rfl ?_
    rw [GV.out]
    exact RetPt.none ((FR.out.fut (Below.refl _ x9).drew).away FG.out (Nat.le_refl _)).out
  subst q5
  rw [if_pos rfl] at GV
  by_cases qk : ak = 1
  rotate_left
  · rw [if_neg qk] at GV
    have u1 : ((ak : Int) == 1) = false := by simp; omega
    have u2 : (ak == 1) = false := by simpa using qk
    clear qk
    go_wp2_with fail
    have c2 := RD.out.bad
    clear c2
    refine (rrEnd_any _ g (l5, 0) _ RD.out).mono ?_
    rintro e y1 ⟨rfl, hb⟩
    replace BR := Lib.hid (BR.out.later hb)
    replace BP := Lib.hid (BP.out.later hb)
    replace BT := Lib.hid (BT.out.later hb)
    replace DT := Lib.hid (DT.out.later hb)
    replace RD := Lib.hid (RD.out.later hb)
    replace FR := Lib.hid (FR.out.fut hb)
    clear hb
    obtain ⟨ev, hev⟩ : ∃ x, endV (l5, 0) = x := ⟨_, rfl⟩
    have RV := Lib.hid (show rendV ⟨(a1 : Int), (a2 : Int), (a3 : Int), t1, t1⟩ (l5, 0) = if ev = 0 then (⟨(a1 : Int), (a2 : Int), (a3 : Int), t1, t1⟩, 0) else (noPoint, ev) by unfold rendV; rw [hev])
    rw [RV.out] at GV
    have EV := Lib.hid hev
    rw [hev]
    clear hev RV
    by_cases h0 : ev = 0
    rotate_left
    · rw [if_neg h0] at GV
      have u1 : (ev != 0) = true := by simpa using h0
      clear h0
      go_wp2_with fail
      refine (rrEnd_any _ g (l5, 0) _ RD.out).mono ?_
      rintro e y2 ⟨rfl, hb⟩
      rw [EV.out]
      replace BR := Lib.hid (BR.out.later hb)
      replace BP := Lib.hid (BP.out.later hb)
      replace BT := Lib.hid (BT.out.later hb)
      replace DT := Lib.hid (DT.out.later hb)
      replace RD := Lib.hid (RD.out.later hb)
      replace FR := Lib.hid (FR.out.fut hb)
      clear hb
      go_wp2_with (refine wpList_store_all rfl 36 (.tmp 2) (.tmp 97) rfl w.heap.size #[.int .i64 0, .int .i64 0, .int .i64 0, .int .i64 0, .int .i64 0, .int .i64 0, .slice none 0 0, .int .i64 0, .int .i64 0, .int .i64 0, .slice none 0 0] rfl rfl _ _ BR.out rfl (by kernel_rfl) (by simp [Value.oneCell']) ?_; intro w9 B9 g9; have FB := Lib.hid B9; have FG := Lib.hid g9; clear B9 g9)
      refine ret_cell_tmp rfl FB.out rfl Try.underlying36 (by kernel_rfl) rfl ?_
      rw [GV.out]
      exact RetPt.none (FR.out.away FG.out (Nat.le_refl _)).out
    · subst h0
      rw [if_pos rfl] at GV
      go_wp2_with (first | (refine wpList_load_row rfl 36 (.tmp 6) rfl kp rfl _ _ (0, 0) _ BP.out.heap Try.underlying36 rfl (by kernel_rfl) ?_) | (refine wpList_store_all rfl 36 (.tmp 2) (.tmp 100) rfl w.heap.size #[.int .i64 (a1 : Int), .int .i64 (a2 : Int), .int .i64 (a3 : Int), .int .i64 t1.h, .int .i64 t1.v, .int .i64 t1.c, .slice A n1 c, .int .i64 t1.h, .int .i64 t1.v, .int .i64 t1.c, .slice A n1 c] rfl rfl _ _ BR.out rfl (by kernel_rfl) (by simp [Value.oneCell']) ?_; intro w9 B9 g9; have FB := Lib.hid B9; have FG := Lib.hid g9; clear B9 g9))
      refine ret_cell_tmp rfl FB.out rfl Try.underlying36 (by kernel_rfl) rfl ?_
      rw [GV.out]
      have bw : But (one w.heap.size) y1 w9 := But.of_grown FG.out rfl
      have z9 := bw.size
      replace DT := Lib.hid (DT.out.but bw (fun q h => by have h : q = w.heap.size := h; omega))
      have HDT := DT.out.sl.more (S' := bin w.heap.size w9.heap.size) (fun q hq => ⟨by have : _ ≤ q := hq.1; omega, Nat.lt_of_lt_of_le hq.2 DT.out.hz⟩)
      exact ⟨⟨A, n1, c, A, n1, c, rfl, HDT, HDT⟩, (FR.out.away FG.out (Nat.le_refl _)).out⟩
  subst qk
  rw [if_pos rfl] at GV
  go_wp2_with fail
  refine (rtaken_any _ g (l5, 0) _ RD.out (Nat.le_of_lt zg)).mono ?_
  rw [E6.out]
  rintro e y5 ⟨⟨B, m, d, rfl, hs⟩, hr, hb⟩
  obtain ⟨lo2, hi2, hs, zlo2, zhi2⟩ : ∃ lo hi, Sl (tInt .i8) y5 (bin lo hi) B m d t2.data ∧ kt < lo ∧ hi ≤ y5.heap.size := ⟨_, _, hs, BT.out.lt, Nat.le_refl _⟩
  have DU := Lib.hid (show Dat lo2 hi2 y5 B m d t2.data from ⟨hs, zhi2⟩)
  replace BR := Lib.hid (BR.out.but hb (show ¬ w.heap.size = g by omega))
  replace BP := Lib.hid (BP.out.but hb (show ¬ kp = g by omega))
  replace BT := Lib.hid (BT.out.but hb (show ¬ kt = g by omega))
  replace DT := Lib.hid (DT.out.but hb (fun q h => by have h : q = g := h; omega))
  replace RD := Lib.hid hr
  replace FR := Lib.hid (hb.since FR.out (fun q h => by have h : q = g := h; omega))
  clear hr hb hs E6 c2
  by_cases qu : ue = 0
  rotate_left
  · rw [if_neg qu] at GV
    have u1 : (ue != 0) = true := by simpa using qu
    clear qu
    go_wp2_with (first | (refine wpList_store_all rfl 26 (.tmp 10) (.tmp 82) rfl y5.heap.size #[.int .i64 t2.h, .int .i64 t2.v, .int .i64 t2.c, .slice B m d] rfl rfl _ _ (Blk.now _ _ _ _ rfl) rfl (by kernel_rfl) (by simp [Value.oneCell']) ?_; intro y6 B5 g5; have BU := Lib.hid B5; have GX := Lib.hid (show Below y5.heap.size y5 y6 from ((Below.refl _ _).alloc (Nat.le_refl _) _).grown g5 (by simp) (fun k h => by have := Option.some.inj h; omega)); clear B5 g5; replace BR := Lib.hid (BR.out.later GX.out); replace FR := Lib.hid (FR.out.fut GX.out)) | (refine wpList_store_all rfl 36 (.tmp 2) (.tmp 86) rfl w.heap.size #[.int .i64 0, .int .i64 0, .int .i64 0, .int .i64 0, .int .i64 0, .int .i64 0, .slice none 0 0, .int .i64 0, .int .i64 0, .int .i64 0, .slice none 0 0] rfl rfl _ _ BR.out rfl (by kernel_rfl) (by simp [Value.oneCell']) ?_; intro w9 B9 g9; have FB := Lib.hid B9; have FG := Lib.hid g9; clear B9 g9))
    refine ret_cell_tmp rfl FB.out rfl Try.underlying36 (by kernel_rfl) rfl ?_
    rw [GV.out]
    exact RetPt.none (FR.out.away FG.out (Nat.le_refl _)).out
  subst qu
  rw [if_pos rfl] at GV
  go_upto_region 22 with (refine wpList_store_all rfl 26 (.tmp 10) (.tmp 82) rfl y5.heap.size #[.int .i64 t2.h, .int .i64 t2.v, .int .i64 t2.c, .slice B m d] rfl rfl _ _ (Blk.now _ _ _ _ rfl) rfl (by kernel_rfl) (by simp [Value.oneCell']) ?_; intro y6 B5 g5; have BU := Lib.hid B5; have GX := Lib.hid (show Below y5.heap.size y5 y6 from ((Below.refl _ _).alloc (Nat.le_refl _) _).grown g5 (by simp) (fun k h => by have := Option.some.inj h; omega)); clear B5 g5)
  have zku : kt < y5.heap.size := BT.out.lt
  replace BR := Lib.hid (BR.out.later GX.out)
  replace BP := Lib.hid (BP.out.later GX.out)
  replace BT := Lib.hid (BT.out.later GX.out)
  replace DT := Lib.hid (DT.out.later GX.out)
  replace DU := Lib.hid (DU.out.later GX.out)
  replace RD := Lib.hid (RD.out.later GX.out)
  replace FR := Lib.hid (FR.out.fut GX.out)
  clear GX
  obtain ⟨ku, hku⟩ : ∃ k, y5.heap.size = k := ⟨_, rfl⟩
  rw [hku] at BU zku zhi2
  rw [hku]
  clear hku
  go_wp2_with (first | (refine wpList_load_row rfl 26 (.tmp 7) rfl kt rfl _ _ (0, 0) _ BT.out.heap Try.underlying26 rfl (by kernel_rfl) ?_) | (refine wpList_load_row rfl 26 (.tmp 10) rfl ku rfl _ _ (0, 0) _ BU.out.heap Try.underlying26 rfl (by kernel_rfl) ?_))
  refine (same05_any t1 t2 A B n1 c m d y6 (DT.out.sl.more (fun q hq => Nat.lt_of_lt_of_le hq.2 DT.out.hz)) (DU.out.sl.more (fun q hq => Nat.lt_of_lt_of_le hq.2 DU.out.hz))).mono ?_
  rintro e y7 ⟨rfl, hb⟩
  replace BR := Lib.hid (BR.out.later hb)
  replace BP := Lib.hid (BP.out.later hb)
  replace BT := Lib.hid (BT.out.later hb)
  replace BU := Lib.hid (BU.out.later hb)
  replace DT := Lib.hid (DT.out.later hb)
  replace DU := Lib.hid (DU.out.later hb)
  replace RD := Lib.hid (RD.out.later hb)
  replace FR := Lib.hid (FR.out.fut hb)
  clear hb
  cases hl : likeT t1 t2 with
  | true =>
    rw [hl, if_pos rfl] at GV
    clear hl
    go_wp2_with (refine wpList_store_all rfl 36 (.tmp 2) (.tmp 91) rfl w.heap.size #[.int .i64 0, .int .i64 0, .int .i64 0, .int .i64 0, .int .i64 0, .int .i64 0, .slice none 0 0, .int .i64 0, .int .i64 0, .int .i64 0, .slice none 0 0] rfl rfl _ _ BR.out rfl (by kernel_rfl) (by simp [Value.oneCell']) ?_; intro w9 B9 g9; have FB := Lib.hid B9; have FG := Lib.hid g9; clear B9 g9)
    refine ret_cell_tmp rfl FB.out rfl Try.underlying36 (by kernel_rfl) rfl ?_
    rw [GV.out]
    exact RetPt.none (FR.out.away FG.out (Nat.le_refl _)).out
  | false =>
    rw [hl, if_neg (by decide)] at GV
    clear hl
    go_upto_region 25 with (first | (refine wpList_load_row rfl 26 (.tmp 10) rfl ku rfl _ _ (0, 0) _ BU.out.heap Try.underlying26 rfl (by kernel_rfl) ?_) | (refine wpList_store_blk rfl 26 (.tmp 93) (.tmp 92) rfl kp 7 #[.int .i64 t2.h, .int .i64 t2.v, .int .i64 t2.c, .slice B m d] rfl rfl _ #[.int .i64 (a1 : Int), .int .i64 (a2 : Int), .int .i64 (a3 : Int), .int .i64 t1.h, .int .i64 t1.v, .int .i64 t1.c, .slice A n1 c, .int .i64 t1.h, .int .i64 t1.v, .int .i64 t1.c, .slice A n1 c] #[.int .i64 (a1 : Int), .int .i64 (a2 : Int), .int .i64 (a3 : Int), .int .i64 t1.h, .int .i64 t1.v, .int .i64 t1.c, .slice A n1 c, .int .i64 t2.h, .int .i64 t2.v, .int .i64 t2.c, .slice B m d] BP.out (by simp) (by kernel_rfl) (by simp [Value.oneCell']) rfl ?_; intro y8 B7 g7; have FB := Lib.hid B7; have FG := Lib.hid g7; clear B7 g7))
    have b7 : But (one kp) y7 y8 := But.of_grown FG.out rfl
    replace BR := Lib.hid (BR.out.but b7 (show ¬ w.heap.size = kp by omega))
    replace BP := FB
    replace BT := Lib.hid (BT.out.but b7 (show ¬ kt = kp by omega))
    replace BU := Lib.hid (BU.out.but b7 (show ¬ ku = kp by omega))
    replace DT := Lib.hid (DT.out.but b7 (fun q h => by have h : q = kp := h; omega))
    replace DU := Lib.hid (DU.out.but b7 (fun q h => by have h : q = kp := h; omega))
    replace RD := Lib.hid (RD.out.but b7 (fun q h => by have h : q = kp := h; show w.heap.size ≤ q; omega) (show ¬ g = kp by omega))
    replace FR := Lib.hid (b7.since FR.out (fun q h => by have h : q = kp := h; omega))
    clear b7 FB FG
    go_wp2_with fail
    have c2 := RD.out.bad
    clear c2
    refine (rrEnd_any _ g s6 _ RD.out).mono ?_
    rintro e y1 ⟨rfl, hb⟩
    replace BR := Lib.hid (BR.out.later hb)
    replace BP := Lib.hid (BP.out.later hb)
    replace BT := Lib.hid (BT.out.later hb)
    replace BU := Lib.hid (BU.out.later hb)
    replace DT := Lib.hid (DT.out.later hb)
    replace DU := Lib.hid (DU.out.later hb)
    replace RD := Lib.hid (RD.out.later hb)
    replace FR := Lib.hid (FR.out.fut hb)
    clear hb
    obtain ⟨ev, hev⟩ : ∃ x, endV s6 = x := ⟨_, rfl⟩
    have RV := Lib.hid (show rendV ⟨(a1 : Int), (a2 : Int), (a3 : Int), t1, t2⟩ s6 = if ev = 0 then (⟨(a1 : Int), (a2 : Int), (a3 : Int), t1, t2⟩, 0) else (noPoint, ev) by unfold rendV; rw [hev])
    rw [RV.out] at GV
    have EV := Lib.hid hev
    rw [hev]
    clear hev RV
    by_cases h0 : ev = 0
    rotate_left
    · rw [if_neg h0] at GV
      have u1 : (ev != 0) = true := by simpa using h0
      clear h0
      go_wp2_with fail
      refine (rrEnd_any _ g s6 _ RD.out).mono ?_
      rintro e y2 ⟨rfl, hb⟩
      rw [EV.out]
      replace BR := Lib.hid (BR.out.later hb)
      replace BP := Lib.hid (BP.out.later hb)
      replace BT := Lib.hid (BT.out.later hb)
      replace BU := Lib.hid (BU.out.later hb)
      replace DT := Lib.hid (DT.out.later hb)
      replace DU := Lib.hid (DU.out.later hb)
      replace RD := Lib.hid (RD.out.later hb)
      replace FR := Lib.hid (FR.out.fut hb)
      clear hb
      go_wp2_with (refine wpList_store_all rfl 36 (.tmp 2) (.tmp 97) rfl w.heap.size #[.int .i64 0, .int .i64 0, .int .i64 0, .int .i64 0, .int .i64 0, .int .i64 0, .slice none 0 0, .int .i64 0, .int .i64 0, .int .i64 0, .slice none 0 0] rfl rfl _ _ BR.out rfl (by kernel_rfl) (by simp [Value.oneCell']) ?_; intro w9 B9 g9; have FB := Lib.hid B9; have FG := Lib.hid g9; clear B9 g9)
      refine ret_cell_tmp rfl FB.out rfl Try.underlying36 (by kernel_rfl) rfl ?_
      rw [GV.out]
      exact RetPt.none (FR.out.away FG.out (Nat.le_refl _)).out
    · subst h0
      rw [if_pos rfl] at GV
      go_wp2_with (first | (refine wpList_load_row rfl 36 (.tmp 6) rfl kp rfl _ _ (0, 0) _ BP.out.heap Try.underlying36 rfl (by kernel_rfl) ?_) | (refine wpList_store_all rfl 36 (.tmp 2) (.tmp 100) rfl w.heap.size #[.int .i64 (a1 : Int), .int .i64 (a2 : Int), .int .i64 (a3 : Int), .int .i64 t1.h, .int .i64 t1.v, .int .i64 t1.c, .slice A n1 c, .int .i64 t2.h, .int .i64 t2.v, .int .i64 t2.c, .slice B m d] rfl rfl _ _ BR.out rfl (by kernel_rfl) (by simp [Value.oneCell']) ?_; intro w9 B9 g9; have FB := Lib.hid B9; have FG := Lib.hid g9; clear B9 g9))
      refine ret_cell_tmp rfl FB.out rfl Try.underlying36 (by kernel_rfl) rfl ?_
      rw [GV.out]
      have bw : But (one w.heap.size) y1 w9 := But.of_grown FG.out rfl
      have z9 := bw.size
      replace DT := Lib.hid (DT.out.but bw (fun q h => by have h : q = w.heap.size := h; omega))
      have HDT := DT.out.sl.more (S' := bin w.heap.size w9.heap.size) (fun q hq => ⟨by have : _ ≤ q := hq.1; omega, Nat.lt_of_lt_of_le hq.2 DT.out.hz⟩)
      replace DU := Lib.hid (DU.out.but bw (fun q h => by have h : q = w.heap.size := h; omega))
      have HDU := DU.out.sl.more (S' := bin w.heap.size w9.heap.size) (fun q hq => ⟨by have : _ ≤ q := hq.1; omega, Nat.lt_of_lt_of_le hq.2 DU.out.hz⟩)
      exact ⟨⟨A, n1, c, B, m, d, rfl, HDT, HDU⟩, (FR.out.away FG.out (Nat.le_refl _)).out⟩
end Go.Proofs.Ytanglfmolnfjeaa
