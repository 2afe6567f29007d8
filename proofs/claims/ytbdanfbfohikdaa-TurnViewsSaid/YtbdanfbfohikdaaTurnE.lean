/-
  The document's By, the fixed call of layer 23, and the walk of the law TurnTensors.
  Conditions: none but a right tensor for By.
-/
import Derived.Test.YtbdanfbfohikdaaChecked
import Derived.Test.YtbdanfbfohikdaaTurnD
import Derived.Test.YtbdanfbfohikdaaSame05
import Derived.Test.YtbdanfbfohikdaaNeqSt
namespace Go.Proofs.Ytbdanfbfohikdaa
set_option linter.unusedVariables false
set_option linter.unusedSimpArgs false
open Go.RowKit Go.ChangeShapes Go.WideShapes
set_option maxRecDepth 100000

/-- A tensor is handed back, its numbers in old or new memory. -/
def RetQ (p : Pic) (w : World) (e : Ending) (w' : World) : Prop :=
  ∃ A c, e = .returned (.agg #[.int .i64 (p.H : Int), .int .i64 (p.W : Int), .int .i64 (p.C : Int), .slice A p.l.length c]) ∧ Sl (tInt .i8) w' (blo w'.heap.size) A p.l.length c p.l ∧ Below w.heap.size w w'

set_option maxHeartbeats 8000000 in
theorem rby_any (p : Pic) (hp : p.Right) (A : Option Addr) (cap : Nat) (n : Int) (w : World) (hs : Sl (tInt .i8) w (blo w.heap.size) A p.l.length cap p.l) (hn : InK .i64 n) :
    Calls Try.prog 11 #[.agg #[.int .i64 (p.H : Int), .int .i64 (p.W : Int), .int .i64 (p.C : Int), .slice A p.l.length cap], .int .i64 n] w (RetQ (byV p n) w) := by
  rw [inK_i64] at hn
  obtain ⟨a1, a2⟩ := hn
  obtain ⟨x, hx⟩ : ∃ x, Int.tmod n 4 = x := ⟨_, rfl⟩
  have hx1 : -4 < x ∧ x < 4 ∧ (x + 4) % 4 = n % 4 := by
    have := Int.tmod_eq_emod (a := n) (b := 4)
    rw [hx] at this
    split at this <;> omega
  obtain ⟨x1, x2, x3⟩ := hx1
  have R := Lib.hid (show byV p n = times p (quarterV n) from rfl)
  have q4 := quarterV_lt n
  have hxq : (x + 4) % 4 = ((quarterV n : Nat) : Int) := by unfold quarterV; omega
  obtain ⟨q, hq⟩ : ∃ q, quarterV n = q := ⟨_, rfl⟩
  rw [hq] at q4 hxq R
  rw [R.out]
  have FR := Lib.hid (Far.refl w)
  obtain ⟨w1, hw_w1⟩ : ∃ nw_, w.alloc (.cells #[.int .i64 (p.H : Int), .int .i64 (p.W : Int), .int .i64 (p.C : Int), .slice A p.l.length cap] 26) = nw_ := ⟨_, rfl⟩
  have k_w1 : Below w.heap.size w w1 := by rw [← hw_w1]; exact (Below.refl _ _).alloc (Nat.le_refl _) _
  replace FR := Lib.hid (FR.out.fut k_w1)
  have BT := Lib.hid (show Blk w1 w.heap.size 26 #[.int .i64 (p.H : Int), .int .i64 (p.W : Int), .int .i64 (p.C : Int), .slice A p.l.length cap] by rw [← hw_w1]; exact Blk.now _ _ _ _ rfl)
  clear k_w1
  obtain ⟨w2, hw_w2⟩ : ∃ nw_, w1.alloc (.cells #[.int .i64 0, .int .i64 0, .int .i64 0, .slice none 0 0] 26) = nw_ := ⟨_, rfl⟩
  have k_w2 : Below w1.heap.size w1 w2 := by rw [← hw_w2]; exact (Below.refl _ _).alloc (Nat.le_refl _) _
  replace FR := Lib.hid (FR.out.fut k_w2)
  replace BT := Lib.hid (BT.out.fut k_w2)
  have BR := Lib.hid (show Blk w2 w1.heap.size 26 #[.int .i64 0, .int .i64 0, .int .i64 0, .slice none 0 0] by rw [← hw_w2]; exact Blk.now _ _ _ _ rfl)
  clear k_w2
  have l01 : w.heap.size < w1.heap.size := by rw [← hw_w1]; simp
  have SL := Lib.hid ((hs.below FR.out.out (fun _ h => h)).more (S' := fun b => b < w2.heap.size ∧ b ≠ w1.heap.size ∧ b ≠ w.heap.size) (fun b hb => by have h1 : b < w.heap.size := hb; have := FR.out.out.size; omega))
  have HP := Lib.hid (fun k => hp.times k)
  clear hs hp x3 hq R
  go_enter Try.func11, Try.ntmps11
  have HXQ := Lib.hid hxq
  clear hxq
  go_wp2_with fail
  rw [HXQ.out]
  clear hw_w1 hw_w2 HXQ hx
  go_loopw [5] (fun i wr => ∃ (k : Nat) (A : Option Addr) (c : Nat), k ≤ q ∧ i = .int .i64 k ∧ Blk wr w.heap.size 26 #[.int .i64 ((times p k).H : Int), .int .i64 ((times p k).W : Int), .int .i64 ((times p k).C : Int), .slice A (times p k).l.length c] ∧ Blk wr w1.heap.size 26 #[.int .i64 0, .int .i64 0, .int .i64 0, .slice none 0 0] ∧ Sl (tInt .i8) wr (fun b => b < wr.heap.size ∧ b ≠ w1.heap.size ∧ b ≠ w.heap.size) A (times p k).l.length c (times p k).l ∧ Below w.heap.size w wr) (fun i _ => q - (intOf i).toNat)
  case atStart => exact ⟨0, A, cap, Nat.zero_le _, rfl, BT.out, BR.out, SL.out, FR.out.out⟩
  case round =>
    clear FR BT BR SL
    obtain ⟨k, A2, c2, hk, rfl, bt, br, sl, hb⟩ := hrel
    have BT := Lib.hid bt
    have BR := Lib.hid br
    have SL := Lib.hid sl
    have HB := Lib.hid hb
    have z1 := br.lt
    clear bt br sl hb
    by_cases hlt : k < q
    · have p1 : (k : Int) < (q : Int) := by omega
      have RO := Lib.hid (ronce_any (times p k) (HP.out k) A2 c2 wr (SL.out.more fun b hb => hb.1))
      have hT : once (times p k) = times p (k + 1) := rfl
      rw [hT] at RO
      obtain ⟨t, ht⟩ : ∃ t, times p k = t := ⟨_, rfl⟩
      rw [ht] at RO BT
      obtain ⟨t2, ht2⟩ : ∃ t, times p (k + 1) = t := ⟨_, rfl⟩
      rw [ht2] at RO
      have HT := Lib.hid ht2
      clear ht ht2 hT SL
      go_wp2_with (refine wpList_load_row rfl 26 (.tmp 2) rfl w.heap.size rfl _ _ (0, 0) _ BT.out.heap Try.underlying26 rfl (by kernel_rfl) ?_)
      refine RO.out.mono ?_
      rintro e w3 ⟨A3, n3, c3, rfl, hs3, hb⟩
      have hn3 := hs3.n_eq
      subst hn3
      have S3 := Lib.hid hs3
      have H3 := Lib.hid (below_call HB.out hb HB.out.size)
      replace BT := Lib.hid (BT.out.fut hb)
      replace BR := Lib.hid (BR.out.fut hb)
      clear hb
      clear hs3 HB RO
      go_wp2_with (refine wpList_store_all rfl 26 (.tmp 2) (.tmp 16) rfl w.heap.size #[.int .i64 (t2.H : Int), .int .i64 (t2.W : Int), .int .i64 (t2.C : Int), .slice A3 t2.l.length c3] rfl rfl _ _ BT.out rfl (by kernel_rfl) (by simp [Value.oneCell']) ?_; intro w4 bq gq)
      refine ⟨⟨k + 1, A3, c3, by omega, by go_num, ?_⟩, by simp [intOf]; omega⟩
      rw [HT.out]
      refine ⟨bq, BR.out.away gq (by omega), ?_, H3.out.grown gq H3.out.size (fun j hj => by have := Option.some.inj hj; omega)⟩
      have zz := H3.out.size
      exact (S3.out.keep fun b hb => gq.block b hb.2 (by have := hb.1; simp; omega)).more fun b hb => ⟨Nat.lt_of_lt_of_le hb.2 gq.size, by have := hb.1; omega, by have := hb.1; omega⟩
    · obtain rfl : q = k := by omega
      obtain ⟨t, ht⟩ : ∃ t, times p q = t := ⟨_, rfl⟩
      rw [ht] at BT SL ⊢
      have HT := Lib.hid ht
      have OLD := Lib.hid (SL.out.more (S' := fun b => b < wr.heap.size ∧ b ≠ w1.heap.size) fun b hb => ⟨hb.1, hb.2.1⟩)
      clear hlt hk HP ht SL
      go_wp2_with (first
        | (refine wpList_load_row rfl 26 (.tmp 2) rfl w.heap.size rfl _ _ (0, 0) _ BT.out.heap Try.underlying26 rfl (by kernel_rfl) ?_)
        | (refine wpList_store_all rfl 26 (.tmp 4) (.tmp 17) rfl w1.heap.size #[.int .i64 (t.H : Int), .int .i64 (t.W : Int), .int .i64 (t.C : Int), .slice A2 t.l.length c2] rfl rfl _ _ BR.out rfl (by kernel_rfl) (by simp [Value.oneCell']) ?_; intro w4 bq gq; have BQ := Lib.hid bq; have gq := Lib.hid gq; clear bq))
      have BF := HB.out.grown gq.out HB.out.size (fun j hj => by have := Option.some.inj hj; omega)
      refine ret_cell rfl BQ.out rfl Try.underlying26 (by kernel_rfl) rfl ?_
      rw [HT.out]
      exact ⟨A2, c2, rfl, (OLD.out.keep fun b hb => gq.out.block b hb.1 (fun e => hb.2 (Option.some.inj e))).more fun b hb => Nat.lt_of_lt_of_le hb.1 gq.out.size, BF⟩

def pic23 : Pic := ⟨1, 2, 1, [1, 2]⟩
theorem pic23_right : pic23.Right := ⟨by decide, by decide, by decide, rfl, by decide⟩

set_option maxHeartbeats 8000000 in
theorem known23_any (w : World) : Calls Try.prog 6 #[] w fun e w' => e = .returned (.bool true) ∧ Below w.heap.size w w' := by
  have FR := Lib.hid (Far.refl w)
  obtain ⟨w1, hw_w1⟩ : ∃ nw_, w.alloc (.cells #[.int .i8 1, .int .i8 2] 37) = nw_ := ⟨_, rfl⟩
  have k_w1 : Below w.heap.size w w1 := by rw [← hw_w1]; exact (Below.refl _ _).alloc (Nat.le_refl _) _
  replace FR := Lib.hid (FR.out.fut k_w1)
  have BA := Lib.hid (show Blk w1 w.heap.size 37 #[.int .i8 1, .int .i8 2] by rw [← hw_w1]; exact Blk.now _ _ _ _ rfl)
  clear k_w1
  have S1 := Lib.hid (show Sl (tInt .i8) w1 (blo w1.heap.size) (some ⟨w.heap.size, 0, none⟩) 2 2 [1, 2] from Sl.lit [1, 2] BA.out.heap rfl (by intro x hx; simp at hx; rcases hx with rfl | rfl <;> decide) BA.out.lt rfl rfl (by simp [maxLen]))
  have EQ := Lib.hid (fun w => run_eql_st3 (P := Try.prog) (t := 23) (k0 := .i64) (k1 := .i64) (k2 := .i64) w Try.underlying23 (by kernel_rfl) (by decide) ⟨rfl, rfl, rfl⟩ Try.underlying3 Try.underlying3 Try.underlying3 (by kernel_rfl) (by kernel_rfl) (by kernel_rfl) 2 1 1 2 1 1)
  go_enter Try.func6, Try.ntmps6
  go_wp2_with fail
  clear hw_w1
  refine (by_ok pic23 pic23_right _ 2 1 w1 S1.out (by decide)).mono ?_
  rintro e w2 ⟨A, m, c, rfl, hs, hb⟩
  have hb2 : byV pic23 1 = ⟨2, 1, 1, [2, 1]⟩ := by rfl
  rw [hb2] at hs ⊢
  obtain rfl : m = 2 := hs.n_eq.symm
  have S2 := Lib.hid hs.old
  replace FR := Lib.hid (FR.out.fut hb)
  clear hb
  clear hs S1 BA
  obtain ⟨b0, o0, hA, _, _, e0, _⟩ := S2.out.int_at 0 (by decide)
  obtain ⟨b1, o1, hA1, _, _, e1, _⟩ := S2.out.int_at 1 (by decide)
  rw [hA] at hA1
  cases hA1
  subst hA
  replace e0 : w2.cell? ⟨b0, o0, none⟩ = some (.int .i8 2) := e0
  replace e1 : w2.cell? ⟨b0, o0 + 1, none⟩ = some (.int .i8 1) := e1
  go_upto_region 2 with (refine wpList_store_all rfl 26 (.tmp 1) (.tmp 8) rfl w2.heap.size #[.int .i64 2, .int .i64 1, .int .i64 1, .slice (some ⟨b0, o0, none⟩) 2 c] rfl rfl _ _ (Blk.now _ _ _ _ rfl) rfl (by kernel_rfl) (by simp [Value.oneCell']) ?_; intro w3 bq gq; have BQ := Lib.hid bq; have KBQ := Lib.hid (show Below w2.heap.size w2 w3 from ((Below.refl _ _).alloc (Nat.le_refl _) _).grown gq (by simp) (fun k h => by have := Option.some.inj h; omega)); clear bq gq)
  have E0 := cell_later KBQ.out e0
  have E1 := cell_later KBQ.out e1
  replace FR := Lib.hid (FR.out.fut KBQ.out)
  have q3 := BQ.out.cell 3
  clear e0 e1 S2 KBQ
  go_wp2_with (first
    | (refine wpList_load_midw (by kernel_rfl) 23 (.tmp 13) rfl w2.heap.size 0 rfl _ _ (range_blk (vs := [.int .i64 2, .int .i64 1, .int .i64 1]) BQ.out rfl) Try.underlying23 rfl (by kernel_rfl) ?_)
    | (refine wpList_eql_agg 23 _ (.tmp 14) (.tmp 15) rfl _ _ rfl rfl (by rfl) (by kernel_rfl) _ (EQ.out _) ?_))
  go_ret
  exact ⟨rfl, FR.out.out⟩
theorem Below.store {w w' : World} {g : Nat} (hb : w.grownBy w' (some g)) (h : w.heap.size ≤ g) : Below w.heap.size w w' := (Below.refl _ _).grown hb (Nat.le_refl _) (fun k hk => by have := Option.some.inj hk; omega)
/-- A tensor is a picture, if it is right. -/
theorem right_pic {h v c : Int} {l : List Int} {n : Nat} (hn : l.length = n) (hr : 0 < elems h v c ∧ elems h v c = n) : ∃ p : Pic, p.Right ∧ h = (p.H : Int) ∧ v = (p.W : Int) ∧ c = (p.C : Int) ∧ l = p.l := by
  obtain ⟨h1, h2⟩ := hr
  rw [elems_iff] at h1 h2
  split at h1
  · rename_i hh
    rw [if_pos hh] at h2
    obtain ⟨b1, b2, b3, b4, b5, b6, b7⟩ := hh
    have e : (h.toNat * v.toNat * c.toNat : Nat) = l.length := by
      have : ((h.toNat * v.toNat * c.toNat : Nat) : Int) = (l.length : Int) := by
        rw [Int.natCast_mul, Int.natCast_mul, Int.toNat_of_nonneg (by omega), Int.toNat_of_nonneg (by omega), Int.toNat_of_nonneg (by omega), h2, hn]
      exact_mod_cast this
    exact ⟨⟨h.toNat, v.toNat, c.toNat, l⟩, ⟨by simp only; omega, by simp only; omega, by simp only; omega, e.symm, by simp only; omega⟩, by simp only; omega, by simp only; omega, by simp only; omega, rfl⟩
  · omega

set_option maxHeartbeats 16000000 in
theorem turnTensors_any (h v c : Int) (A : Option Addr) (m cap : Nat) (l : List Int) (n : Int) (w : World) (hs : Sl (tInt .i8) w (blo w.heap.size) A m cap l) (h0 : InK .i64 h) (h1 : InK .i64 v) (h2 : InK .i64 c) (hn : InK .i64 n) :
    Calls Try.prog 3 #[.agg #[.int .i64 h, .int .i64 v, .int .i64 c, .slice A m cap], .int .i64 n] w fun e w' => e = .returned (.bool true) ∧ Below w.heap.size w w' := by
  have mm := Nat.le_trans hs.cap_le hs.max_le
  have mm2 : m ≤ 9223372036854775807 := mm
  have FR := Lib.hid (Far.refl w)
  obtain ⟨w1, hw_w1⟩ : ∃ nw_, w.alloc (.cells #[.int .i64 h, .int .i64 v, .int .i64 c, .slice A m cap] 26) = nw_ := ⟨_, rfl⟩
  have k_w1 : Below w.heap.size w w1 := by rw [← hw_w1]; exact (Below.refl _ _).alloc (Nat.le_refl _) _
  replace FR := Lib.hid (FR.out.fut k_w1)
  have BT := Lib.hid (show Blk w1 w.heap.size 26 #[.int .i64 h, .int .i64 v, .int .i64 c, .slice A m cap] by rw [← hw_w1]; exact Blk.now _ _ _ _ rfl)
  clear k_w1
  have SL := Lib.hid (hs.later FR.out.out (Nat.le_refl _))
  have t3 := BT.out.cell 3
  have RT := Lib.hid (fun w => rtensorRight_any h v c A m cap w h0 h1 h2 mm)
  by_cases c0 : 1024 < m
  · have t0 : decide (1024 < (m : Int)) = true := by simp; omega
    clear hs c0 h0 h1 h2 hn
    go_enter Try.func3, Try.ntmps3
    go_wp2_with fail
    refine (known23_any _).mono ?_
    rintro e w2 ⟨rfl, hb⟩
    replace FR := Lib.hid (FR.out.fut hb)
    clear hb
    go_wp2_with fail
    go_ret
    exact ⟨rfl, FR.out.out⟩
  have t0 : decide (1024 < (m : Int)) = false := by simp; omega
  by_cases cr : 0 < elems h v c ∧ elems h v c = (m : Int)
  rotate_left
  · have PB := Lib.hid (fun w => by_bad h v c A m cap n w h0 h1 h2 mm cr)
    have PO := Lib.hid (fun w => over_bad h v c A m cap w h0 h1 h2 mm cr)
    rw [decide_eq_false cr] at RT
    clear hs c0 cr h0 h1 h2 hn
    go_enter Try.func3, Try.ntmps3
    go_wp2_with (refine wpList_load_row rfl 26 (.tmp 2) rfl w.heap.size rfl _ _ (0, 0) _ BT.out.heap Try.underlying26 rfl (by kernel_rfl) ?_)
    clear t3 hw_w1
    refine (PB.out _).mono ?_
    rintro e w2 ⟨rfl, hb⟩
    replace FR := Lib.hid (FR.out.fut hb)
    replace BT := Lib.hid (BT.out.fut hb)
    clear hb
    clear PB
    go_wp2_with (first
      | (refine wpList_store_all rfl 26 (.tmp 5) (.tmp 18) rfl w2.heap.size #[.int .i64 0, .int .i64 0, .int .i64 0, .slice none 0 0] rfl rfl _ _ (Blk.now _ _ _ _ rfl) rfl (by kernel_rfl) (by simp [Value.oneCell']) ?_; intro w3 bq gq; have BU := Lib.hid bq; have KBU := Lib.hid (show Below w2.heap.size w2 w3 from ((Below.refl _ _).alloc (Nat.le_refl _) _).grown gq (by simp) (fun k h => by have := Option.some.inj h; omega)); clear bq gq; have BT3 := Lib.hid (BT.out.fut KBU.out))
      | (refine wpList_load_row rfl 26 (.tmp 2) rfl w.heap.size rfl _ _ (0, 0) _ BT3.out.heap Try.underlying26 rfl (by kernel_rfl) ?_))
    replace FR := Lib.hid (FR.out.fut KBU.out)
    refine (PO.out _).mono ?_
    rintro e w4 ⟨rfl, hb⟩
    replace BT3 := Lib.hid (BT3.out.fut hb)
    replace FR := Lib.hid (FR.out.fut hb)
    replace BU := Lib.hid (BU.out.fut hb)
    clear hb
    clear PO BT
    go_wp2_with (first
      | (refine wpList_store_all rfl 26 (.tmp 7) (.tmp 23) rfl w4.heap.size #[.int .i64 0, .int .i64 0, .int .i64 0, .slice none 0 0] rfl rfl _ _ (Blk.now _ _ _ _ rfl) rfl (by kernel_rfl) (by simp [Value.oneCell']) ?_; intro w5 bq gq; have BV := Lib.hid bq; have KBV := Lib.hid (show Below w4.heap.size w4 w5 from ((Below.refl _ _).alloc (Nat.le_refl _) _).grown gq (by simp) (fun k h => by have := Option.some.inj h; omega)); clear bq gq; have BT5 := Lib.hid (BT3.out.fut KBV.out))
      | (refine wpList_load_row rfl 26 (.tmp 2) rfl w.heap.size rfl _ _ (0, 0) _ BT5.out.heap Try.underlying26 rfl (by kernel_rfl) ?_))
    replace FR := Lib.hid (FR.out.fut KBV.out)
    replace BU := Lib.hid (BU.out.fut KBV.out)
    refine (RT.out _).mono ?_
    rintro e w6 ⟨rfl, hb⟩
    replace FR := Lib.hid (FR.out.fut hb)
    replace BU := Lib.hid (BU.out.fut hb)
    replace BV := Lib.hid (BV.out.fut hb)
    clear hb
    clear RT BT3 BT5
    go_wp2_with (refine wpList_load_midw (by kernel_rfl) 26 (.tmp 5) rfl w2.heap.size 0 rfl _ _ (range_blk (vs := [.int .i64 0, .int .i64 0, .int .i64 0, .slice none 0 0]) BU.out rfl) Try.underlying26 rfl (by kernel_rfl) ?_)
    refine (same05_eq noTensor none none 0 0 0 0 w6 (Sl.nil _ _ _) (Sl.nil _ _ _)).mono ?_
    rintro e w7 ⟨rfl, hb⟩
    replace FR := Lib.hid (FR.out.fut hb)
    replace BV := Lib.hid (BV.out.fut hb)
    clear hb
    go_wp2_with (refine wpList_load_midw (by kernel_rfl) 26 (.tmp 7) rfl w4.heap.size 0 rfl _ _ (range_blk (vs := [.int .i64 0, .int .i64 0, .int .i64 0, .slice none 0 0]) BV.out rfl) Try.underlying26 rfl (by kernel_rfl) ?_)
    refine (same05_eq noTensor none none 0 0 0 0 w7 (Sl.nil _ _ _) (Sl.nil _ _ _)).mono ?_
    rintro e w8 ⟨rfl, hb⟩
    replace FR := Lib.hid (FR.out.fut hb)
    clear hb
    go_wp2_with fail
    refine (known23_any _).mono ?_
    rintro e w9 ⟨rfl, hb⟩
    replace FR := Lib.hid (FR.out.fut hb)
    clear hb
    go_wp2_with fail
    go_ret
    exact ⟨rfl, FR.out.out⟩
  obtain ⟨p, hp, rfl, rfl, rfl, rfl⟩ := right_pic hs.n_eq cr
  rw [decide_eq_true cr] at RT
  obtain rfl : p.l.length = m := hs.n_eq
  have PB := Lib.hid (fun w' (hb : Below w1.heap.size w1 w') => by_ok p hp A cap n w' (SL.out.later hb (Nat.le_refl _)) hn)
  have PO := Lib.hid (fun w' (hb : Below w1.heap.size w1 w') => over_right p hp A cap w' (SL.out.later hb (Nat.le_refl _)))
  have QB := Lib.hid (fun w' (hb : Below w1.heap.size w1 w') => rby_any p hp A cap n w' (SL.out.later hb (Nat.le_refl _)) hn)
  have QO := Lib.hid (fun w' (hb : Below w1.heap.size w1 w') => rover_any p hp A cap w' (SL.out.later hb (Nat.le_refl _)))
  obtain ⟨pb, hpb⟩ : ∃ q, byV p n = q := ⟨_, rfl⟩
  obtain ⟨po, hpo⟩ : ∃ q, over p = q := ⟨_, rfl⟩
  rw [hpb] at PB QB
  rw [hpo] at PO QO
  clear hs c0 cr h0 h1 h2 hn hpb hpo
  go_enter Try.func3, Try.ntmps3
  go_wp2_with (refine wpList_load_row rfl 26 (.tmp 2) rfl w.heap.size rfl _ _ (0, 0) _ BT.out.heap Try.underlying26 rfl (by kernel_rfl) ?_)
  clear t3 hw_w1
  refine (PB.out _ (Below.refl _ _)).mono ?_
  rintro e w2 ⟨A2, m2, c2, rfl, hs2, hb⟩
  unfold tenOf at hs2
  simp only at hs2
  obtain rfl : pb.l.length = m2 := hs2.n_eq
  have S2 := Lib.hid hs2.old
  have K2 := Lib.hid hb
  replace FR := Lib.hid (FR.out.fut hb)
  replace BT := Lib.hid (BT.out.fut hb)
  clear hb
  clear PB hs2
  go_wp2_with (first
    | (refine wpList_store_all rfl 26 (.tmp 5) (.tmp 18) rfl w2.heap.size #[.int .i64 (pb.H : Int), .int .i64 (pb.W : Int), .int .i64 (pb.C : Int), .slice A2 pb.l.length c2] rfl rfl _ _ (Blk.now _ _ _ _ rfl) rfl (by kernel_rfl) (by simp [Value.oneCell']) ?_; intro w3 bq gq; have BU := Lib.hid bq; have KBU := Lib.hid (show Below w2.heap.size w2 w3 from ((Below.refl _ _).alloc (Nat.le_refl _) _).grown gq (by simp) (fun k h => by have := Option.some.inj h; omega)); clear bq gq; have BT3 := Lib.hid (BT.out.fut KBU.out))
    | (refine wpList_load_row rfl 26 (.tmp 2) rfl w.heap.size rfl _ _ (0, 0) _ BT3.out.heap Try.underlying26 rfl (by kernel_rfl) ?_))
  have z3 := KBU.out.size
  replace FR := Lib.hid (FR.out.fut KBU.out)
  replace S2 := Lib.hid (S2.out.fut KBU.out)
  have K3 := Lib.hid (below_later KBU.out K2.out)
  refine (PO.out _ K3.out).mono ?_
  rintro e w4 ⟨A4, m4, c4, rfl, hs4, hb⟩
  unfold tenOf at hs4
  simp only at hs4
  obtain rfl : po.l.length = m4 := hs4.n_eq
  have S4 := Lib.hid hs4.old
  have K4 := Lib.hid (below_later hb K3.out)
  replace BT3 := Lib.hid (BT3.out.fut hb)
  replace FR := Lib.hid (FR.out.fut hb)
  replace BU := Lib.hid (BU.out.fut hb)
  replace S2 := Lib.hid (S2.out.fut hb)
  clear hb
  clear PO BT hs4 K2 K3
  go_wp2_with (first
    | (refine wpList_store_all rfl 26 (.tmp 7) (.tmp 23) rfl w4.heap.size #[.int .i64 (po.H : Int), .int .i64 (po.W : Int), .int .i64 (po.C : Int), .slice A4 po.l.length c4] rfl rfl _ _ (Blk.now _ _ _ _ rfl) rfl (by kernel_rfl) (by simp [Value.oneCell']) ?_; intro w5 bq gq; have BV := Lib.hid bq; have KBV := Lib.hid (show Below w4.heap.size w4 w5 from ((Below.refl _ _).alloc (Nat.le_refl _) _).grown gq (by simp) (fun k h => by have := Option.some.inj h; omega)); clear bq gq; have BT5 := Lib.hid (BT3.out.fut KBV.out))
    | (refine wpList_load_row rfl 26 (.tmp 2) rfl w.heap.size rfl _ _ (0, 0) _ BT5.out.heap Try.underlying26 rfl (by kernel_rfl) ?_))
  replace FR := Lib.hid (FR.out.fut KBV.out)
  replace BU := Lib.hid (BU.out.fut KBV.out)
  replace S2 := Lib.hid (S2.out.fut KBV.out)
  replace S4 := Lib.hid (S4.out.fut KBV.out)
  replace K4 := Lib.hid (below_later KBV.out K4.out)
  refine (RT.out _).mono ?_
  rintro e w6 ⟨rfl, hb⟩
  replace K4 := Lib.hid (below_later hb K4.out)
  replace BT5 := Lib.hid (BT5.out.fut hb)
  replace FR := Lib.hid (FR.out.fut hb)
  replace BU := Lib.hid (BU.out.fut hb)
  replace BV := Lib.hid (BV.out.fut hb)
  replace S2 := Lib.hid (S2.out.fut hb)
  replace S4 := Lib.hid (S4.out.fut hb)
  clear hb
  clear RT BT3
  go_wp2_with fail
  have SU := Lib.hid (S2.out.keep (w' := w6.drew) (fun _ _ => rfl))
  have SV := Lib.hid (S4.out.keep (w' := w6.drew) (fun _ _ => rfl))
  have KD := Lib.hid K4.out.drew
  refine wp_region_held_drew (S := fun w' => Blk w' w.heap.size 26 #[.int .i64 (p.H : Int), .int .i64 (p.W : Int), .int .i64 (p.C : Int), .slice A p.l.length cap] ∧ Blk w' w2.heap.size 26 #[.int .i64 (pb.H : Int), .int .i64 (pb.W : Int), .int .i64 (pb.C : Int), .slice A2 pb.l.length c2] ∧ Blk w' w4.heap.size 26 #[.int .i64 (po.H : Int), .int .i64 (po.W : Int), .int .i64 (po.C : Int), .slice A4 po.l.length c4] ∧ Below w.heap.size w w') (by kernel_rfl) ?_ (fun hS => ?_)
  · exact ⟨BT5.out.drew, BU.out.drew, BV.out.drew, FR.out.out.drew⟩
  refine wpAnyH_take (i := 0) (v := ?_) rfl (by as_aux_lemma => kernel_rfl) (by as_aux_lemma => kernel_rfl) (by as_aux_lemma => kernel_rfl) (fun _ _ _ h => h) (Or.inl ⟨by rfl, ?_⟩) hS ?_
  rotate_left
  · intro w hSw; (try dsimp only at hSw); go_simp; try with_reducible rfl
  try simp only [Act.put, List.getElem_toArray, List.getElem_cons_succ, List.getElem_cons_zero, List.setIfInBounds_toArray, List.set_cons_zero, List.set_cons_succ]
  refine wpAnyH_take (i := 1) (v := ?_) rfl (by as_aux_lemma => kernel_rfl) (by as_aux_lemma => kernel_rfl) (by as_aux_lemma => kernel_rfl) (fun _ _ _ h => h) (Or.inl ⟨by rfl, ?_⟩) hS ?_
  rotate_left
  · intro w hSw; (try dsimp only at hSw); go_simp; try with_reducible rfl
  try simp only [Act.put, List.getElem_toArray, List.getElem_cons_succ, List.getElem_cons_zero, List.setIfInBounds_toArray, List.set_cons_zero, List.set_cons_succ]
  refine wpAnyH_take (i := 2) (v := ?_) rfl (by as_aux_lemma => kernel_rfl) (by as_aux_lemma => kernel_rfl) (by as_aux_lemma => kernel_rfl) (fun _ _ _ h => h) (Or.inl ⟨by rfl, ?_⟩) hS ?_
  rotate_left
  · intro w hSw; (try dsimp only at hSw); go_simp; try with_reducible rfl
  try simp only [Act.put, List.getElem_toArray, List.getElem_cons_succ, List.getElem_cons_zero, List.setIfInBounds_toArray, List.set_cons_zero, List.set_cons_succ]
  refine wpAnyH_take (i := 3) (v := ?_) rfl (by as_aux_lemma => kernel_rfl) (by as_aux_lemma => kernel_rfl) (by as_aux_lemma => kernel_rfl) (fun _ _ _ h => h) (Or.inl ⟨by rfl, ?_⟩) hS ?_
  rotate_left
  · intro w hSw; (try dsimp only at hSw); go_simp; try with_reducible rfl
  try simp only [Act.put, List.getElem_toArray, List.getElem_cons_succ, List.getElem_cons_zero, List.setIfInBounds_toArray, List.set_cons_zero, List.set_cons_succ]
  refine wpAnyH_take (i := 4) (v := ?_) rfl (by as_aux_lemma => kernel_rfl) (by as_aux_lemma => kernel_rfl) (by as_aux_lemma => kernel_rfl) (fun _ _ _ h => h) (Or.inl ⟨by rfl, ?_⟩) hS ?_
  rotate_left
  · intro w hSw; (try dsimp only at hSw); go_simp; try with_reducible rfl
  try simp only [Act.put, List.getElem_toArray, List.getElem_cons_succ, List.getElem_cons_zero, List.setIfInBounds_toArray, List.set_cons_zero, List.set_cons_succ]
  refine wpAnyH_take (i := 5) (v := ?_) rfl (by as_aux_lemma => kernel_rfl) (by as_aux_lemma => kernel_rfl) (by as_aux_lemma => kernel_rfl) (fun _ _ _ h => h) (Or.inl ⟨by rfl, ?_⟩) hS ?_
  rotate_left
  · intro w hSw; (try dsimp only at hSw); go_simp; try with_reducible rfl
  try simp only [Act.put, List.getElem_toArray, List.getElem_cons_succ, List.getElem_cons_zero, List.setIfInBounds_toArray, List.set_cons_zero, List.set_cons_succ]
  refine wpAnyH_take (i := 6) (v := ?_) rfl (by as_aux_lemma => kernel_rfl) (by as_aux_lemma => kernel_rfl) (by as_aux_lemma => kernel_rfl) (fun _ _ _ h => h) (Or.inl ⟨by rfl, ?_⟩) hS ?_
  rotate_left
  · intro w hSw; (try dsimp only at hSw); go_simp; try with_reducible rfl
  try simp only [Act.put, List.getElem_toArray, List.getElem_cons_succ, List.getElem_cons_zero, List.setIfInBounds_toArray, List.set_cons_zero, List.set_cons_succ]
  refine wpAnyH_take (i := 7) rfl (by as_aux_lemma => kernel_rfl) (by as_aux_lemma => kernel_rfl) (by as_aux_lemma => kernel_rfl) (fun _ _ _ h => h) (yieldsIf_load_blk (by rfl) 26 (.tmp 5) rfl w2.heap.size 0 rfl _ _ #[.int .i64 (pb.H : Int), .int .i64 (pb.W : Int), .int .i64 (pb.C : Int), .slice A2 pb.l.length c2] _ (fun w hs => hs.2.1) Try.underlying26 rfl (by kernel_rfl) rfl) hS ?_
  try simp only [Act.put, List.getElem_toArray, List.getElem_cons_succ, List.getElem_cons_zero, List.setIfInBounds_toArray, List.set_cons_zero, List.set_cons_succ]
  refine wpAnyH_take (i := 8) rfl (by as_aux_lemma => kernel_rfl) (by as_aux_lemma => kernel_rfl) (by as_aux_lemma => kernel_rfl) (fun _ _ _ h => h) (yieldsIf_load_blk (by rfl) 26 (.tmp 2) rfl w.heap.size 0 rfl _ _ #[.int .i64 (p.H : Int), .int .i64 (p.W : Int), .int .i64 (p.C : Int), .slice A p.l.length cap] _ (fun w hs => hs.1) Try.underlying26 rfl (by kernel_rfl) rfl) hS ?_
  try simp only [Act.put, List.getElem_toArray, List.getElem_cons_succ, List.getElem_cons_zero, List.setIfInBounds_toArray, List.set_cons_zero, List.set_cons_succ]
  refine wpAnyH_take (i := 9) (v := ?_) rfl (by as_aux_lemma => kernel_rfl) (by as_aux_lemma => kernel_rfl) (by as_aux_lemma => kernel_rfl) (fun _ _ _ h => h) (Or.inl ⟨by rfl, ?_⟩) hS ?_
  rotate_left
  · intro w hSw; (try dsimp only at hSw); go_simp; try with_reducible rfl
  try simp only [Act.put, List.getElem_toArray, List.getElem_cons_succ, List.getElem_cons_zero, List.setIfInBounds_toArray, List.set_cons_zero, List.set_cons_succ]
  refine wpAnyH_ready (rs := [10]) (by kernel_rfl) (by simp) ?_
  refine AllReadyH.cons rfl (fun K hK => ?_) AllReadyH.nil
  go_simp
  refine (QB.out _ KD.out).mono ?_; rintro e wa ⟨A5, c5, rfl, hs5, hb⟩; have SX := Lib.hid hs5; replace SU := Lib.hid (SU.out.fut hb); replace SV := Lib.hid (SV.out.fut hb); replace KD := Lib.hid (below_later hb KD.out)
  refine hK.out _ _ ?_ (fun hS => ?_)
  · exact ⟨(by first | exact cell_later hb hS.1 | exact Blk.later hS.1 hb), (by first | exact cell_later hb hS.2.1 | exact Blk.later hS.2.1 hb), (by first | exact cell_later hb hS.2.2.1 | exact Blk.later hS.2.2.1 hb), below_later hb hS.2.2.2⟩
  clear hK K
  try simp only [Act.put, List.getElem_toArray, List.getElem_cons_succ, List.getElem_cons_zero, List.setIfInBounds_toArray, List.set_cons_zero, List.set_cons_succ]
  refine wpAnyH_ready (rs := [11]) (by kernel_rfl) (by simp) ?_
  refine AllReadyH.cons rfl (fun K hK => ?_) AllReadyH.nil
  go_simp
  refine (same05_eq (tenOf pb) A2 A5 _ _ _ _ _ SU.out SX.out).mono ?_; rintro e wb ⟨rfl, hb⟩; replace SV := Lib.hid (SV.out.fut hb); replace KD := Lib.hid (below_later hb KD.out)
  refine hK.out _ _ ?_ (fun hS => ?_)
  · exact ⟨(by first | exact cell_later hb hS.1 | exact Blk.later hS.1 hb), (by first | exact cell_later hb hS.2.1 | exact Blk.later hS.2.1 hb), (by first | exact cell_later hb hS.2.2.1 | exact Blk.later hS.2.2.1 hb), below_later hb hS.2.2.2⟩
  clear hK K
  try simp only [Act.put, List.getElem_toArray, List.getElem_cons_succ, List.getElem_cons_zero, List.setIfInBounds_toArray, List.set_cons_zero, List.set_cons_succ]
  refine wpAnyH_take (i := 12) (v := ?_) rfl (by as_aux_lemma => kernel_rfl) (by as_aux_lemma => kernel_rfl) (by as_aux_lemma => kernel_rfl) (fun _ _ _ h => h) (Or.inl ⟨by rfl, ?_⟩) hS ?_
  rotate_left
  · intro w hSw; (try dsimp only at hSw); go_simp; try with_reducible rfl
  try simp only [Act.put, List.getElem_toArray, List.getElem_cons_succ, List.getElem_cons_zero, List.setIfInBounds_toArray, List.set_cons_zero, List.set_cons_succ]
  refine wpAnyH_take (i := 13) (v := ?_) rfl (by as_aux_lemma => kernel_rfl) (by as_aux_lemma => kernel_rfl) (by as_aux_lemma => kernel_rfl) (fun _ _ _ h => h) (Or.inl ⟨by rfl, ?_⟩) hS ?_
  rotate_left
  · intro w hSw; (try dsimp only at hSw); go_simp; try with_reducible rfl
  try simp only [Act.put, List.getElem_toArray, List.getElem_cons_succ, List.getElem_cons_zero, List.setIfInBounds_toArray, List.set_cons_zero, List.set_cons_succ]
  refine wpAnyH_take (i := 14) rfl (by as_aux_lemma => kernel_rfl) (by as_aux_lemma => kernel_rfl) (by as_aux_lemma => kernel_rfl) (fun _ _ _ h => h) (yieldsIf_load_blk (by rfl) 26 (.tmp 7) rfl w4.heap.size 0 rfl _ _ #[.int .i64 (po.H : Int), .int .i64 (po.W : Int), .int .i64 (po.C : Int), .slice A4 po.l.length c4] _ (fun w hs => hs.2.2.1) Try.underlying26 rfl (by kernel_rfl) rfl) hS ?_
  try simp only [Act.put, List.getElem_toArray, List.getElem_cons_succ, List.getElem_cons_zero, List.setIfInBounds_toArray, List.set_cons_zero, List.set_cons_succ]
  refine wpAnyH_take (i := 15) rfl (by as_aux_lemma => kernel_rfl) (by as_aux_lemma => kernel_rfl) (by as_aux_lemma => kernel_rfl) (fun _ _ _ h => h) (yieldsIf_load_blk (by rfl) 26 (.tmp 2) rfl w.heap.size 0 rfl _ _ #[.int .i64 (p.H : Int), .int .i64 (p.W : Int), .int .i64 (p.C : Int), .slice A p.l.length cap] _ (fun w hs => hs.1) Try.underlying26 rfl (by kernel_rfl) rfl) hS ?_
  try simp only [Act.put, List.getElem_toArray, List.getElem_cons_succ, List.getElem_cons_zero, List.setIfInBounds_toArray, List.set_cons_zero, List.set_cons_succ]
  refine wpAnyH_ready (rs := [16]) (by kernel_rfl) (by simp) ?_
  refine AllReadyH.cons rfl (fun K hK => ?_) AllReadyH.nil
  go_simp
  refine (QO.out _ KD.out).mono ?_; rintro e wc ⟨A6, n6, c6, rfl, hs6, hb⟩; have SY := Lib.hid hs6.old; replace SV := Lib.hid (SV.out.fut hb)
  refine hK.out _ _ ?_ (fun hS => ?_)
  · exact ⟨(by first | exact cell_later hb hS.1 | exact Blk.later hS.1 hb), (by first | exact cell_later hb hS.2.1 | exact Blk.later hS.2.1 hb), (by first | exact cell_later hb hS.2.2.1 | exact Blk.later hS.2.2.1 hb), below_later hb hS.2.2.2⟩
  clear hK K
  try simp only [Act.put, List.getElem_toArray, List.getElem_cons_succ, List.getElem_cons_zero, List.setIfInBounds_toArray, List.set_cons_zero, List.set_cons_succ]
  refine wpAnyH_ready (rs := [17]) (by kernel_rfl) (by simp) ?_
  refine AllReadyH.cons rfl (fun K hK => ?_) AllReadyH.nil
  go_simp
  refine (same05_eq (tenOf po) A4 A6 _ _ _ _ _ SV.out SY.out).mono ?_; rintro e wd ⟨rfl, hb⟩
  refine hK.out _ _ ?_ (fun hS => ?_)
  · exact ⟨(by first | exact cell_later hb hS.1 | exact Blk.later hS.1 hb), (by first | exact cell_later hb hS.2.1 | exact Blk.later hS.2.1 hb), (by first | exact cell_later hb hS.2.2.1 | exact Blk.later hS.2.2.1 hb), below_later hb hS.2.2.2⟩
  clear hK K
  try simp only [Act.put, List.getElem_toArray, List.getElem_cons_succ, List.getElem_cons_zero, List.setIfInBounds_toArray, List.set_cons_zero, List.set_cons_succ]
  refine wpAnyH_take (i := 18) (v := ?_) rfl (by as_aux_lemma => kernel_rfl) (by as_aux_lemma => kernel_rfl) (by as_aux_lemma => kernel_rfl) (fun _ _ _ h => h) (Or.inl ⟨by rfl, ?_⟩) hS ?_
  rotate_left
  · intro w hSw; (try dsimp only at hSw); go_simp; try with_reducible rfl
  try simp only [Act.put, List.getElem_toArray, List.getElem_cons_succ, List.getElem_cons_zero, List.setIfInBounds_toArray, List.set_cons_zero, List.set_cons_succ]
  refine wpAnyH_take (i := 19) (v := ?_) rfl (by as_aux_lemma => kernel_rfl) (by as_aux_lemma => kernel_rfl) (by as_aux_lemma => kernel_rfl) (fun _ _ _ h => h) (Or.inl ⟨by rfl, ?_⟩) hS ?_
  rotate_left
  · intro w hSw; (try dsimp only at hSw); go_simp; try with_reducible rfl
  try simp only [Act.put, List.getElem_toArray, List.getElem_cons_succ, List.getElem_cons_zero, List.setIfInBounds_toArray, List.set_cons_zero, List.set_cons_succ]
  refine wpAnyH_ready (rs := [20]) (by kernel_rfl) (by simp) ?_
  refine AllReadyH.cons rfl (fun K hK => ?_) AllReadyH.nil
  go_simp
  refine (known23_any _).mono ?_; rintro e we ⟨rfl, hb⟩
  refine hK.out _ _ ?_ (fun hS => ?_)
  · exact ⟨(by first | exact cell_later hb hS.1 | exact Blk.later hS.1 hb), (by first | exact cell_later hb hS.2.1 | exact Blk.later hS.2.1 hb), (by first | exact cell_later hb hS.2.2.1 | exact Blk.later hS.2.2.1 hb), below_later hb hS.2.2.2⟩
  clear hK K
  try simp only [Act.put, List.getElem_toArray, List.getElem_cons_succ, List.getElem_cons_zero, List.setIfInBounds_toArray, List.set_cons_zero, List.set_cons_succ]
  refine wpAnyH_take (i := 21) (v := ?_) rfl (by as_aux_lemma => kernel_rfl) (by as_aux_lemma => kernel_rfl) (by as_aux_lemma => kernel_rfl) (fun _ _ _ h => h) (Or.inl ⟨by rfl, ?_⟩) hS ?_
  rotate_left
  · intro w hSw; (try dsimp only at hSw); go_simp; try with_reducible rfl
  try simp only [Act.put, List.getElem_toArray, List.getElem_cons_succ, List.getElem_cons_zero, List.setIfInBounds_toArray, List.set_cons_zero, List.set_cons_succ]
  refine wpAnyH_take (i := 22) (v := ?_) rfl (by as_aux_lemma => kernel_rfl) (by as_aux_lemma => kernel_rfl) (by as_aux_lemma => kernel_rfl) (fun _ _ _ h => h) (Or.inl ⟨by rfl, ?_⟩) hS ?_
  rotate_left
  · intro w hSw; (try dsimp only at hSw); go_simp; try with_reducible rfl
  try simp only [Act.put, List.getElem_toArray, List.getElem_cons_succ, List.getElem_cons_zero, List.setIfInBounds_toArray, List.set_cons_zero, List.set_cons_succ]
  refine wpAnyH_done (by kernel_rfl) ?_ _
  have FZ := hS.2.2.2
  go_wp2_with fail
  go_ret
  exact ⟨rfl, FZ⟩

theorem turnTensors_walk (cs : Array Value) (t : Tensor) {W : World} (ht : tTensor.rep W (blo W.heap.size) cs.toList t) (n : Int) (hn : InK .i64 n) (w : World) (e : W = w) :
    Calls Try.prog 3 #[.agg cs, .int .i64 n] w fun e w' => e = .returned (.bool true) ∧ Below w.heap.size w w' := by
  subst e
  obtain ⟨A, m, cap, h0, hi, hs⟩ := tensor_open ht
  obtain rfl : cs = #[.int .i64 t.h, .int .i64 t.v, .int .i64 t.c, .slice A m cap] := by rw [← Array.toArray_toList (xs := cs), h0]
  exact turnTensors_any t.h t.v t.c A m cap t.data n W hs hi.h hi.v hi.c hn
end Go.Proofs.Ytbdanfbfohikdaa
