/-
  The walk of the law TurnAgain (layer 23).
  Conditions: none.
-/
import Derived.Test.YtbdanfbfohikdaaChecked
import Derived.Test.YtbdanfbfohikdaaTurnE
namespace Go.Proofs.Ytbdanfbfohikdaa
set_option linter.unusedVariables false
set_option linter.unusedSimpArgs false
open Go.RowKit Go.ChangeShapes Go.WideShapes
set_option maxRecDepth 100000

set_option maxHeartbeats 16000000 in
theorem turnAgain_any (h v c : Int) (A : Option Addr) (m cap : Nat) (l : List Int) (a b : Int) (w : World) (hs : Sl (tInt .i8) w (blo w.heap.size) A m cap l) (h0 : InK .i64 h) (h1 : InK .i64 v) (h2 : InK .i64 c) (ha : InK .i8 a) (hb : InK .i8 b) :
    Calls Try.prog 4 #[.agg #[.int .i64 h, .int .i64 v, .int .i64 c, .slice A m cap], .int .i8 a, .int .i8 b] w fun e w' => e = .returned (.bool true) ∧ Below w.heap.size w w' := by
  have mm := Nat.le_trans hs.cap_le hs.max_le
  have mm2 : m ≤ 9223372036854775807 := mm
  rw [inK_i8] at ha hb
  obtain ⟨a1, a2⟩ := ha
  obtain ⟨a3, a4⟩ := hb
  have FR := Lib.hid (Far.refl w)
  obtain ⟨w1, hw_w1⟩ : ∃ nw_, w.alloc (.cells #[.int .i64 h, .int .i64 v, .int .i64 c, .slice A m cap] 26) = nw_ := ⟨_, rfl⟩
  have k_w1 : Below w.heap.size w w1 := by rw [← hw_w1]; exact (Below.refl _ _).alloc (Nat.le_refl _) _
  replace FR := Lib.hid (FR.out.fut k_w1)
  have BT := Lib.hid (show Blk w1 w.heap.size 26 #[.int .i64 h, .int .i64 v, .int .i64 c, .slice A m cap] by rw [← hw_w1]; exact Blk.now _ _ _ _ rfl)
  clear k_w1
  have SL := Lib.hid (hs.later FR.out.out (Nat.le_refl _))
  have t3 := BT.out.cell 3
  have RT := Lib.hid (fun w => rtensorRight_any h v c A m cap w h0 h1 h2 mm)
  by_cases c0 : 1024 < m
  · have t0 : decide (1024 < (m : Int)) = true := by simp; omega
    clear hs c0 h0 h1 h2
    go_enter Try.func4, Try.ntmps4
    go_wp2_with fail
    refine (known23_any _).mono ?_
    rintro e w2 ⟨rfl, hb⟩
    replace FR := Lib.hid (FR.out.fut hb)
    clear hb
    go_wp2_with fail
    go_ret
    exact ⟨rfl, FR.out.out⟩
  have t0 : decide (1024 < (m : Int)) = false := by simp; omega
  by_cases cr : 0 < elems h v c ∧ elems h v c = (m : Int)
  rotate_left
  · rw [decide_eq_false cr] at RT
    clear hs c0 cr h0 h1 h2
    go_enter Try.func4, Try.ntmps4
    go_wp2_with (refine wpList_load_midw (by kernel_rfl) 26 (.tmp 3) rfl w.heap.size 0 rfl _ _ (range_blk (vs := [.int .i64 h, .int .i64 v, .int .i64 c, .slice A m cap]) BT.out rfl) Try.underlying26 rfl (by kernel_rfl) ?_)
    clear t3 hw_w1
    refine (RT.out _).mono ?_
    rintro e w2 ⟨rfl, hb⟩
    replace FR := Lib.hid (FR.out.fut hb)
    clear hb
    go_wp2_with fail
    refine (known23_any _).mono ?_
    rintro e w3 ⟨rfl, hb⟩
    replace FR := Lib.hid (FR.out.fut hb)
    clear hb
    go_wp2_with fail
    go_ret
    exact ⟨rfl, FR.out.out⟩
  obtain ⟨p, hp, rfl, rfl, rfl, rfl⟩ := right_pic hs.n_eq cr
  rw [decide_eq_true cr] at RT
  obtain rfl : p.l.length = m := hs.n_eq
  have SLO := Lib.hid SL.out
  have PB := Lib.hid (fun w' (hb : Below w1.heap.size w1 w') => by_ok p hp A cap a w' (SLO.out.later hb (Nat.le_refl _)) (by rw [inK_i64]; omega))
  have PD := Lib.hid (fun w' (hb : Below w1.heap.size w1 w') => by_ok p hp A cap (a + b) w' (SLO.out.later hb (Nat.le_refl _)) (by rw [inK_i64]; omega))
  have PE := Lib.hid (fun w' (hb : Below w1.heap.size w1 w') => by_ok p hp A cap (4 * a) w' (SLO.out.later hb (Nat.le_refl _)) (by rw [inK_i64]; omega))
  have PO := Lib.hid (fun w' (hb : Below w1.heap.size w1 w') => over_right p hp A cap w' (SLO.out.later hb (Nat.le_refl _)))
  have PC := Lib.hid (fun A' cap' w' hs' => by_ok (byV p a) (hp.by_ a) A' cap' b w' hs' (by rw [inK_i64]; omega))
  have PY := Lib.hid (fun A' cap' w' hs' => over_right (over p) hp.over A' cap' w' hs')
  rw [byV_byV hp.ok] at PC
  rw [byV_four] at PE
  rw [over_over hp.ok] at PY
  obtain ⟨u, hu⟩ : ∃ x, byV p a = x := ⟨_, rfl⟩
  obtain ⟨q, hq⟩ : ∃ x, byV p (a + b) = x := ⟨_, rfl⟩
  obtain ⟨o, ho⟩ : ∃ x, over p = x := ⟨_, rfl⟩
  rw [hu] at PB PC
  rw [hq] at PC PD
  rw [ho] at PO PY
  have K := Lib.hid (Below.refl w1.heap.size w1)
  clear hs c0 cr h0 h1 h2 hu hq ho
  go_enter Try.func4, Try.ntmps4
  go_wp2_with (refine wpList_load_midw (by kernel_rfl) 26 (.tmp 3) rfl w.heap.size 0 rfl _ _ (range_blk (vs := [.int .i64 (p.H : Int), .int .i64 (p.W : Int), .int .i64 (p.C : Int), .slice A p.l.length cap]) BT.out rfl) Try.underlying26 rfl (by kernel_rfl) ?_)
  clear t3 hw_w1
  refine (RT.out _).mono ?_
  rintro e w2 ⟨rfl, hb⟩
  replace K := Lib.hid (below_later hb K.out)
  replace FR := Lib.hid (FR.out.fut hb)
  replace BT := Lib.hid (BT.out.fut hb)
  clear hb
  clear RT
  go_wp2_with (refine wpList_load_row rfl 26 (.tmp 3) rfl w.heap.size rfl _ _ (0, 0) _ BT.out.heap Try.underlying26 rfl (by kernel_rfl) ?_)
  refine (PB.out _ (K.out)).mono ?_
  rintro e v1 ⟨A1, m1, c1, rfl, hs, hb⟩
  unfold tenOf at hs
  simp only at hs
  obtain rfl : u.l.length = m1 := hs.n_eq
  have X1 := Lib.hid hs.old
  replace K := Lib.hid (below_later hb K.out)
  have hb' := hb
  replace FR := Lib.hid (FR.out.fut hb)
  replace BT := Lib.hid (BT.out.fut hb)
  clear hb
  clear hs PB
  clear hb'
  go_wp2_with (first
    | (refine wpList_store_all rfl 26 (.tmp 7) (.tmp 34) rfl v1.heap.size #[.int .i64 (u.H : Int), .int .i64 (u.W : Int), .int .i64 (u.C : Int), .slice A1 u.l.length c1] rfl rfl _ _ (Blk.now _ _ _ _ rfl) rfl (by kernel_rfl) (by simp [Value.oneCell']) ?_; intro y1 bq gq; have B1 := Lib.hid bq; have KB1 := Lib.hid (show Below v1.heap.size v1 y1 from ((Below.refl _ _).alloc (Nat.le_refl _) _).grown gq (by simp) (fun k h => by have := Option.some.inj h; omega)); clear bq gq)
    | (refine wpList_load_row rfl 26 (.tmp 7) rfl v1.heap.size rfl _ _ (0, 0) _ B1.out.heap Try.underlying26 rfl (by kernel_rfl) ?_))
  replace K := Lib.hid (below_later KB1.out K.out)
  replace FR := Lib.hid (FR.out.fut KB1.out)
  replace BT := Lib.hid (BT.out.fut KB1.out)
  replace X1 := Lib.hid (X1.out.fut KB1.out)
  clear KB1
  refine (PC.out _ _ _ (X1.out)).mono ?_
  rintro e v2 ⟨A2, m2, c2, rfl, hs, hb⟩
  unfold tenOf at hs
  simp only at hs
  obtain rfl : q.l.length = m2 := hs.n_eq
  have X2 := Lib.hid hs.old
  replace K := Lib.hid (below_later hb K.out)
  have hb' := hb
  replace FR := Lib.hid (FR.out.fut hb)
  replace BT := Lib.hid (BT.out.fut hb)
  replace X1 := Lib.hid (X1.out.fut hb)
  replace B1 := Lib.hid (B1.out.fut hb)
  clear hb
  clear hs PC
  clear hb'
  go_wp2_with (first
    | (refine wpList_store_all rfl 26 (.tmp 9) (.tmp 41) rfl v2.heap.size #[.int .i64 (q.H : Int), .int .i64 (q.W : Int), .int .i64 (q.C : Int), .slice A2 q.l.length c2] rfl rfl _ _ (Blk.now _ _ _ _ rfl) rfl (by kernel_rfl) (by simp [Value.oneCell']) ?_; intro y2 bq gq; have B2 := Lib.hid bq; have KB2 := Lib.hid (show Below v2.heap.size v2 y2 from ((Below.refl _ _).alloc (Nat.le_refl _) _).grown gq (by simp) (fun k h => by have := Option.some.inj h; omega)); clear bq gq; have BTn := Lib.hid (BT.out.fut KB2.out))
    | (refine wpList_load_row rfl 26 (.tmp 3) rfl w.heap.size rfl _ _ (0, 0) _ BTn.out.heap Try.underlying26 rfl (by kernel_rfl) ?_))
  clear BTn
  replace K := Lib.hid (below_later KB2.out K.out)
  replace FR := Lib.hid (FR.out.fut KB2.out)
  replace BT := Lib.hid (BT.out.fut KB2.out)
  replace X1 := Lib.hid (X1.out.fut KB2.out)
  replace B1 := Lib.hid (B1.out.fut KB2.out)
  replace X2 := Lib.hid (X2.out.fut KB2.out)
  clear KB2
  refine (PD.out _ (K.out)).mono ?_
  rintro e v3 ⟨A3, m3, c3, rfl, hs, hb⟩
  unfold tenOf at hs
  simp only at hs
  obtain rfl : q.l.length = m3 := hs.n_eq
  have X3 := Lib.hid hs.old
  replace K := Lib.hid (below_later hb K.out)
  have hb' := hb
  replace FR := Lib.hid (FR.out.fut hb)
  replace BT := Lib.hid (BT.out.fut hb)
  replace X1 := Lib.hid (X1.out.fut hb)
  replace B1 := Lib.hid (B1.out.fut hb)
  replace X2 := Lib.hid (X2.out.fut hb)
  replace B2 := Lib.hid (B2.out.fut hb)
  clear hb
  clear hs PD
  clear hb'
  go_wp2_with (first
    | (refine wpList_store_all rfl 26 (.tmp 11) (.tmp 51) rfl v3.heap.size #[.int .i64 (q.H : Int), .int .i64 (q.W : Int), .int .i64 (q.C : Int), .slice A3 q.l.length c3] rfl rfl _ _ (Blk.now _ _ _ _ rfl) rfl (by kernel_rfl) (by simp [Value.oneCell']) ?_; intro y3 bq gq; have B3 := Lib.hid bq; have KB3 := Lib.hid (show Below v3.heap.size v3 y3 from ((Below.refl _ _).alloc (Nat.le_refl _) _).grown gq (by simp) (fun k h => by have := Option.some.inj h; omega)); clear bq gq; have BTn := Lib.hid (BT.out.fut KB3.out))
    | (refine wpList_load_row rfl 26 (.tmp 3) rfl w.heap.size rfl _ _ (0, 0) _ BTn.out.heap Try.underlying26 rfl (by kernel_rfl) ?_))
  clear BTn
  replace K := Lib.hid (below_later KB3.out K.out)
  replace FR := Lib.hid (FR.out.fut KB3.out)
  replace BT := Lib.hid (BT.out.fut KB3.out)
  replace X1 := Lib.hid (X1.out.fut KB3.out)
  replace B1 := Lib.hid (B1.out.fut KB3.out)
  replace X2 := Lib.hid (X2.out.fut KB3.out)
  replace B2 := Lib.hid (B2.out.fut KB3.out)
  replace X3 := Lib.hid (X3.out.fut KB3.out)
  clear KB3
  refine (PE.out _ (K.out)).mono ?_
  rintro e v4 ⟨A4, m4, c4, rfl, hs, hb⟩
  unfold tenOf at hs
  simp only at hs
  obtain rfl : p.l.length = m4 := hs.n_eq
  have X4 := Lib.hid hs.old
  replace K := Lib.hid (below_later hb K.out)
  have hb' := hb
  replace FR := Lib.hid (FR.out.fut hb)
  replace BT := Lib.hid (BT.out.fut hb)
  replace X1 := Lib.hid (X1.out.fut hb)
  replace B1 := Lib.hid (B1.out.fut hb)
  replace X2 := Lib.hid (X2.out.fut hb)
  replace B2 := Lib.hid (B2.out.fut hb)
  replace X3 := Lib.hid (X3.out.fut hb)
  replace B3 := Lib.hid (B3.out.fut hb)
  clear hb
  clear hs PE
  clear hb'
  go_wp2_with (first
    | (refine wpList_store_all rfl 26 (.tmp 13) (.tmp 59) rfl v4.heap.size #[.int .i64 (p.H : Int), .int .i64 (p.W : Int), .int .i64 (p.C : Int), .slice A4 p.l.length c4] rfl rfl _ _ (Blk.now _ _ _ _ rfl) rfl (by kernel_rfl) (by simp [Value.oneCell']) ?_; intro y4 bq gq; have B4 := Lib.hid bq; have KB4 := Lib.hid (show Below v4.heap.size v4 y4 from ((Below.refl _ _).alloc (Nat.le_refl _) _).grown gq (by simp) (fun k h => by have := Option.some.inj h; omega)); clear bq gq; have BTn := Lib.hid (BT.out.fut KB4.out))
    | (refine wpList_load_row rfl 26 (.tmp 3) rfl w.heap.size rfl _ _ (0, 0) _ BTn.out.heap Try.underlying26 rfl (by kernel_rfl) ?_))
  clear BTn
  replace K := Lib.hid (below_later KB4.out K.out)
  replace FR := Lib.hid (FR.out.fut KB4.out)
  replace BT := Lib.hid (BT.out.fut KB4.out)
  replace X1 := Lib.hid (X1.out.fut KB4.out)
  replace B1 := Lib.hid (B1.out.fut KB4.out)
  replace X2 := Lib.hid (X2.out.fut KB4.out)
  replace B2 := Lib.hid (B2.out.fut KB4.out)
  replace X3 := Lib.hid (X3.out.fut KB4.out)
  replace B3 := Lib.hid (B3.out.fut KB4.out)
  replace X4 := Lib.hid (X4.out.fut KB4.out)
  clear KB4
  refine (PO.out _ (K.out)).mono ?_
  rintro e v5 ⟨A5, m5, c5, rfl, hs, hb⟩
  unfold tenOf at hs
  simp only at hs
  obtain rfl : o.l.length = m5 := hs.n_eq
  have X5 := Lib.hid hs.old
  replace K := Lib.hid (below_later hb K.out)
  have hb' := hb
  replace FR := Lib.hid (FR.out.fut hb)
  replace BT := Lib.hid (BT.out.fut hb)
  replace X1 := Lib.hid (X1.out.fut hb)
  replace B1 := Lib.hid (B1.out.fut hb)
  replace X2 := Lib.hid (X2.out.fut hb)
  replace B2 := Lib.hid (B2.out.fut hb)
  replace X3 := Lib.hid (X3.out.fut hb)
  replace B3 := Lib.hid (B3.out.fut hb)
  replace X4 := Lib.hid (X4.out.fut hb)
  replace B4 := Lib.hid (B4.out.fut hb)
  clear hb
  clear hs PO
  clear hb'
  go_wp2_with (first
    | (refine wpList_store_all rfl 26 (.tmp 15) (.tmp 64) rfl v5.heap.size #[.int .i64 (o.H : Int), .int .i64 (o.W : Int), .int .i64 (o.C : Int), .slice A5 o.l.length c5] rfl rfl _ _ (Blk.now _ _ _ _ rfl) rfl (by kernel_rfl) (by simp [Value.oneCell']) ?_; intro y5 bq gq; have B5 := Lib.hid bq; have KB5 := Lib.hid (show Below v5.heap.size v5 y5 from ((Below.refl _ _).alloc (Nat.le_refl _) _).grown gq (by simp) (fun k h => by have := Option.some.inj h; omega)); clear bq gq)
    | (refine wpList_load_row rfl 26 (.tmp 15) rfl v5.heap.size rfl _ _ (0, 0) _ B5.out.heap Try.underlying26 rfl (by kernel_rfl) ?_))
  replace K := Lib.hid (below_later KB5.out K.out)
  replace FR := Lib.hid (FR.out.fut KB5.out)
  replace BT := Lib.hid (BT.out.fut KB5.out)
  replace X1 := Lib.hid (X1.out.fut KB5.out)
  replace B1 := Lib.hid (B1.out.fut KB5.out)
  replace X2 := Lib.hid (X2.out.fut KB5.out)
  replace B2 := Lib.hid (B2.out.fut KB5.out)
  replace X3 := Lib.hid (X3.out.fut KB5.out)
  replace B3 := Lib.hid (B3.out.fut KB5.out)
  replace X4 := Lib.hid (X4.out.fut KB5.out)
  replace B4 := Lib.hid (B4.out.fut KB5.out)
  replace X5 := Lib.hid (X5.out.fut KB5.out)
  clear KB5
  refine (PY.out _ _ _ (X5.out)).mono ?_
  rintro e v6 ⟨A6, m6, c6, rfl, hs, hb⟩
  unfold tenOf at hs
  simp only at hs
  obtain rfl : p.l.length = m6 := hs.n_eq
  have X6 := Lib.hid hs.old
  replace K := Lib.hid (below_later hb K.out)
  have hb' := hb
  replace FR := Lib.hid (FR.out.fut hb)
  replace BT := Lib.hid (BT.out.fut hb)
  replace X1 := Lib.hid (X1.out.fut hb)
  replace B1 := Lib.hid (B1.out.fut hb)
  replace X2 := Lib.hid (X2.out.fut hb)
  replace B2 := Lib.hid (B2.out.fut hb)
  replace X3 := Lib.hid (X3.out.fut hb)
  replace B3 := Lib.hid (B3.out.fut hb)
  replace X4 := Lib.hid (X4.out.fut hb)
  replace B4 := Lib.hid (B4.out.fut hb)
  replace X5 := Lib.hid (X5.out.fut hb)
  replace B5 := Lib.hid (B5.out.fut hb)
  clear hb
  clear hs PY
  clear hb'
  go_upto_region 9 with (refine wpList_store_all rfl 26 (.tmp 17) (.tmp 69) rfl v6.heap.size #[.int .i64 (p.H : Int), .int .i64 (p.W : Int), .int .i64 (p.C : Int), .slice A6 p.l.length c6] rfl rfl _ _ (Blk.now _ _ _ _ rfl) rfl (by kernel_rfl) (by simp [Value.oneCell']) ?_; intro y6 bq gq; have B6 := Lib.hid bq; have KB6 := Lib.hid (show Below v6.heap.size v6 y6 from ((Below.refl _ _).alloc (Nat.le_refl _) _).grown gq (by simp) (fun k h => by have := Option.some.inj h; omega)); clear bq gq)
  replace K := Lib.hid (below_later KB6.out K.out)
  replace FR := Lib.hid (FR.out.fut KB6.out)
  replace BT := Lib.hid (BT.out.fut KB6.out)
  replace X1 := Lib.hid (X1.out.fut KB6.out)
  replace B1 := Lib.hid (B1.out.fut KB6.out)
  replace X2 := Lib.hid (X2.out.fut KB6.out)
  replace B2 := Lib.hid (B2.out.fut KB6.out)
  replace X3 := Lib.hid (X3.out.fut KB6.out)
  replace B3 := Lib.hid (B3.out.fut KB6.out)
  replace X4 := Lib.hid (X4.out.fut KB6.out)
  replace B4 := Lib.hid (B4.out.fut KB6.out)
  replace X5 := Lib.hid (X5.out.fut KB6.out)
  replace B5 := Lib.hid (B5.out.fut KB6.out)
  replace X6 := Lib.hid (X6.out.fut KB6.out)
  clear KB6
  replace SL := Lib.hid (SL.out.later K.out (Nat.le_refl _))
  go_wp2_with (first
    | (refine wpList_load_midw (by kernel_rfl) 26 (.tmp 9) rfl v2.heap.size 0 rfl _ _ (range_blk (vs := [.int .i64 (q.H : Int), .int .i64 (q.W : Int), .int .i64 (q.C : Int), .slice A2 q.l.length c2]) B2.out rfl) Try.underlying26 rfl (by kernel_rfl) ?_)
    | (refine wpList_load_midw (by kernel_rfl) 26 (.tmp 11) rfl v3.heap.size 0 rfl _ _ (range_blk (vs := [.int .i64 (q.H : Int), .int .i64 (q.W : Int), .int .i64 (q.C : Int), .slice A3 q.l.length c3]) B3.out rfl) Try.underlying26 rfl (by kernel_rfl) ?_))
  refine (same05_eq (tenOf q) _ _ _ _ _ _ _ X2.out X3.out).mono ?_
  rintro e zz ⟨rfl, hb⟩
  replace SL := Lib.hid (SL.out.fut hb)
  replace FR := Lib.hid (FR.out.fut hb)
  replace BT := Lib.hid (BT.out.fut hb)
  replace X1 := Lib.hid (X1.out.fut hb)
  replace B1 := Lib.hid (B1.out.fut hb)
  replace X2 := Lib.hid (X2.out.fut hb)
  replace B2 := Lib.hid (B2.out.fut hb)
  replace X3 := Lib.hid (X3.out.fut hb)
  replace B3 := Lib.hid (B3.out.fut hb)
  replace X4 := Lib.hid (X4.out.fut hb)
  replace B4 := Lib.hid (B4.out.fut hb)
  replace X5 := Lib.hid (X5.out.fut hb)
  replace B5 := Lib.hid (B5.out.fut hb)
  replace X6 := Lib.hid (X6.out.fut hb)
  replace B6 := Lib.hid (B6.out.fut hb)
  clear hb
  go_wp2_with (first
    | (refine wpList_load_midw (by kernel_rfl) 26 (.tmp 13) rfl v4.heap.size 0 rfl _ _ (range_blk (vs := [.int .i64 (p.H : Int), .int .i64 (p.W : Int), .int .i64 (p.C : Int), .slice A4 p.l.length c4]) B4.out rfl) Try.underlying26 rfl (by kernel_rfl) ?_)
    | (refine wpList_load_midw (by kernel_rfl) 26 (.tmp 3) rfl w.heap.size 0 rfl _ _ (range_blk (vs := [.int .i64 (p.H : Int), .int .i64 (p.W : Int), .int .i64 (p.C : Int), .slice A p.l.length cap]) BT.out rfl) Try.underlying26 rfl (by kernel_rfl) ?_))
  refine (same05_eq (tenOf p) _ _ _ _ _ _ _ X4.out SL.out).mono ?_
  rintro e zz ⟨rfl, hb⟩
  replace SL := Lib.hid (SL.out.fut hb)
  replace FR := Lib.hid (FR.out.fut hb)
  replace BT := Lib.hid (BT.out.fut hb)
  replace X1 := Lib.hid (X1.out.fut hb)
  replace B1 := Lib.hid (B1.out.fut hb)
  replace X2 := Lib.hid (X2.out.fut hb)
  replace B2 := Lib.hid (B2.out.fut hb)
  replace X3 := Lib.hid (X3.out.fut hb)
  replace B3 := Lib.hid (B3.out.fut hb)
  replace X4 := Lib.hid (X4.out.fut hb)
  replace B4 := Lib.hid (B4.out.fut hb)
  replace X5 := Lib.hid (X5.out.fut hb)
  replace B5 := Lib.hid (B5.out.fut hb)
  replace X6 := Lib.hid (X6.out.fut hb)
  replace B6 := Lib.hid (B6.out.fut hb)
  clear hb
  go_wp2_with (first
    | (refine wpList_load_midw (by kernel_rfl) 26 (.tmp 17) rfl v6.heap.size 0 rfl _ _ (range_blk (vs := [.int .i64 (p.H : Int), .int .i64 (p.W : Int), .int .i64 (p.C : Int), .slice A6 p.l.length c6]) B6.out rfl) Try.underlying26 rfl (by kernel_rfl) ?_)
    | (refine wpList_load_midw (by kernel_rfl) 26 (.tmp 3) rfl w.heap.size 0 rfl _ _ (range_blk (vs := [.int .i64 (p.H : Int), .int .i64 (p.W : Int), .int .i64 (p.C : Int), .slice A p.l.length cap]) BT.out rfl) Try.underlying26 rfl (by kernel_rfl) ?_))
  refine (same05_eq (tenOf p) _ _ _ _ _ _ _ X6.out SL.out).mono ?_
  rintro e zz ⟨rfl, hb⟩
  replace SL := Lib.hid (SL.out.fut hb)
  replace FR := Lib.hid (FR.out.fut hb)
  replace BT := Lib.hid (BT.out.fut hb)
  replace X1 := Lib.hid (X1.out.fut hb)
  replace B1 := Lib.hid (B1.out.fut hb)
  replace X2 := Lib.hid (X2.out.fut hb)
  replace B2 := Lib.hid (B2.out.fut hb)
  replace X3 := Lib.hid (X3.out.fut hb)
  replace B3 := Lib.hid (B3.out.fut hb)
  replace X4 := Lib.hid (X4.out.fut hb)
  replace B4 := Lib.hid (B4.out.fut hb)
  replace X5 := Lib.hid (X5.out.fut hb)
  replace B5 := Lib.hid (B5.out.fut hb)
  replace X6 := Lib.hid (X6.out.fut hb)
  replace B6 := Lib.hid (B6.out.fut hb)
  clear hb
  go_wp2_with fail
  refine (known23_any _).mono ?_
  rintro e we ⟨rfl, hb⟩
  replace FR := Lib.hid (FR.out.fut hb)
  clear hb
  go_wp2_with fail
  go_ret
  exact ⟨rfl, FR.out.out⟩

theorem turnAgain_walk (cs : Array Value) (t : Tensor) {W : World} (ht : tTensor.rep W (blo W.heap.size) cs.toList t) (a : Int) (ha : InK .i8 a) (b : Int) (hb : InK .i8 b) (w : World) (e : W = w) :
    Calls Try.prog 4 #[.agg cs, .int .i8 a, .int .i8 b] w fun e w' => e = .returned (.bool true) ∧ Below w.heap.size w w' := by
  subst e
  obtain ⟨A, m, cap, h0, hi, hs⟩ := tensor_open ht
  obtain rfl : cs = #[.int .i64 t.h, .int .i64 t.v, .int .i64 t.c, .slice A m cap] := by rw [← Array.toArray_toList (xs := cs), h0]
  exact turnAgain_any t.h t.v t.c A m cap t.data a b W hs hi.h hi.v hi.c ha hb
end Go.Proofs.Ytbdanfbfohikdaa
