/-
  turn.Back, and the walk of the law TurnViews (layer 23).
  Conditions: none.
-/
import Derived.Test.YtbdanfbfohikdaaChecked
import Derived.Test.YtbdanfbfohikdaaTurnG
namespace Go.Proofs.Ytbdanfbfohikdaa
set_option linter.unusedVariables false
set_option linter.unusedSimpArgs false
open Go.RowKit Go.ChangeShapes Go.WideShapes
set_option maxRecDepth 100000

theorem back_bad (h v c : Int) (A : Option Addr) (m cap : Nat) (n : Int) (w : World) (h0 : InK .i64 h) (h1 : InK .i64 v) (h2 : InK .i64 c) (hn : m ≤ maxLen) (hb : ¬ (0 < elems h v c ∧ elems h v c = m)) :
    Calls Try.prog 14 #[.agg #[.int .i64 h, .int .i64 v, .int .i64 c, .slice A m cap], .int .i64 n] w fun e w' => e = .returned (.tuple #[.agg #[.int .i64 0, .int .i64 0, .int .i64 0, .slice none 0 0], .int .i64 5]) ∧ Below w.heap.size w w' := by
  have FR := Lib.hid (Far.refl w)
  obtain ⟨w1, hw_w1⟩ : ∃ nw_, w.alloc (.cells #[.int .i64 h, .int .i64 v, .int .i64 c, .slice A m cap] 26) = nw_ := ⟨_, rfl⟩
  have k_w1 : Below w.heap.size w w1 := by rw [← hw_w1]; exact (Below.refl _ _).alloc (Nat.le_refl _) _
  replace FR := Lib.hid (FR.out.fut k_w1)
  have BT := Lib.hid (show Blk w1 w.heap.size 26 #[.int .i64 h, .int .i64 v, .int .i64 c, .slice A m cap] by rw [← hw_w1]; exact Blk.now _ _ _ _ rfl)
  clear k_w1
  obtain ⟨w3, hw_w3⟩ : ∃ nw_, w1.alloc (.cells #[.int .i64 0, .int .i64 0, .int .i64 0, .slice none 0 0] 26) = nw_ := ⟨_, rfl⟩
  have k_w3 : Below w1.heap.size w1 w3 := by rw [← hw_w3]; exact (Below.refl _ _).alloc (Nat.le_refl _) _
  replace FR := Lib.hid (FR.out.fut k_w3)
  replace BT := Lib.hid (BT.out.fut k_w3)
  have BR := Lib.hid (show Blk w3 w1.heap.size 26 #[.int .i64 0, .int .i64 0, .int .i64 0, .slice none 0 0] by rw [← hw_w3]; exact Blk.now _ _ _ _ rfl)
  clear k_w3
  have l01 : w.heap.size < w1.heap.size := by rw [← hw_w1]; simp
  have TR := Lib.hid (fun w => tensorRight_bad h v c A m cap w h0 h1 h2 hn hb)
  clear h0 h1 h2 hn hb
  go_enter Try.func14, Try.ntmps14
  go_wp2_with (refine wpList_load_row rfl 26 (.tmp 2) rfl w.heap.size rfl _ _ (0, 0) _ BT.out.heap Try.underlying26 rfl (by kernel_rfl) ?_)
  clear hw_w1 hw_w3
  refine (TR.out _).mono ?_
  rintro e w4 ⟨rfl, hb⟩
  replace FR := Lib.hid (FR.out.fut hb)
  replace BT := Lib.hid (BT.out.fut hb)
  replace BR := Lib.hid (BR.out.fut hb)
  clear hb
  go_wp2_with (refine wpList_store_all rfl 26 (.tmp 4) (.tmp 11) rfl w1.heap.size #[.int .i64 0, .int .i64 0, .int .i64 0, .slice none 0 0] rfl rfl _ _ BR.out rfl (by kernel_rfl) (by simp [Value.oneCell']) ?_; intro w7 BQ gq; have BQ := Lib.hid BQ; have gq := Lib.hid gq)
  have BF := FR.out.out.grown gq.out FR.out.out.size (fun j hj => by have := Option.some.inj hj; omega)
  refine ret_cell_tmp rfl BQ.out rfl Try.underlying26 (by kernel_rfl) rfl ?_
  exact ⟨rfl, BF⟩

theorem back_no (p : Pic) (hp : p.Right) (A : Option Addr) (cap : Nat) (n : Int) (w : World) (hn : n < 0 ∨ 8 ≤ n) :
    Calls Try.prog 14 #[.agg #[.int .i64 (p.H : Int), .int .i64 (p.W : Int), .int .i64 (p.C : Int), .slice A p.l.length cap], .int .i64 n] w fun e w' => e = .returned (.tuple #[.agg #[.int .i64 0, .int .i64 0, .int .i64 0, .slice none 0 0], .int .i64 2]) ∧ Below w.heap.size w w' := by
  have FR := Lib.hid (Far.refl w)
  obtain ⟨w1, hw_w1⟩ : ∃ nw_, w.alloc (.cells #[.int .i64 (p.H : Int), .int .i64 (p.W : Int), .int .i64 (p.C : Int), .slice A p.l.length cap] 26) = nw_ := ⟨_, rfl⟩
  have k_w1 : Below w.heap.size w w1 := by rw [← hw_w1]; exact (Below.refl _ _).alloc (Nat.le_refl _) _
  replace FR := Lib.hid (FR.out.fut k_w1)
  have BT := Lib.hid (show Blk w1 w.heap.size 26 #[.int .i64 (p.H : Int), .int .i64 (p.W : Int), .int .i64 (p.C : Int), .slice A p.l.length cap] by rw [← hw_w1]; exact Blk.now _ _ _ _ rfl)
  clear k_w1
  obtain ⟨w3, hw_w3⟩ : ∃ nw_, w1.alloc (.cells #[.int .i64 0, .int .i64 0, .int .i64 0, .slice none 0 0] 26) = nw_ := ⟨_, rfl⟩
  have k_w3 : Below w1.heap.size w1 w3 := by rw [← hw_w3]; exact (Below.refl _ _).alloc (Nat.le_refl _) _
  replace FR := Lib.hid (FR.out.fut k_w3)
  replace BT := Lib.hid (BT.out.fut k_w3)
  have BR := Lib.hid (show Blk w3 w1.heap.size 26 #[.int .i64 0, .int .i64 0, .int .i64 0, .slice none 0 0] by rw [← hw_w3]; exact Blk.now _ _ _ _ rfl)
  clear k_w3
  have l01 : w.heap.size < w1.heap.size := by rw [← hw_w1]; simp
  have TR := Lib.hid (tensorRight_ok hp A cap)
  by_cases c1 : n < 0
  · have t1 : decide (n < 0) = true := by simp; omega
    clear hp hn c1
    go_enter Try.func14, Try.ntmps14
    go_wp2_with (refine wpList_load_row rfl 26 (.tmp 2) rfl w.heap.size rfl _ _ (0, 0) _ BT.out.heap Try.underlying26 rfl (by kernel_rfl) ?_)
    clear hw_w1 hw_w3
    refine (TR.out _).mono ?_
    rintro e w4 ⟨rfl, hb⟩
    replace FR := Lib.hid (FR.out.fut hb)
    replace BT := Lib.hid (BT.out.fut hb)
    replace BR := Lib.hid (BR.out.fut hb)
    clear hb
    go_wp2_with (refine wpList_store_all rfl 26 (.tmp 4) (.tmp 18) rfl w1.heap.size #[.int .i64 0, .int .i64 0, .int .i64 0, .slice none 0 0] rfl rfl _ _ BR.out rfl (by kernel_rfl) (by simp [Value.oneCell']) ?_; intro w7 BQ gq; have BQ := Lib.hid BQ; have gq := Lib.hid gq)
    have BF := FR.out.out.grown gq.out FR.out.out.size (fun j hj => by have := Option.some.inj hj; omega)
    refine ret_cell_tmp rfl BQ.out rfl Try.underlying26 (by kernel_rfl) rfl ?_
    exact ⟨rfl, BF⟩
  · have t1 : decide (n < 0) = false := by simp; omega
    have t2 : decide (8 ≤ n) = true := by simp; omega
    clear hp hn c1
    go_enter Try.func14, Try.ntmps14
    go_wp2_with (refine wpList_load_row rfl 26 (.tmp 2) rfl w.heap.size rfl _ _ (0, 0) _ BT.out.heap Try.underlying26 rfl (by kernel_rfl) ?_)
    clear hw_w1 hw_w3
    refine (TR.out _).mono ?_
    rintro e w4 ⟨rfl, hb⟩
    replace FR := Lib.hid (FR.out.fut hb)
    replace BT := Lib.hid (BT.out.fut hb)
    replace BR := Lib.hid (BR.out.fut hb)
    clear hb
    go_wp2_with (refine wpList_store_all rfl 26 (.tmp 4) (.tmp 18) rfl w1.heap.size #[.int .i64 0, .int .i64 0, .int .i64 0, .slice none 0 0] rfl rfl _ _ BR.out rfl (by kernel_rfl) (by simp [Value.oneCell']) ?_; intro w7 BQ gq; have BQ := Lib.hid BQ; have gq := Lib.hid gq)
    have BF := FR.out.out.grown gq.out FR.out.out.size (fun j hj => by have := Option.some.inj hj; omega)
    refine ret_cell_tmp rfl BQ.out rfl Try.underlying26 (by kernel_rfl) rfl ?_
    exact ⟨rfl, BF⟩

/-- The tensor of which one is view number n. -/
def backV (p : Pic) (n : Int) : Pic := if n < 4 then byV p (-n) else over (byV p (-n))
theorem backV_right {p : Pic} (hp : p.Right) (n : Int) : (backV p n).Right := by unfold backV; split; exact hp.by_ _; exact (hp.by_ _).over
theorem backV_view {p : Pic} (hp : p.Right) (k : Nat) : backV (viewOf p k) (k : Int) = p := by
  unfold backV viewOf viewFrom
  by_cases h : k < 4
  · rw [if_pos (by omega), if_pos h, byV_back hp.ok]
  · rw [if_neg (by omega), if_neg h, byV_back hp.over.ok, over_over hp.ok]

set_option maxHeartbeats 8000000 in
theorem back_ok (p : Pic) (hp : p.Right) (A : Option Addr) (cap : Nat) (n : Int) (w : World) (hs : Sl (tInt .i8) w (blo w.heap.size) A p.l.length cap p.l) (h1 : 0 ≤ n) (h2 : n < 8) :
    Calls Try.prog 14 #[.agg #[.int .i64 (p.H : Int), .int .i64 (p.W : Int), .int .i64 (p.C : Int), .slice A p.l.length cap], .int .i64 n] w (RetT .i8 (tenOf (backV p n)) 0 w) := by
  have FR := Lib.hid (Far.refl w)
  obtain ⟨w1, hw_w1⟩ : ∃ nw_, w.alloc (.cells #[.int .i64 (p.H : Int), .int .i64 (p.W : Int), .int .i64 (p.C : Int), .slice A p.l.length cap] 26) = nw_ := ⟨_, rfl⟩
  have k_w1 : Below w.heap.size w w1 := by rw [← hw_w1]; exact (Below.refl _ _).alloc (Nat.le_refl _) _
  replace FR := Lib.hid (FR.out.fut k_w1)
  have BT := Lib.hid (show Blk w1 w.heap.size 26 #[.int .i64 (p.H : Int), .int .i64 (p.W : Int), .int .i64 (p.C : Int), .slice A p.l.length cap] by rw [← hw_w1]; exact Blk.now _ _ _ _ rfl)
  clear k_w1
  obtain ⟨w3, hw_w3⟩ : ∃ nw_, w1.alloc (.cells #[.int .i64 0, .int .i64 0, .int .i64 0, .slice none 0 0] 26) = nw_ := ⟨_, rfl⟩
  have k_w3 : Below w1.heap.size w1 w3 := by rw [← hw_w3]; exact (Below.refl _ _).alloc (Nat.le_refl _) _
  replace FR := Lib.hid (FR.out.fut k_w3)
  replace BT := Lib.hid (BT.out.fut k_w3)
  have BR := Lib.hid (show Blk w3 w1.heap.size 26 #[.int .i64 0, .int .i64 0, .int .i64 0, .slice none 0 0] by rw [← hw_w3]; exact Blk.now _ _ _ _ rfl)
  clear k_w3
  have SL := Lib.hid (hs.later FR.out.out (Nat.le_refl _))
  have l01 : w.heap.size < w1.heap.size := by rw [← hw_w1]; simp
  have TR := Lib.hid (tensorRight_ok hp A cap)
  have t1 : decide (n < 0) = false := by simp; omega
  have t2 : decide (8 ≤ n) = false := by simp; omega
  have PB := Lib.hid (fun A' cap' w' hs' => by_ok p hp A' cap' (-n) w' hs' (by rw [inK_i64]; omega))
  have PO := Lib.hid (fun A' cap' w' hs' => over_right (byV p (-n)) (hp.by_ _) A' cap' w' hs')
  have HB := Lib.hid (show backV p n = if n < 4 then byV p (-n) else over (byV p (-n)) from rfl)
  obtain ⟨q, hq⟩ : ∃ x, byV p (-n) = x := ⟨_, rfl⟩
  rw [hq] at PB PO HB
  clear hp hs hq
  go_enter Try.func14, Try.ntmps14
  go_wp2_with (refine wpList_load_row rfl 26 (.tmp 2) rfl w.heap.size rfl _ _ (0, 0) _ BT.out.heap Try.underlying26 rfl (by kernel_rfl) ?_)
  clear hw_w1 hw_w3
  refine (TR.out _).mono ?_
  rintro e w4 ⟨rfl, hb⟩
  replace FR := Lib.hid (FR.out.fut hb)
  replace BT := Lib.hid (BT.out.fut hb)
  replace BR := Lib.hid (BR.out.fut hb)
  replace SL := Lib.hid (SL.out.fut hb)
  clear hb
  clear TR
  go_wp2_with (refine wpList_load_row rfl 26 (.tmp 2) rfl w.heap.size rfl _ _ (0, 0) _ BT.out.heap Try.underlying26 rfl (by kernel_rfl) ?_)
  refine (PB.out _ _ _ SL.out).mono ?_
  rintro e w5 ⟨A5, m5, c5, rfl, hs5, hb⟩
  unfold tenOf at hs5
  simp only at hs5
  obtain rfl : q.l.length = m5 := hs5.n_eq
  have S5 := Lib.hid (hs5.more (bin_more FR.out.out.size (Nat.le_refl _)) : Sl (tInt .i8) w5 (bin w.heap.size w5.heap.size) A5 q.l.length c5 q.l)
  have S5n := Lib.hid (hs5.more (S' := fun b => w1.heap.size < b ∧ w.heap.size ≤ b ∧ b < w5.heap.size) (fun b hb => by have h1 := hb.1; have h2 := hb.2; have := BR.out.lt; have := FR.out.out.size; omega))
  replace FR := Lib.hid (FR.out.fut hb)
  replace BR := Lib.hid (BR.out.fut hb)
  clear hb
  clear PB BT SL hs5 S5
  by_cases h4 : n < 4
  · have t3 : decide (n < 4) = true := by simp; omega
    rw [if_pos h4] at HB
    clear h4 PO
    go_wp2_with (first
      | (refine wpList_store_all rfl 26 (.tmp 6) (.tmp 24) rfl w5.heap.size #[.int .i64 (q.H : Int), .int .i64 (q.W : Int), .int .i64 (q.C : Int), .slice A5 q.l.length c5] rfl rfl _ _ (Blk.now _ _ _ _ rfl) rfl (by kernel_rfl) (by simp [Value.oneCell']) ?_; intro w6 bq gq; have B6 := Lib.hid bq; have KB6 := Lib.hid (show Below w5.heap.size w5 w6 from ((Below.refl _ _).alloc (Nat.le_refl _) _).grown gq (by simp) (fun k h => by have := Option.some.inj h; omega)); clear bq gq; have BR6 := Lib.hid (BR.out.fut KB6.out))
      | (refine wpList_load_row rfl 26 (.tmp 6) rfl w5.heap.size rfl _ _ (0, 0) _ B6.out.heap Try.underlying26 rfl (by kernel_rfl) ?_)
      | (refine wpList_store_all rfl 26 (.tmp 4) (.tmp 32) rfl w1.heap.size #[.int .i64 (q.H : Int), .int .i64 (q.W : Int), .int .i64 (q.C : Int), .slice A5 q.l.length c5] rfl rfl _ _ BR6.out rfl (by kernel_rfl) (by simp [Value.oneCell']) ?_; intro w7 BQ gq; have BQ := Lib.hid BQ; have gq := Lib.hid gq))
    have F6 := FR.out.fut KB6.out
    have BF := F6.out.grown gq.out F6.out.size (fun j hj => by have := Option.some.inj hj; omega)
    refine ret_cell_tmp rfl BQ.out rfl Try.underlying26 (by kernel_rfl) rfl ?_
    rw [HB.out]
    have z6 := KB6.out.size
    have zq := gq.out.size
    refine ⟨A5, q.l.length, c5, rfl, ?_, BF⟩
    exact ((S5n.out.below KB6.out (fun b hb => hb.2.2)).keep fun b hb => gq.out.block b (by have := hb.2.2; omega) (by have := hb.1; simp; omega)).more fun b hb => ⟨hb.2.1, by have := hb.2.2; omega⟩
  · have t3 : decide (n < 4) = false := by simp; omega
    rw [if_neg h4] at HB
    clear h4
    go_wp2_with (first
      | (refine wpList_store_all rfl 26 (.tmp 6) (.tmp 24) rfl w5.heap.size #[.int .i64 (q.H : Int), .int .i64 (q.W : Int), .int .i64 (q.C : Int), .slice A5 q.l.length c5] rfl rfl _ _ (Blk.now _ _ _ _ rfl) rfl (by kernel_rfl) (by simp [Value.oneCell']) ?_; intro w6 bq gq; have B6 := Lib.hid bq; have KB6 := Lib.hid (show Below w5.heap.size w5 w6 from ((Below.refl _ _).alloc (Nat.le_refl _) _).grown gq (by simp) (fun k h => by have := Option.some.inj h; omega)); clear bq gq; have BR6 := Lib.hid (BR.out.fut KB6.out))
      | (refine wpList_load_row rfl 26 (.tmp 6) rfl w5.heap.size rfl _ _ (0, 0) _ B6.out.heap Try.underlying26 rfl (by kernel_rfl) ?_))
    have z6 := KB6.out.size
    have F6 := Lib.hid (FR.out.fut KB6.out)
    refine (PO.out _ _ _ (((S5n.out.below KB6.out (fun b hb => hb.2.2))).more fun b hb => by have := hb.2.2; show b < w6.heap.size; omega)).mono ?_
    rintro e w7 ⟨A7, m7, c7, rfl, hs7, hb⟩
    unfold tenOf at hs7
    simp only at hs7
    have S7 := Lib.hid hs7
    have z7 := hb.size
    replace F6 := Lib.hid (F6.out.fut hb)
    replace BR6 := Lib.hid (BR6.out.fut hb)
    clear hb
    clear hs7 PO
    go_wp2_with (refine wpList_store_all rfl 26 (.tmp 4) (.tmp 36) rfl w1.heap.size #[.int .i64 ((over q).H : Int), .int .i64 ((over q).W : Int), .int .i64 ((over q).C : Int), .slice A7 m7 c7] rfl rfl _ _ BR6.out rfl (by kernel_rfl) (by simp [Value.oneCell']) ?_; intro w8 BQ gq; have BQ := Lib.hid BQ; have gq := Lib.hid gq)
    have BF := F6.out.out.grown gq.out F6.out.out.size (fun j hj => by have := Option.some.inj hj; omega)
    refine ret_cell_tmp rfl BQ.out rfl Try.underlying26 (by kernel_rfl) rfl ?_
    rw [HB.out]
    have zq := gq.out.size
    have zb := BR.out.lt
    have zf := FR.out.out.size
    refine ⟨A7, m7, c7, rfl, ?_, BF⟩
    exact (S7.out.keep fun b hb => gq.out.block b hb.2 (by have := hb.1; simp; omega)).more fun b hb => ⟨by have := hb.1; omega, by have := hb.2; omega⟩

/-- Back of a right tensor: how it stands with the error. -/
theorem back_any (p : Pic) (hp : p.Right) (A : Option Addr) (cap : Nat) (n : Int) (w : World) (hs : Sl (tInt .i8) w (blo w.heap.size) A p.l.length cap p.l) :
    Calls Try.prog 14 #[.agg #[.int .i64 (p.H : Int), .int .i64 (p.W : Int), .int .i64 (p.C : Int), .slice A p.l.length cap], .int .i64 n] w fun e w' => ∃ (x1 x2 x3 : Int) (A' : Option Addr) (m' c' : Nat) (f : Int), e = .returned (.tuple #[.agg #[.int .i64 x1, .int .i64 x2, .int .i64 x3, .slice A' m' c'], .int .i64 f]) ∧
      ((f = 0 ∧ 0 ≤ n ∧ n < 8) ∨ (f = 2 ∧ (n < 0 ∨ 8 ≤ n) ∧ x1 = 0 ∧ x2 = 0 ∧ x3 = 0 ∧ A' = none ∧ m' = 0 ∧ c' = 0)) ∧ Below w.heap.size w w' := by
  by_cases c : 0 ≤ n ∧ n < 8
  · exact (back_ok p hp A cap n w hs c.1 c.2).mono fun e w' ⟨A', m', c', he, _, hb⟩ => ⟨_, _, _, A', m', c', 0, he, .inl ⟨rfl, c.1, c.2⟩, hb⟩
  · exact (back_no p hp A cap n w (by omega)).mono fun e w' ⟨he, hb⟩ => ⟨0, 0, 0, none, 0, 0, 2, he, .inr ⟨rfl, by omega, rfl, rfl, rfl, rfl, rfl, rfl⟩, hb⟩

set_option maxHeartbeats 16000000 in
theorem turnViews_any (h v c : Int) (A : Option Addr) (m cap : Nat) (l : List Int) (n : Int) (w : World) (hs : Sl (tInt .i8) w (blo w.heap.size) A m cap l) (h0 : InK .i64 h) (h1 : InK .i64 v) (h2 : InK .i64 c) (hn : InK .i64 n) :
    Calls Try.prog 5 #[.agg #[.int .i64 h, .int .i64 v, .int .i64 c, .slice A m cap], .int .i64 n] w fun e w' => e = .returned (.bool true) ∧ Below w.heap.size w w' := by
  have mm := Nat.le_trans hs.cap_le hs.max_le
  have mm2 : m ≤ 9223372036854775807 := mm
  have FR := Lib.hid (Far.refl w)
  obtain ⟨w1, hw_w1⟩ : ∃ nw_, w.alloc (.cells #[.int .i64 h, .int .i64 v, .int .i64 c, .slice A m cap] 26) = nw_ := ⟨_, rfl⟩
  have k_w1 : Below w.heap.size w w1 := by rw [← hw_w1]; exact (Below.refl _ _).alloc (Nat.le_refl _) _
  replace FR := Lib.hid (FR.out.fut k_w1)
  have BT := Lib.hid (show Blk w1 w.heap.size 26 #[.int .i64 h, .int .i64 v, .int .i64 c, .slice A m cap] by rw [← hw_w1]; exact Blk.now _ _ _ _ rfl)
  clear k_w1
  have SL := Lib.hid (hs.later FR.out.out (Nat.le_refl _))
  have t3 := BT.out.cell 3
  have RT := Lib.hid (fun w => rtensorRight_any h v c A m cap w h0 h1 h2 mm)
  by_cases c0 : 1024 < m
  · have t0 : decide (1024 < (m : Int)) = true := by simp; omega
    clear hs c0 h0 h1 h2 hn
    go_enter Try.func5, Try.ntmps5
    go_wp2_with fail
    refine (known23_any _).mono ?_
    rintro e w2 ⟨rfl, hb⟩
    replace FR := Lib.hid (FR.out.fut hb)
    clear hb
    go_wp2_with fail
    go_ret
    exact ⟨rfl, FR.out.out⟩
  have t0 : decide (1024 < (m : Int)) = false := by simp; omega
  by_cases cr : 0 < elems h v c ∧ elems h v c = (m : Int)
  rotate_left
  · have PB := Lib.hid (fun w => back_bad h v c A m cap n w h0 h1 h2 mm cr)
    have PO := Lib.hid (fun w => views_bad h v c A m cap w h0 h1 h2 mm cr)
    rw [decide_eq_false cr] at RT
    clear hs c0 cr h0 h1 h2 hn
    go_enter Try.func5, Try.ntmps5
    go_wp2_with (refine wpList_load_row rfl 26 (.tmp 2) rfl w.heap.size rfl _ _ (0, 0) _ BT.out.heap Try.underlying26 rfl (by kernel_rfl) ?_)
    clear t3 hw_w1
    refine (PO.out _).mono ?_
    rintro e w2 ⟨rfl, hb⟩
    replace FR := Lib.hid (FR.out.fut hb)
    replace BT := Lib.hid (BT.out.fut hb)
    clear hb
    clear PO
    go_wp2_with (refine wpList_load_row rfl 26 (.tmp 2) rfl w.heap.size rfl _ _ (0, 0) _ BT.out.heap Try.underlying26 rfl (by kernel_rfl) ?_)
    refine (PB.out _).mono ?_
    rintro e w4 ⟨rfl, hb⟩
    replace FR := Lib.hid (FR.out.fut hb)
    replace BT := Lib.hid (BT.out.fut hb)
    clear hb
    clear PB
    go_wp2_with (first
      | (refine wpList_store_all rfl 26 (.tmp 7) (.tmp 27) rfl w4.heap.size #[.int .i64 0, .int .i64 0, .int .i64 0, .slice none 0 0] rfl rfl _ _ (Blk.now _ _ _ _ rfl) rfl (by kernel_rfl) (by simp [Value.oneCell']) ?_; intro w5 bq gq; have BU := Lib.hid bq; have KBU := Lib.hid (show Below w4.heap.size w4 w5 from ((Below.refl _ _).alloc (Nat.le_refl _) _).grown gq (by simp) (fun k h => by have := Option.some.inj h; omega)); clear bq gq; have BT5 := Lib.hid (BT.out.fut KBU.out))
      | (refine wpList_load_row rfl 26 (.tmp 2) rfl w.heap.size rfl _ _ (0, 0) _ BT5.out.heap Try.underlying26 rfl (by kernel_rfl) ?_))
    replace FR := Lib.hid (FR.out.fut KBU.out)
    refine (RT.out _).mono ?_
    rintro e w6 ⟨rfl, hb⟩
    replace FR := Lib.hid (FR.out.fut hb)
    replace BU := Lib.hid (BU.out.fut hb)
    clear hb
    clear RT BT5 BT
    go_wp2_with (refine wpList_load_midw (by kernel_rfl) 26 (.tmp 7) rfl w4.heap.size 0 rfl _ _ (range_blk (vs := [.int .i64 0, .int .i64 0, .int .i64 0, .slice none 0 0]) BU.out rfl) Try.underlying26 rfl (by kernel_rfl) ?_)
    refine (same05_eq noTensor none none 0 0 0 0 w6 (Sl.nil _ _ _) (Sl.nil _ _ _)).mono ?_
    rintro e w7 ⟨rfl, hb⟩
    replace FR := Lib.hid (FR.out.fut hb)
    clear hb
    go_wp2_with fail
    refine (known23_any _).mono ?_
    rintro e w9 ⟨rfl, hb⟩
    replace FR := Lib.hid (FR.out.fut hb)
    clear hb
    go_wp2_with fail
    go_ret
    exact ⟨rfl, FR.out.out⟩
  obtain ⟨p, hp, rfl, rfl, rfl, rfl⟩ := right_pic hs.n_eq cr
  rw [decide_eq_true cr] at RT
  obtain rfl : p.l.length = m := hs.n_eq
  have HP := Lib.hid hp
  have VS := Lib.hid (views_ok p hp A cap w1 SL.out)
  clear hs c0 cr h0 h1 h2 hn hp
  have BK := Lib.hid (fun w' (hb : Below w1.heap.size w1 w') => back_any p HP.out A cap n w' (SL.out.later hb (Nat.le_refl _)))
  have RO := Lib.hid (fun w' (hb : Below w1.heap.size w1 w') => rover_any p HP.out A cap w' (SL.out.later hb (Nat.le_refl _)))
  have SLO := Lib.hid SL.out
  go_enter Try.func5, Try.ntmps5
  go_wp2_with (refine wpList_load_row rfl 26 (.tmp 2) rfl w.heap.size rfl _ _ (0, 0) _ BT.out.heap Try.underlying26 rfl (by kernel_rfl) ?_)
  clear t3 hw_w1
  refine VS.out.mono ?_
  rintro e w2 ⟨A2, c2, rfl, hs2, hb⟩
  have S2 := Lib.hid hs2.old
  have K2 := Lib.hid hb
  replace FR := Lib.hid (FR.out.fut hb)
  replace BT := Lib.hid (BT.out.fut hb)
  clear hb
  clear hs2 VS
  go_wp2_with (refine wpList_load_row rfl 26 (.tmp 2) rfl w.heap.size rfl _ _ (0, 0) _ BT.out.heap Try.underlying26 rfl (by kernel_rfl) ?_)
  refine (BK.out _ K2.out).mono ?_
  rintro e w3 ⟨x1, x2, x3, A3, m3, c3, f, rfl, hf, hb⟩
  have HF := Lib.hid hf
  have K3 := Lib.hid (below_later hb K2.out)
  replace FR := Lib.hid (FR.out.fut hb)
  replace BT := Lib.hid (BT.out.fut hb)
  replace S2 := Lib.hid (S2.out.fut hb)
  clear hb
  clear hf BK K2
  go_wp2_with (first
    | (refine wpList_store_all rfl 26 (.tmp 7) (.tmp 27) rfl w3.heap.size #[.int .i64 x1, .int .i64 x2, .int .i64 x3, .slice A3 m3 c3] rfl rfl _ _ (Blk.now _ _ _ _ rfl) rfl (by kernel_rfl) (by simp [Value.oneCell']) ?_; intro w4 bq gq; have BU := Lib.hid bq; have KBU := Lib.hid (show Below w3.heap.size w3 w4 from ((Below.refl _ _).alloc (Nat.le_refl _) _).grown gq (by simp) (fun k h => by have := Option.some.inj h; omega)); clear bq gq; have BT5 := Lib.hid (BT.out.fut KBU.out))
    | (refine wpList_load_row rfl 26 (.tmp 2) rfl w.heap.size rfl _ _ (0, 0) _ BT5.out.heap Try.underlying26 rfl (by kernel_rfl) ?_))
  replace FR := Lib.hid (FR.out.fut KBU.out)
  replace S2 := Lib.hid (S2.out.fut KBU.out)
  have K4 := Lib.hid (below_later KBU.out K3.out)
  refine (RT.out _).mono ?_
  rintro e w5 ⟨rfl, hb⟩
  have K5 := Lib.hid (below_later hb K4.out)
  replace BT5 := Lib.hid (BT5.out.fut hb)
  replace FR := Lib.hid (FR.out.fut hb)
  replace BU := Lib.hid (BU.out.fut hb)
  replace S2 := Lib.hid (S2.out.fut hb)
  clear hb
  clear RT BT K3 K4 KBU
  go_wp2_with fail
  go_loopw [9] (fun i wr => ∃ k : Nat, k ≤ 8 ∧ i = .int .i64 k ∧ Below w5.heap.size w5 wr) (fun i _ => 8 - (intOf i).toNat)
  case atStart => exact ⟨0, Nat.zero_le _, rfl, Below.refl _ _⟩
  case round =>
    obtain ⟨k, hk, rfl, hb⟩ := hrel
    have HB := Lib.hid hb
    clear hb
    by_cases hlt : k < 8
    · have p1 : (k : Int) < 8 := by omega
      have BTr := Lib.hid (BT5.out.fut HB.out)
      have S2r := Lib.hid (S2.out.fut HB.out)
      have KR := Lib.hid (below_later HB.out K5.out)
      have SLr := Lib.hid (SLO.out.later KR.out (Nat.le_refl _))
      go_upto_if 64 with (first
        | (refine wpList_load_row rfl 26 (.tmp 2) rfl w.heap.size rfl _ _ (0, 0) _ BTr.out.heap Try.underlying26 rfl (by kernel_rfl) ?_)
        | (refine wpList_store_all rfl 26 (.tmp 10) (.tmp 62) rfl wr.heap.size #[.int .i64 (p.H : Int), .int .i64 (p.W : Int), .int .i64 (p.C : Int), .slice A p.l.length cap] rfl rfl _ _ (Blk.now _ _ _ _ rfl) rfl (by kernel_rfl) (by simp [Value.oneCell']) ?_; intro w6 bq gq; have B10 := Lib.hid bq; have KB10 := Lib.hid (show Below wr.heap.size wr w6 from ((Below.refl _ _).alloc (Nat.le_refl _) _).grown gq (by simp) (fun k h => by have := Option.some.inj h; omega)); clear bq gq))
      have z8 := KB10.out.size
      have BTs := Lib.hid (BTr.out.fut KB10.out)
      have KS := Lib.hid (below_later KB10.out KR.out)
      have SLs := Lib.hid (SLr.out.fut KB10.out)
      have bw := B10.out.lt
      go_cut [] (fun wx => ∃ Af cf, Blk wx wr.heap.size 26 #[.int .i64 ((viewFrom p k).H : Int), .int .i64 ((viewFrom p k).W : Int), .int .i64 ((viewFrom p k).C : Int), .slice Af (viewFrom p k).l.length cf] ∧ Sl (tInt .i8) wx (blo wx.heap.size) Af (viewFrom p k).l.length cf (viewFrom p k).l ∧ Below wr.heap.size wr wx)
      case first =>
        by_cases h4 : 3 < k
        · have tk : decide (3 < (k : Int)) = true := by simp; omega
          have E4 := Lib.hid (show viewFrom p k = over p by unfold viewFrom; rw [if_neg (by omega)])
          have h4z : ¬ (k : Int) ≤ 3 := by omega
          go_wp2_with (refine wpList_load_row rfl 26 (.tmp 2) rfl w.heap.size rfl _ _ (0, 0) _ BTs.out.heap Try.underlying26 rfl (by kernel_rfl) ?_)
          all_goals (try (exfalso; omega))
          refine (RO.out _ KS.out).mono ?_
          rintro e w7 ⟨A7, m7, c7, rfl, hs7, hb⟩
          obtain rfl : (over p).l.length = m7 := hs7.n_eq
          have S7 := Lib.hid hs7
          have KB7 := Lib.hid (below_later hb KB10.out)
          have z7 := hb.size
          replace B10 := Lib.hid (B10.out.fut hb)
          clear hb
          clear hs7
          go_wp2_with (refine wpList_store_all rfl 26 (.tmp 10) (.tmp 66) rfl wr.heap.size #[.int .i64 ((over p).H : Int), .int .i64 ((over p).W : Int), .int .i64 ((over p).C : Int), .slice A7 (over p).l.length c7] rfl rfl _ _ B10.out rfl (by kernel_rfl) (by simp [Value.oneCell']) ?_; intro w9 bq gq)
          go_meet
          case rel =>
            rw [E4.out]
            refine ⟨A7, c7, bq, ?_, KB7.out.grown gq KB7.out.size (fun j hj => by have := Option.some.inj hj; omega)⟩
            exact (S7.out.keep fun b hb => gq.block b hb.2 (by have := hb.1; simp; omega)).more fun b hb => Nat.lt_of_lt_of_le hb.2 gq.size
        · have tk : decide (3 < (k : Int)) = false := by simp; omega
          have E4 := Lib.hid (show viewFrom p k = p by unfold viewFrom; rw [if_pos (by omega)])
          have h4z : (k : Int) ≤ 3 := by omega
          go_wp2_with fail
          all_goals (try (exfalso; omega))
          go_meet
          case rel =>
            rw [E4.out]
            exact ⟨A, cap, B10.out, SLs.out, KB10.out⟩
      case rest =>
      obtain ⟨Af, cf, bf, sf, k6⟩ := hcut
      obtain ⟨w6, rfl⟩ : ∃ x, x = wc := ⟨_, rfl⟩
      have BF := Lib.hid bf
      have SF := Lib.hid sf
      have K6 := Lib.hid k6
      have zr := HB.out.size
      have BT6 := Lib.hid (BTr.out.fut k6)
      have KT := Lib.hid (below_later k6 KR.out)
      have SL6 := Lib.hid (SLr.out.fut k6)
      obtain ⟨x, eb, eo, xs, hx, rfl, _, _, hrep, hxl, hcx⟩ := (S2r.out.fut k6).cells k hlt (by decide)
      have hx2 : x = tenOf (viewOf p k) := by
        unfold viewsT at hx
        rw [List.getElem?_map, List.getElem?_range hlt] at hx
        exact (Option.some.inj hx).symm
      subst hx2
      obtain ⟨A8, m8, c8, rfl, _, hs8⟩ := tensor_open hrep
      obtain rfl : (viewOf p k).l.length = m8 := hs8.n_eq
      have VR := Lib.hid (viewOf_right HP.out k)
      have FRT := Lib.hid (viewFrom_right HP.out k)
      have QB := Lib.hid (fun w' (hb : Below w6.heap.size w6 w') => rby_any (viewFrom p k) FRT.out Af cf (k : Int) w' (SF.out.later hb (Nat.le_refl _)) (by rw [inK_i64]; omega))
      have BV := backV_view HP.out k
      have hvo : byV (viewFrom p k) (k : Int) = viewOf p k := rfl
      rw [hvo] at QB
      have PK := Lib.hid (back_ok (viewOf p k) VR.out A8 c8 (k : Int) w6 hs8 (by omega) (by omega))
      rw [BV] at PK
      have S8 := Lib.hid (show Sl (tInt .i8) w6 (blo w6.heap.size) A8 (viewOf p k).l.length c8 (viewOf p k).l from hs8)
      have RG := Lib.hid (show w6.rangeAt eb (eo + k * 4) [.int .i64 ((viewOf p k).H : Int), .int .i64 ((viewOf p k).W : Int), .int .i64 ((viewOf p k).C : Int), .slice A8 (viewOf p k).l.length c8] from fun j u hv => by have := hcx j u hv; rwa [← Nat.add_assoc] at this)
      obtain ⟨vp, hvp⟩ : ∃ x, viewOf p k = x := ⟨_, rfl⟩
      rw [hvp] at QB PK S8 RG
      obtain ⟨fp, hfp⟩ : ∃ x, viewFrom p k = x := ⟨_, rfl⟩
      rw [hfp] at QB BF
      clear bf sf k6 SF hx hrep hxl hcx hs8 VR FRT BV hvo hvp hfp B10 KB10 BTs KS SLs SLr BTr S2r KR z8 bw
      go_wp2_with (refine wpList_load_mid rfl 26 (.tmp 70) rfl eb (eo + k * 4) rfl _ _ RG.out Try.underlying26 rfl (by kernel_rfl) ?_)
      refine PK.out.mono ?_
      rintro e w7 ⟨A9, m9, c9, rfl, hs9, hb⟩
      unfold tenOf at hs9
      simp only at hs9
      obtain rfl : p.l.length = m9 := hs9.n_eq
      have S9 := Lib.hid hs9.old
      replace K6 := Lib.hid (below_later hb K6.out)
      have K7 := Lib.hid hb
      replace RG := Lib.hid (rangeAt_later RG.out hb)
      replace BT6 := Lib.hid (BT6.out.fut hb)
      replace BF := Lib.hid (BF.out.fut hb)
      replace S8 := Lib.hid (S8.out.fut hb)
      replace SL6 := Lib.hid (SL6.out.fut hb)
      clear hb
      clear hs9 PK
      go_wp2_with (refine wpList_store_all rfl 26 (.tmp 11) (.tmp 74) rfl w7.heap.size #[.int .i64 (p.H : Int), .int .i64 (p.W : Int), .int .i64 (p.C : Int), .slice A9 p.l.length c9] rfl rfl _ _ (Blk.now _ _ _ _ rfl) rfl (by kernel_rfl) (by simp [Value.oneCell']) ?_; intro w8 bq gq; have B11 := Lib.hid bq; have KB11 := Lib.hid (show Below w7.heap.size w7 w8 from ((Below.refl _ _).alloc (Nat.le_refl _) _).grown gq (by simp) (fun k h => by have := Option.some.inj h; omega)); clear bq gq)
      replace K6 := Lib.hid (below_later KB11.out K6.out)
      replace K7 := Lib.hid (below_later KB11.out K7.out)
      replace RG := Lib.hid (rangeAt_later RG.out KB11.out)
      replace BT6 := Lib.hid (BT6.out.fut KB11.out)
      replace BF := Lib.hid (BF.out.fut KB11.out)
      replace S8 := Lib.hid (S8.out.fut KB11.out)
      replace S9 := Lib.hid (S9.out.fut KB11.out)
      replace SL6 := Lib.hid (SL6.out.fut KB11.out)
      clear KB11
      have SU := Lib.hid (S8.out.keep (w' := w8.drew) (fun _ _ => rfl))
      have SV := Lib.hid (S9.out.keep (w' := w8.drew) (fun _ _ => rfl))
      have SW := Lib.hid (SL6.out.keep (w' := w8.drew) (fun _ _ => rfl))
      have KD := Lib.hid K7.out.drew
      have RD := Lib.hid (show w8.drew.rangeAt eb (eo + k * 4) _ from RG.out)
      refine wp_region_held_drew (S := fun w' => Blk w' w.heap.size 26 #[.int .i64 (p.H : Int), .int .i64 (p.W : Int), .int .i64 (p.C : Int), .slice A p.l.length cap] ∧ Blk w' wr.heap.size 26 #[.int .i64 (fp.H : Int), .int .i64 (fp.W : Int), .int .i64 (fp.C : Int), .slice Af fp.l.length cf] ∧ Blk w' w7.heap.size 26 #[.int .i64 (p.H : Int), .int .i64 (p.W : Int), .int .i64 (p.C : Int), .slice A9 p.l.length c9] ∧ Below w8.drew.heap.size w8.drew w') (by kernel_rfl) ?_ (fun hS => ?_)
      · exact ⟨BT6.out.drew, BF.out.drew, B11.out.drew, Below.refl _ _⟩
      refine wpAnyH_take (i := 0) (v := ?_) rfl (by as_aux_lemma => kernel_rfl) (by as_aux_lemma => kernel_rfl) (by as_aux_lemma => kernel_rfl) (fun _ _ _ h => h) (Or.inl ⟨by rfl, ?_⟩) hS ?_
      rotate_left
      · intro w hSw; (try dsimp only at hSw); go_simp; try with_reducible rfl
      try simp only [Act.put, List.getElem_toArray, List.getElem_cons_succ, List.getElem_cons_zero, List.setIfInBounds_toArray, List.set_cons_zero, List.set_cons_succ]
      refine wpAnyH_take (i := 1) (v := ?_) rfl (by as_aux_lemma => kernel_rfl) (by as_aux_lemma => kernel_rfl) (by as_aux_lemma => kernel_rfl) (fun _ _ _ h => h) (Or.inl ⟨by rfl, ?_⟩) hS ?_
      rotate_left
      · intro w hSw; (try dsimp only at hSw); go_simp; try with_reducible rfl
      try simp only [Act.put, List.getElem_toArray, List.getElem_cons_succ, List.getElem_cons_zero, List.setIfInBounds_toArray, List.set_cons_zero, List.set_cons_succ]
      refine wpAnyH_take (i := 2) (v := ?_) rfl (by as_aux_lemma => kernel_rfl) (by as_aux_lemma => kernel_rfl) (by as_aux_lemma => kernel_rfl) (fun _ _ _ h => h) (Or.inl ⟨by rfl, ?_⟩) hS ?_
      rotate_left
      · intro w hSw; (try dsimp only at hSw); go_simp; try with_reducible rfl
      try simp only [Act.put, List.getElem_toArray, List.getElem_cons_succ, List.getElem_cons_zero, List.setIfInBounds_toArray, List.set_cons_zero, List.set_cons_succ]
      refine wpAnyH_take (i := 3) rfl (by as_aux_lemma => kernel_rfl) (by as_aux_lemma => kernel_rfl) (by as_aux_lemma => kernel_rfl) (fun _ _ _ h => h) (yieldsIf_load_mid (by rfl) 26 (.tmp 78) rfl eb (eo + k * 4) rfl _ _ (fun w hs j v hv => cell_later hs.2.2.2 (RD.out j v hv)) Try.underlying26 rfl (by kernel_rfl)) hS ?_
      try simp only [Act.put, List.getElem_toArray, List.getElem_cons_succ, List.getElem_cons_zero, List.setIfInBounds_toArray, List.set_cons_zero, List.set_cons_succ]
      refine wpAnyH_take (i := 4) rfl (by as_aux_lemma => kernel_rfl) (by as_aux_lemma => kernel_rfl) (by as_aux_lemma => kernel_rfl) (fun _ _ _ h => h) (yieldsIf_load_blk (by rfl) 26 (.tmp 10) rfl wr.heap.size 0 rfl _ _ #[.int .i64 (fp.H : Int), .int .i64 (fp.W : Int), .int .i64 (fp.C : Int), .slice Af fp.l.length cf] _ (fun w hs => hs.2.1) Try.underlying26 rfl (by kernel_rfl) rfl) hS ?_
      try simp only [Act.put, List.getElem_toArray, List.getElem_cons_succ, List.getElem_cons_zero, List.setIfInBounds_toArray, List.set_cons_zero, List.set_cons_succ]
      refine wpAnyH_take (i := 5) (v := ?_) rfl (by as_aux_lemma => kernel_rfl) (by as_aux_lemma => kernel_rfl) (by as_aux_lemma => kernel_rfl) (fun _ _ _ h => h) (Or.inl ⟨by rfl, ?_⟩) hS ?_
      rotate_left
      · intro w hSw; (try dsimp only at hSw); go_simp; try with_reducible rfl
      try simp only [Act.put, List.getElem_toArray, List.getElem_cons_succ, List.getElem_cons_zero, List.setIfInBounds_toArray, List.set_cons_zero, List.set_cons_succ]
      refine wpAnyH_ready (rs := [6]) (by kernel_rfl) (by simp) ?_
      refine AllReadyH.cons rfl (fun K hK => ?_) AllReadyH.nil
      go_simp
      refine (QB.out _ KD.out).mono ?_; rintro e wa ⟨A5, c5, rfl, hs5, hb⟩; have SX := Lib.hid hs5; replace SU := Lib.hid (SU.out.fut hb); replace SV := Lib.hid (SV.out.fut hb); replace SW := Lib.hid (SW.out.fut hb)
      refine hK.out _ _ ?_ (fun hS => ?_)
      · exact ⟨(by first | exact cell_later hb hS.1 | exact Blk.later hS.1 hb), (by first | exact cell_later hb hS.2.1 | exact Blk.later hS.2.1 hb), (by first | exact cell_later hb hS.2.2.1 | exact Blk.later hS.2.2.1 hb), below_later hb hS.2.2.2⟩
      clear hK K
      try simp only [Act.put, List.getElem_toArray, List.getElem_cons_succ, List.getElem_cons_zero, List.setIfInBounds_toArray, List.set_cons_zero, List.set_cons_succ]
      refine wpAnyH_ready (rs := [7]) (by kernel_rfl) (by simp) ?_
      refine AllReadyH.cons rfl (fun K hK => ?_) AllReadyH.nil
      go_simp
      refine (same05_eq (tenOf vp) A8 A5 _ _ _ _ _ SU.out SX.out).mono ?_; rintro e wb ⟨rfl, hb⟩; replace SV := Lib.hid (SV.out.fut hb); replace SW := Lib.hid (SW.out.fut hb)
      refine hK.out _ _ ?_ (fun hS => ?_)
      · exact ⟨(by first | exact cell_later hb hS.1 | exact Blk.later hS.1 hb), (by first | exact cell_later hb hS.2.1 | exact Blk.later hS.2.1 hb), (by first | exact cell_later hb hS.2.2.1 | exact Blk.later hS.2.2.1 hb), below_later hb hS.2.2.2⟩
      clear hK K
      try simp only [Act.put, List.getElem_toArray, List.getElem_cons_succ, List.getElem_cons_zero, List.setIfInBounds_toArray, List.set_cons_zero, List.set_cons_succ]
      refine wpAnyH_take (i := 8) (v := ?_) rfl (by as_aux_lemma => kernel_rfl) (by as_aux_lemma => kernel_rfl) (by as_aux_lemma => kernel_rfl) (fun _ _ _ h => h) (Or.inl ⟨by rfl, ?_⟩) hS ?_
      rotate_left
      · intro w hSw; (try dsimp only at hSw); go_simp; try with_reducible rfl
      try simp only [Act.put, List.getElem_toArray, List.getElem_cons_succ, List.getElem_cons_zero, List.setIfInBounds_toArray, List.set_cons_zero, List.set_cons_succ]
      refine wpAnyH_take (i := 9) (v := ?_) rfl (by as_aux_lemma => kernel_rfl) (by as_aux_lemma => kernel_rfl) (by as_aux_lemma => kernel_rfl) (fun _ _ _ h => h) (Or.inl ⟨by rfl, ?_⟩) hS ?_
      rotate_left
      · intro w hSw; (try dsimp only at hSw); go_simp; try with_reducible rfl
      try simp only [Act.put, List.getElem_toArray, List.getElem_cons_succ, List.getElem_cons_zero, List.setIfInBounds_toArray, List.set_cons_zero, List.set_cons_succ]
      refine wpAnyH_take (i := 10) (v := ?_) rfl (by as_aux_lemma => kernel_rfl) (by as_aux_lemma => kernel_rfl) (by as_aux_lemma => kernel_rfl) (fun _ _ _ h => h) (Or.inl ⟨by rfl, ?_⟩) hS ?_
      rotate_left
      · intro w hSw; (try dsimp only at hSw); go_simp; try with_reducible rfl
      try simp only [Act.put, List.getElem_toArray, List.getElem_cons_succ, List.getElem_cons_zero, List.setIfInBounds_toArray, List.set_cons_zero, List.set_cons_succ]
      refine wpAnyH_take (i := 11) (v := ?_) rfl (by as_aux_lemma => kernel_rfl) (by as_aux_lemma => kernel_rfl) (by as_aux_lemma => kernel_rfl) (fun _ _ _ h => h) (Or.inl ⟨by rfl, ?_⟩) hS ?_
      rotate_left
      · intro w hSw; (try dsimp only at hSw); go_simp; try with_reducible rfl
      try simp only [Act.put, List.getElem_toArray, List.getElem_cons_succ, List.getElem_cons_zero, List.setIfInBounds_toArray, List.set_cons_zero, List.set_cons_succ]
      refine wpAnyH_take (i := 12) (v := ?_) rfl (by as_aux_lemma => kernel_rfl) (by as_aux_lemma => kernel_rfl) (by as_aux_lemma => kernel_rfl) (fun _ _ _ h => h) (Or.inl ⟨by rfl, ?_⟩) hS ?_
      rotate_left
      · intro w hSw; (try dsimp only at hSw); go_simp; try with_reducible rfl
      try simp only [Act.put, List.getElem_toArray, List.getElem_cons_succ, List.getElem_cons_zero, List.setIfInBounds_toArray, List.set_cons_zero, List.set_cons_succ]
      refine wpAnyH_take (i := 13) (v := ?_) rfl (by as_aux_lemma => kernel_rfl) (by as_aux_lemma => kernel_rfl) (by as_aux_lemma => kernel_rfl) (fun _ _ _ h => h) (Or.inl ⟨by rfl, ?_⟩) hS ?_
      rotate_left
      · intro w hSw; (try dsimp only at hSw); go_simp; try with_reducible rfl
      try simp only [Act.put, List.getElem_toArray, List.getElem_cons_succ, List.getElem_cons_zero, List.setIfInBounds_toArray, List.set_cons_zero, List.set_cons_succ]
      refine wpAnyH_take (i := 14) rfl (by as_aux_lemma => kernel_rfl) (by as_aux_lemma => kernel_rfl) (by as_aux_lemma => kernel_rfl) (fun _ _ _ h => h) (yieldsIf_load_blk (by rfl) 26 (.tmp 11) rfl w7.heap.size 0 rfl _ _ #[.int .i64 (p.H : Int), .int .i64 (p.W : Int), .int .i64 (p.C : Int), .slice A9 p.l.length c9] _ (fun w hs => hs.2.2.1) Try.underlying26 rfl (by kernel_rfl) rfl) hS ?_
      try simp only [Act.put, List.getElem_toArray, List.getElem_cons_succ, List.getElem_cons_zero, List.setIfInBounds_toArray, List.set_cons_zero, List.set_cons_succ]
      refine wpAnyH_take (i := 15) rfl (by as_aux_lemma => kernel_rfl) (by as_aux_lemma => kernel_rfl) (by as_aux_lemma => kernel_rfl) (fun _ _ _ h => h) (yieldsIf_load_blk (by rfl) 26 (.tmp 2) rfl w.heap.size 0 rfl _ _ #[.int .i64 (p.H : Int), .int .i64 (p.W : Int), .int .i64 (p.C : Int), .slice A p.l.length cap] _ (fun w hs => hs.1) Try.underlying26 rfl (by kernel_rfl) rfl) hS ?_
      try simp only [Act.put, List.getElem_toArray, List.getElem_cons_succ, List.getElem_cons_zero, List.setIfInBounds_toArray, List.set_cons_zero, List.set_cons_succ]
      refine wpAnyH_ready (rs := [16]) (by kernel_rfl) (by simp) ?_
      refine AllReadyH.cons rfl (fun K hK => ?_) AllReadyH.nil
      go_simp
      refine (same05_eq (tenOf p) A9 A _ _ _ _ _ SV.out SW.out).mono ?_; rintro e wd ⟨rfl, hb⟩
      refine hK.out _ _ ?_ (fun hS => ?_)
      · exact ⟨(by first | exact cell_later hb hS.1 | exact Blk.later hS.1 hb), (by first | exact cell_later hb hS.2.1 | exact Blk.later hS.2.1 hb), (by first | exact cell_later hb hS.2.2.1 | exact Blk.later hS.2.2.1 hb), below_later hb hS.2.2.2⟩
      clear hK K
      try simp only [Act.put, List.getElem_toArray, List.getElem_cons_succ, List.getElem_cons_zero, List.setIfInBounds_toArray, List.set_cons_zero, List.set_cons_succ]
      refine wpAnyH_take (i := 17) (v := ?_) rfl (by as_aux_lemma => kernel_rfl) (by as_aux_lemma => kernel_rfl) (by as_aux_lemma => kernel_rfl) (fun _ _ _ h => h) (Or.inl ⟨by rfl, ?_⟩) hS ?_
      rotate_left
      · intro w hSw; (try dsimp only at hSw); go_simp; try with_reducible rfl
      try simp only [Act.put, List.getElem_toArray, List.getElem_cons_succ, List.getElem_cons_zero, List.setIfInBounds_toArray, List.set_cons_zero, List.set_cons_succ]
      refine wpAnyH_take (i := 18) (v := ?_) rfl (by as_aux_lemma => kernel_rfl) (by as_aux_lemma => kernel_rfl) (by as_aux_lemma => kernel_rfl) (fun _ _ _ h => h) (Or.inl ⟨by rfl, ?_⟩) hS ?_
      rotate_left
      · intro w hSw; (try dsimp only at hSw); go_simp; try with_reducible rfl
      try simp only [Act.put, List.getElem_toArray, List.getElem_cons_succ, List.getElem_cons_zero, List.setIfInBounds_toArray, List.set_cons_zero, List.set_cons_succ]
      refine wpAnyH_done (by kernel_rfl) ?_ _
      have FZ := Lib.hid (below_call (below_call HB.out K6.out.drew HB.out.size) hS.2.2.2 (Nat.le_trans zr K6.out.size))
      clear hS hb
      go_wp2_with fail
      exact ⟨⟨k + 1, by omega, by go_num, FZ.out⟩, by simp [intOf]; omega⟩
    · obtain rfl : k = 8 := by omega
      replace FR := Lib.hid (FR.out.fut HB.out)
      replace BU := Lib.hid (BU.out.fut HB.out)
      clear hlt hk S2 BT5 RO HP SL SLO K5 HB
      rcases HF.out with ⟨rfl, f1, f2⟩ | ⟨rfl, f1, rfl, rfl, rfl, rfl, rfl, rfl⟩
      · have q1 : decide (0 ≤ n) = true := by simp; omega
        have q2 : decide (n < 8) = true := by simp; omega
        go_wp2_with fail
        refine (known23_any _).mono ?_
        rintro e w9 ⟨rfl, hb⟩
        replace FR := Lib.hid (FR.out.fut hb)
        clear hb
        go_wp2_with fail
        go_ret
        exact ⟨rfl, FR.out.out⟩
      · rcases f1 with f1 | f1
        · have q1 : decide (0 ≤ n) = false := by simp; omega
          go_wp2_with (refine wpList_load_midw (by kernel_rfl) 26 (.tmp 7) rfl w3.heap.size 0 rfl _ _ (range_blk (vs := [.int .i64 0, .int .i64 0, .int .i64 0, .slice none 0 0]) BU.out rfl) Try.underlying26 rfl (by kernel_rfl) ?_)
          refine (same05_eq noTensor none none 0 0 0 0 wr (Sl.nil _ _ _) (Sl.nil _ _ _)).mono ?_
          rintro e w8 ⟨rfl, hb⟩
          replace FR := Lib.hid (FR.out.fut hb)
          clear hb
          go_wp2_with fail
          refine (known23_any _).mono ?_
          rintro e w9 ⟨rfl, hb⟩
          replace FR := Lib.hid (FR.out.fut hb)
          clear hb
          go_wp2_with fail
          go_ret
          exact ⟨rfl, FR.out.out⟩
        · have q1 : decide (0 ≤ n) = true := by simp; omega
          have q2 : decide (n < 8) = false := by simp; omega
          go_wp2_with (refine wpList_load_midw (by kernel_rfl) 26 (.tmp 7) rfl w3.heap.size 0 rfl _ _ (range_blk (vs := [.int .i64 0, .int .i64 0, .int .i64 0, .slice none 0 0]) BU.out rfl) Try.underlying26 rfl (by kernel_rfl) ?_)
          refine (same05_eq noTensor none none 0 0 0 0 wr (Sl.nil _ _ _) (Sl.nil _ _ _)).mono ?_
          rintro e w8 ⟨rfl, hb⟩
          replace FR := Lib.hid (FR.out.fut hb)
          clear hb
          go_wp2_with fail
          refine (known23_any _).mono ?_
          rintro e w9 ⟨rfl, hb⟩
          replace FR := Lib.hid (FR.out.fut hb)
          clear hb
          go_wp2_with fail
          go_ret
          exact ⟨rfl, FR.out.out⟩

theorem turnViews_walk (cs : Array Value) (t : Tensor) {W : World} (ht : tTensor.rep W (blo W.heap.size) cs.toList t) (n : Int) (hn : InK .i64 n) (w : World) (e : W = w) :
    Calls Try.prog 5 #[.agg cs, .int .i64 n] w fun e w' => e = .returned (.bool true) ∧ Below w.heap.size w w' := by
  subst e
  obtain ⟨A, m, cap, h0, hi, hs⟩ := tensor_open ht
  obtain rfl : cs = #[.int .i64 t.h, .int .i64 t.v, .int .i64 t.c, .slice A m cap] := by rw [← Array.toArray_toList (xs := cs), h0]
  exact turnViews_any t.h t.v t.c A m cap t.data n W hs hi.h hi.v hi.c hn
end Go.Proofs.Ytbdanfbfohikdaa
