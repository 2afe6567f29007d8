/-
  turn.By, turn.Over (layer 23): a tensor turned by quarters, turned over.
  Conditions: a right tensor.
-/
import Derived.Test.YtbdanfbfohikdaaChecked
import Derived.Test.YtbdanfbfohikdaaTurnB
import Derived.Test.YtbdanfbfohikdaaOne
namespace Go.Proofs.Ytbdanfbfohikdaa
set_option linter.unusedVariables false
set_option linter.unusedSimpArgs false
open Go.RowKit Go.ChangeShapes Go.WideShapes
set_option maxRecDepth 100000
attribute [local irreducible] fl

/-- A picture of a right tensor. -/
structure Pic.Right (p : Pic) : Prop where
  h : 1 ≤ p.H ∧ p.H ≤ 16
  w : 1 ≤ p.W ∧ p.W ≤ 16
  c : 1 ≤ p.C ∧ p.C ≤ 1024
  ok : p.ok
  few : p.l.length ≤ 1024
def tenOf (p : Pic) : Tensor := ⟨(p.H : Int), (p.W : Int), (p.C : Int), p.l⟩
theorem once_len {p : Pic} (h : p.ok) : (once p).l.length = p.l.length := by
  have := once_ok h
  unfold Pic.ok at this h
  rw [this, h]
  show p.W * p.H * p.C = _
  rw [Nat.mul_comm p.W]
theorem Pic.Right.once {p : Pic} (h : p.Right) : (once p).Right := ⟨h.w, h.h, h.c, once_ok h.ok, by rw [once_len h.ok]; exact h.few⟩
theorem Pic.Right.over {p : Pic} (h : p.Right) : (over p).Right := ⟨h.h, h.w, h.c, over_ok h.ok, by
  have := over_ok h.ok
  have h2 := h.ok
  unfold Pic.ok at this h2
  rw [this]
  show p.H * p.W * p.C ≤ _
  rw [← h2]; exact h.few⟩
theorem Pic.Right.times {p : Pic} (h : p.Right) (n : Nat) : (times p n).Right := by
  induction n with
  | zero => exact h
  | succ n ih => exact ih.once
theorem Pic.Right.by_ {p : Pic} (h : p.Right) (n : Int) : (byV p n).Right := h.times _
theorem Pic.Right.elems {p : Pic} (h : p.Right) : elems (p.H : Int) (p.W : Int) (p.C : Int) = (p.l.length : Int) := by
  have h1 := h.h
  have h2 := h.w
  have h3 := h.c
  have h4 := h.ok
  have h5 := h.few
  unfold Pic.ok at h4
  rw [elems_iff, if_pos ⟨by omega, by omega, by omega, by omega, by omega, by omega, by rw [← Int.natCast_mul, ← Int.natCast_mul, ← h4]; omega⟩, ← Int.natCast_mul, ← Int.natCast_mul, h4]
theorem Pic.Right.pos {p : Pic} (h : p.Right) : 0 < p.l.length := by
  have h4 := h.ok
  unfold Pic.ok at h4
  rw [h4]
  exact Nat.mul_pos (Nat.mul_pos (by have := h.h; omega) (by have := h.w; omega)) (by have := h.c; omega)

/-- Where each pixel of a tensor turned by q quarters came from. -/
structure Whence (H W C : Nat) (l : List Int) (q H1 W1 : Nat) (fr fc : Nat → Nat) : Prop where
  odd : q % 2 = 1 → H1 = W ∧ W1 = H
  even : q % 2 = 0 → H1 = H ∧ W1 = W
  many : H1 * W1 = H * W
  at_ : ∀ i, i < H1 * W1 → fr i < H ∧ fc i < W ∧ turnN (2 * ((i : Int) % (W1 : Int)) - ((W1 : Int) - 1), (H1 : Int) - 1 - 2 * ((i : Int) / (W1 : Int))) q = (2 * (fc i : Int) - ((W : Int) - 1), (H : Int) - 1 - 2 * (fr i : Int))
  is : times ⟨H, W, C, l⟩ q = ⟨H1, W1, C, pick l C (fun i => fr i * W + fc i) (H1 * W1)⟩
theorem whence (H W C : Nat) (l : List Int) (q : Nat) (hq : q < 4) (ok : l.length = H * W * C) (h1 : 1 ≤ H) (h2 : 1 ≤ W) : ∃ H1 W1 fr fc, Whence H W C l q H1 W1 fr fc := by
  have ok' : (⟨H, W, C, l⟩ : Pic).ok := ok
  match q, hq with
  | 0, _ =>
    refine ⟨H, W, fun i => i / W, fun i => i % W, fun h => by omega, fun _ => ⟨rfl, rfl⟩, rfl, fun i hi => ?_, ?_⟩
    · have b1 := div_lt' hi
      have b2 := Nat.mod_lt i (show 0 < W by omega)
      refine ⟨b1, b2, ?_⟩
      show (_, _) = _
      simp only [Prod.mk.injEq]
      constructor
      · rw [← Int.natCast_emod]
      · rw [← Int.natCast_ediv]
    · show (⟨H, W, C, l⟩ : Pic) = _
      rw [pick_id (n := H * W) ok fun i _ => at_self]
  | 1, _ =>
    refine ⟨W, H, fun i => i % H, fun i => W - 1 - i / H, fun _ => ⟨rfl, rfl⟩, fun h => by omega, Nat.mul_comm _ _, fun i hi => ?_, rfl⟩
    have b1 := div_lt' hi
    have b2 := Nat.mod_lt i (show 0 < H by omega)
    refine ⟨b2, sub_lt' (by omega), ?_⟩
    show ((W : Int) - 1 - 2 * ((i : Int) / (H : Int)), -(2 * ((i : Int) % (H : Int)) - ((H : Int) - 1))) = _
    rw [← Int.natCast_emod, ← Int.natCast_ediv]
    generalize i / H = x at *
    generalize i % H = y at *
    simp only [Prod.mk.injEq]
    omega
  | 2, _ =>
    refine ⟨H, W, fun i => H - 1 - i / W, fun i => W - 1 - i % W, fun h => by omega, fun _ => ⟨rfl, rfl⟩, rfl, fun i hi => ?_, times_two ok'⟩
    have b1 := div_lt' hi
    have b2 := Nat.mod_lt i (show 0 < W by omega)
    refine ⟨sub_lt' (by omega), sub_lt' (by omega), ?_⟩
    show (-(2 * ((i : Int) % (W : Int)) - ((W : Int) - 1)), -((H : Int) - 1 - 2 * ((i : Int) / (W : Int)))) = _
    rw [← Int.natCast_emod, ← Int.natCast_ediv]
    generalize i / W = x at *
    generalize i % W = y at *
    simp only [Prod.mk.injEq]
    omega
  | 3, _ =>
    refine ⟨W, H, fun i => H - 1 - i % H, fun i => i / H, fun _ => ⟨rfl, rfl⟩, fun h => by omega, Nat.mul_comm _ _, fun i hi => ?_, times_three ok'⟩
    have b1 := div_lt' hi
    have b2 := Nat.mod_lt i (show 0 < H by omega)
    refine ⟨sub_lt' (by omega), b1, ?_⟩
    show (-((W : Int) - 1 - 2 * ((i : Int) / (H : Int))), - -(2 * ((i : Int) % (H : Int)) - ((H : Int) - 1))) = _
    rw [← Int.natCast_emod, ← Int.natCast_ediv]
    generalize i / H = x at *
    generalize i % H = y at *
    simp only [Prod.mk.injEq]
    omega

theorem quarter_any (n : Int) (w : World) (hn : InK .i64 n) : Calls Try.prog 16 #[.int .i64 n] w fun e w' => e = .returned (.int .i64 (quarterV n : Nat)) ∧ w' = w := by
  rw [inK_i64] at hn
  obtain ⟨a1, a2⟩ := hn
  obtain ⟨x, hx⟩ : ∃ x, Int.tmod n 4 = x := ⟨_, rfl⟩
  have hx1 : -4 < x ∧ x < 4 ∧ (x + 4) % 4 = n % 4 := by
    have := Int.tmod_eq_emod (a := n) (b := 4)
    rw [hx] at this
    split at this <;> omega
  obtain ⟨x1, x2, x3⟩ := hx1
  have R := Lib.hid (show (x + 4) % 4 = ((quarterV n : Nat) : Int) by unfold quarterV; omega)
  clear x3
  go_enter Try.func16, Try.ntmps16
  go_wp2_with fail
  go_ret
  exact ⟨ret_int R.out, rfl⟩

theorem tensorRight_bad (h v c : Int) (A : Option Addr) (n cap : Nat) (w : World) (h0 : InK .i64 h) (h1 : InK .i64 v) (h2 : InK .i64 c) (hn : n ≤ maxLen) (hb : ¬ (0 < elems h v c ∧ elems h v c = n)) :
    Calls Try.prog 15 #[.agg #[.int .i64 h, .int .i64 v, .int .i64 c, .slice A n cap]] w fun e w' => e = .returned (.bool false) ∧ Below w.heap.size w w' := by
  have := tensorRight_any h v c A n cap w h0 h1 h2 hn
  rw [decide_eq_false hb] at this
  exact this
theorem tensorRight_ok {p : Pic} (hp : p.Right) (A : Option Addr) (cap : Nat) (w : World) :
    Calls Try.prog 15 #[.agg #[.int .i64 (p.H : Int), .int .i64 (p.W : Int), .int .i64 (p.C : Int), .slice A p.l.length cap]] w fun e w' => e = .returned (.bool true) ∧ Below w.heap.size w w' := by
  have h1 := hp.h
  have h2 := hp.w
  have h3 := hp.c
  have h4 := hp.pos
  have h5 := hp.few
  have := tensorRight_any (p.H : Int) (p.W : Int) (p.C : Int) A p.l.length cap w (by rw [inK_i64]; omega) (by rw [inK_i64]; omega) (by rw [inK_i64]; omega) (by unfold maxLen; omega)
  rw [hp.elems, decide_eq_true ⟨by omega, rfl⟩] at this
  exact this

set_option maxHeartbeats 8000000 in
theorem by_bad (h v c : Int) (A : Option Addr) (m cap : Nat) (n : Int) (w : World) (h0 : InK .i64 h) (h1 : InK .i64 v) (h2 : InK .i64 c) (hn : m ≤ maxLen) (hb : ¬ (0 < elems h v c ∧ elems h v c = m)) :
    Calls Try.prog 7 #[.agg #[.int .i64 h, .int .i64 v, .int .i64 c, .slice A m cap], .int .i64 n] w fun e w' => e = .returned (.tuple #[.agg #[.int .i64 0, .int .i64 0, .int .i64 0, .slice none 0 0], .int .i64 5]) ∧ Below w.heap.size w w' := by
  have FR := Lib.hid (Far.refl w)
  obtain ⟨w1, hw_w1⟩ : ∃ nw_, w.alloc (.cells #[.int .i64 h, .int .i64 v, .int .i64 c, .slice A m cap] 26) = nw_ := ⟨_, rfl⟩
  have k_w1 : Below w.heap.size w w1 := by rw [← hw_w1]; exact (Below.refl _ _).alloc (Nat.le_refl _) _
  replace FR := Lib.hid (FR.out.fut k_w1)
  have BT := Lib.hid (show Blk w1 w.heap.size 26 #[.int .i64 h, .int .i64 v, .int .i64 c, .slice A m cap] by rw [← hw_w1]; exact Blk.now _ _ _ _ rfl)
  clear k_w1
  obtain ⟨w2, hw_w2⟩ : ∃ nw_, w1.alloc (.cells #[.int .i64 n] 3) = nw_ := ⟨_, rfl⟩
  have k_w2 : Below w1.heap.size w1 w2 := by rw [← hw_w2]; exact (Below.refl _ _).alloc (Nat.le_refl _) _
  replace FR := Lib.hid (FR.out.fut k_w2)
  replace BT := Lib.hid (BT.out.fut k_w2)
  have BN := Lib.hid (show Blk w2 w1.heap.size 3 #[.int .i64 n] by rw [← hw_w2]; exact Blk.now _ _ _ _ rfl)
  clear k_w2
  obtain ⟨w3, hw_w3⟩ : ∃ nw_, w2.alloc (.cells #[.int .i64 0, .int .i64 0, .int .i64 0, .slice none 0 0] 26) = nw_ := ⟨_, rfl⟩
  have k_w3 : Below w2.heap.size w2 w3 := by rw [← hw_w3]; exact (Below.refl _ _).alloc (Nat.le_refl _) _
  replace FR := Lib.hid (FR.out.fut k_w3)
  replace BT := Lib.hid (BT.out.fut k_w3)
  replace BN := Lib.hid (BN.out.fut k_w3)
  have BR := Lib.hid (show Blk w3 w2.heap.size 26 #[.int .i64 0, .int .i64 0, .int .i64 0, .slice none 0 0] by rw [← hw_w3]; exact Blk.now _ _ _ _ rfl)
  clear k_w3
  have l01 : w.heap.size < w1.heap.size := by rw [← hw_w1]; simp
  have l12 : w1.heap.size < w2.heap.size := by rw [← hw_w2]; simp
  have TR := Lib.hid (fun w => tensorRight_bad h v c A m cap w h0 h1 h2 hn hb)
  clear h0 h1 h2 hn hb
  go_enter Try.func7, Try.ntmps7
  go_wp2_with (refine wpList_load_row rfl 26 (.tmp 2) rfl w.heap.size rfl _ _ (0, 0) _ BT.out.heap Try.underlying26 rfl (by kernel_rfl) ?_)
  clear hw_w1 hw_w2 hw_w3
  refine (TR.out _).mono ?_
  rintro e w4 ⟨rfl, hb⟩
  replace FR := Lib.hid (FR.out.fut hb)
  replace BT := Lib.hid (BT.out.fut hb)
  replace BN := Lib.hid (BN.out.fut hb)
  replace BR := Lib.hid (BR.out.fut hb)
  clear hb
  go_wp2_with (refine wpList_store_all rfl 26 (.tmp 4) (.tmp 10) rfl w2.heap.size #[.int .i64 0, .int .i64 0, .int .i64 0, .slice none 0 0] rfl rfl _ _ BR.out rfl (by kernel_rfl) (by simp [Value.oneCell']) ?_; intro w7 BQ gq; have BQ := Lib.hid BQ; have gq := Lib.hid gq)
  have BF := FR.out.out.grown gq.out FR.out.out.size (fun j hj => by have := Option.some.inj hj; omega)
  refine ret_cell_tmp rfl BQ.out rfl Try.underlying26 (by kernel_rfl) rfl ?_
  exact ⟨rfl, BF⟩

set_option maxHeartbeats 8000000 in
theorem by_ok (p : Pic) (hp : p.Right) (A : Option Addr) (cap : Nat) (n : Int) (w : World) (hs : Sl (tInt .i8) w (blo w.heap.size) A p.l.length cap p.l) (hn : InK .i64 n) :
    Calls Try.prog 7 #[.agg #[.int .i64 (p.H : Int), .int .i64 (p.W : Int), .int .i64 (p.C : Int), .slice A p.l.length cap], .int .i64 n] w (RetT .i8 (tenOf (byV p n)) 0 w) := by
  obtain ⟨bl, off, rfl, _, _, _, _⟩ := hs.int_at 0 hp.pos
  have TR := Lib.hid (tensorRight_ok hp (some ⟨bl, off, none⟩) cap)
  have pok := hp.ok
  have pf := hp.few
  have ph := hp.h
  have pw := hp.w
  have pc := hp.c
  obtain ⟨H, W, C, l⟩ := p
  unfold Pic.ok at pok
  simp only at *
  obtain ⟨E, hE⟩ : ∃ E, l.length = E := ⟨_, rfl⟩
  rw [hE] at pok pf TR hs ⊢
  obtain ⟨q, hq⟩ : ∃ q, quarterV n = q := ⟨_, rfl⟩
  have q4 : q < 4 := by rw [← hq]; exact quarterV_lt n
  obtain ⟨H1, W1, fr, fc, WH⟩ := whence H W C l q q4 (by rw [hE]; exact pok) ph.1 pw.1
  have R := Lib.hid (show byV ⟨H, W, C, l⟩ n = ⟨H1, W1, C, pick l C (fun i => fr i * W + fc i) (H1 * W1)⟩ by unfold byV; rw [hq]; exact WH.is)
  have QN := Lib.hid (fun w => quarter_any n w hn)
  rw [hq] at QN
  have k3 : 1 ≤ H1 ∧ H1 ≤ 16 ∧ 1 ≤ W1 ∧ W1 ≤ 16 := by
    rcases Nat.mod_two_eq_zero_or_one q with e | e
    · obtain ⟨rfl, rfl⟩ := WH.even e; omega
    · obtain ⟨rfl, rfl⟩ := WH.odd e; omega
  have FR := Lib.hid (Far.refl w)
  obtain ⟨w1, hw_w1⟩ : ∃ nw_, w.alloc (.cells #[.int .i64 (H : Int), .int .i64 (W : Int), .int .i64 (C : Int), .slice (some ⟨bl, off, none⟩) E cap] 26) = nw_ := ⟨_, rfl⟩
  have k_w1 : Below w.heap.size w w1 := by rw [← hw_w1]; exact (Below.refl _ _).alloc (Nat.le_refl _) _
  replace FR := Lib.hid (FR.out.fut k_w1)
  have BT := Lib.hid (show Blk w1 w.heap.size 26 #[.int .i64 (H : Int), .int .i64 (W : Int), .int .i64 (C : Int), .slice (some ⟨bl, off, none⟩) E cap] by rw [← hw_w1]; exact Blk.now _ _ _ _ rfl)
  clear k_w1
  obtain ⟨w2, hw_w2⟩ : ∃ nw_, w1.alloc (.cells #[.int .i64 n] 3) = nw_ := ⟨_, rfl⟩
  have k_w2 : Below w1.heap.size w1 w2 := by rw [← hw_w2]; exact (Below.refl _ _).alloc (Nat.le_refl _) _
  replace FR := Lib.hid (FR.out.fut k_w2)
  replace BT := Lib.hid (BT.out.fut k_w2)
  have BN := Lib.hid (show Blk w2 w1.heap.size 3 #[.int .i64 n] by rw [← hw_w2]; exact Blk.now _ _ _ _ rfl)
  clear k_w2
  obtain ⟨w3, hw_w3⟩ : ∃ nw_, w2.alloc (.cells #[.int .i64 0, .int .i64 0, .int .i64 0, .slice none 0 0] 26) = nw_ := ⟨_, rfl⟩
  have k_w3 : Below w2.heap.size w2 w3 := by rw [← hw_w3]; exact (Below.refl _ _).alloc (Nat.le_refl _) _
  replace FR := Lib.hid (FR.out.fut k_w3)
  replace BT := Lib.hid (BT.out.fut k_w3)
  replace BN := Lib.hid (BN.out.fut k_w3)
  have BR := Lib.hid (show Blk w3 w2.heap.size 26 #[.int .i64 0, .int .i64 0, .int .i64 0, .slice none 0 0] by rw [← hw_w3]; exact Blk.now _ _ _ _ rfl)
  clear k_w3
  have OL := Lib.hid (Old.mk (w0 := w) (hs.below FR.out.out (fun _ h => h)) FR.out.out.size)
  have l01 : w.heap.size < w1.heap.size := by rw [← hw_w1]; simp
  have l12 : w1.heap.size < w2.heap.size := by rw [← hw_w2]; simp
  have l23 : w2.heap.size < w3.heap.size := by rw [← hw_w3]; simp
  have WHH := Lib.hid WH
  have PK := Lib.hid (And.intro pok hE)
  clear hs hn hp WH hq pok hE
  go_enter Try.func7, Try.ntmps7
  go_wp2_with (refine wpList_load_row rfl 26 (.tmp 2) rfl w.heap.size rfl _ _ (0, 0) _ BT.out.heap Try.underlying26 rfl (by kernel_rfl) ?_)
  clear hw_w1 hw_w2 hw_w3
  refine (TR.out _).mono ?_
  rintro e w4 ⟨rfl, hb⟩
  have z4 := hb.size
  replace FR := Lib.hid (FR.out.fut hb)
  replace BT := Lib.hid (BT.out.fut hb)
  replace BN := Lib.hid (BN.out.fut hb)
  replace BR := Lib.hid (BR.out.fut hb)
  replace OL := Lib.hid (OL.out.fut hb)
  clear hb
  have n0 := BN.out.cell 0
  clear TR
  go_wp2_with fail
  refine (QN.out _).mono ?_
  rintro e w' ⟨rfl, rfl⟩
  clear n0 QN
  go_upto_region 4 with (refine wpList_store_one rfl 3 (.tmp 3) (.tmp 12) rfl w1.heap.size 0 (.int .i64 (q : Int)) rfl rfl rfl rfl _ _ #[.int .i64 (q : Int)] BN.out (by simp) (by kernel_rfl) rfl ?_; intro w5 bn5 g5)
  have BN5 := Lib.hid bn5
  replace BT := Lib.hid (BT.out.away g5 (by omega))
  replace BR := Lib.hid (BR.out.away g5 (by omega))
  replace FR := Lib.hid (FR.out.away g5 (by omega))
  replace OL := Lib.hid (OL.out.away g5 (by omega))
  have z5 := g5.size
  clear bn5 g5 BN
  go_upto_region 5 with (first
    | (refine wpList_load_blk rfl 23 (.tmp 13) rfl w.heap.size 0 rfl _ _ #[.int .i64 (H : Int), .int .i64 (W : Int), .int .i64 (C : Int)] _ BT.out Try.underlying23 rfl (by kernel_rfl) rfl ?_)
    | (refine wpList_store_all rfl 23 (.tmp 6) (.tmp 14) rfl w5.heap.size #[.int .i64 (H : Int), .int .i64 (W : Int), .int .i64 (C : Int)] rfl rfl _ _ (Blk.now _ _ _ _ rfl) rfl (by kernel_rfl) (by simp [Value.oneCell']) ?_; intro w6 bs6 g6; have k6 : Below w5.heap.size w5 w6 := ((Below.refl _ _).alloc (Nat.le_refl _) _).grown g6 (by simp) (fun k h => by have := Option.some.inj h; omega)))
  have z6 := k6.size
  have BS := Lib.hid bs6
  have BN6 := Lib.hid (BN5.out.later k6)
  replace FR := Lib.hid (FR.out.fut k6)
  replace BT := Lib.hid (BT.out.fut k6)
  replace BR := Lib.hid (BR.out.fut k6)
  replace OL := Lib.hid (OL.out.fut k6)
  clear k6
  clear bs6 g6 BN5
  have n0 := BN6.out.cell 0
  go_upto_if 17 with fail
  clear n0
  go_cut [] (fun wx => Blk wx w5.heap.size 23 #[.int .i64 (H1 : Int), .int .i64 (W1 : Int), .int .i64 (C : Int)] ∧ w6.grownBy wx (some w5.heap.size))
  case first =>
    rcases Nat.mod_two_eq_zero_or_one q with e | e
    · obtain ⟨rfl, rfl⟩ := WHH.out.even e
      have tq : ((q : Int) % 2 == 1) = false := by simp; omega
      clear e
      go_wp2_with fail
      go_meet
      case rel => exact ⟨BS.out, ⟨rfl, rfl, rfl, Nat.le_refl _, fun _ _ _ => rfl⟩⟩
    · obtain ⟨rfl, rfl⟩ := WHH.out.odd e
      have tq : ((q : Int) % 2 == 1) = true := by simp; omega
      have s0 := BS.out.cell 0
      have s1 := BS.out.cell 1
      clear e
      go_wp2_with (first
        | (refine wpList_store_one rfl 3 (.tmp 22) (.tmp 19) rfl w5.heap.size 0 (.int .i64 (H1 : Int)) rfl rfl rfl rfl _ _ #[.int .i64 (H1 : Int), .int .i64 (H1 : Int), .int .i64 (C : Int)] BS.out (by simp) (by kernel_rfl) rfl ?_; intro w7 bs7 g7; have BS7 := Lib.hid bs7; have g7 := Lib.hid g7)
        | (refine wpList_store_one rfl 3 (.tmp 23) (.tmp 21) rfl w5.heap.size 1 (.int .i64 (W1 : Int)) rfl rfl rfl rfl _ _ #[.int .i64 (H1 : Int), .int .i64 (W1 : Int), .int .i64 (C : Int)] BS7.out (by simp) (by kernel_rfl) rfl ?_; intro w8 bs8 g8))
      go_meet
      case rel => exact ⟨bs8, g7.out.trans g8⟩
  case rest =>
  obtain ⟨bs, gw⟩ := hcut
  obtain ⟨w8, rfl⟩ : ∃ x, x = wc := ⟨_, rfl⟩
  have BS8 := Lib.hid bs
  have z8 := gw.size
  replace BT := Lib.hid (BT.out.away gw (by omega))
  replace BN6 := Lib.hid (BN6.out.away gw (by omega))
  replace BR := Lib.hid (BR.out.away gw (by omega))
  replace FR := Lib.hid (FR.out.away gw (by omega))
  replace OL := Lib.hid (OL.out.away gw (by omega))
  clear bs gw BS
  go_wp2_with (first | (refine wpList_load_row rfl 26 (.tmp 2) rfl w.heap.size rfl _ _ (0, 0) _ BT.out.heap Try.underlying26 rfl (by kernel_rfl) ?_) | (refine wpList_load_row rfl 23 (.tmp 6) rfl w5.heap.size rfl _ _ (0, 0) _ BS8.out.heap Try.underlying23 rfl (by kernel_rfl) ?_))
  have nlt := BN6.out.lt
  obtain ⟨kk1, kk2, kk3, kk4⟩ := k3
  refine (madeBy_any H W H1 W1 C E cap bl off l fr fc (fun i => (rightN (fl (2 * ((i : Int) % (W1 : Int)) - ((W1 : Int) - 1)), fl ((H1 : Int) - 1 - 2 * ((i : Int) / (W1 : Int)))) q).1) (fun i => (rightN (fl (2 * ((i : Int) % (W1 : Int)) - ((W1 : Int) - 1)), fl ((H1 : Int) - 1 - 2 * ((i : Int) / (W1 : Int)))) q).2) ⟨w1.heap.size, 0, none⟩ w8 OL.out.all (by exact PK.out.1) ph pw ⟨kk1, kk2⟩ ⟨kk3, kk4⟩ pc WHH.out.many pf ?_ ?_).mono ?_
  · intro i hi
    obtain ⟨r1, r2, r3⟩ := WHH.out.at_ i hi
    have d1 := div_lt' hi
    have d2 := Nat.mod_lt i (show 0 < W1 by omega)
    have f1 := Fl.fl (n := 2 * ((i : Int) % (W1 : Int)) - ((W1 : Int) - 1)) (by rw [← Int.natCast_emod]; omega) (by rw [← Int.natCast_emod]; omega)
    have f2 := Fl.fl (n := (H1 : Int) - 1 - 2 * ((i : Int) / (W1 : Int))) (by rw [← Int.natCast_ediv]; generalize i / W1 = x at *; omega) (by rw [← Int.natCast_ediv]; generalize i / W1 = x at *; omega)
    have f3 := rightN_fl f1 f2 q
    rw [r3] at f3
    exact ⟨r1, r2, f3.1, f3.2⟩
  · intro i hi w' hb
    have d1 := div_lt' hi
    have d2 := Nat.mod_lt i (show 0 < W1 by omega)
    have f1 := Fl.fl (n := 2 * ((i : Int) % (W1 : Int)) - ((W1 : Int) - 1)) (by rw [← Int.natCast_emod]; omega) (by rw [← Int.natCast_emod]; omega)
    have f2 := Fl.fl (n := (H1 : Int) - 1 - 2 * ((i : Int) / (W1 : Int))) (by rw [← Int.natCast_ediv]; generalize i / W1 = x at *; omega) (by rw [← Int.natCast_ediv]; generalize i / W1 = x at *; omega)
    exact by1_any _ _ q _ _ _ w' f1 f2 ((BN6.out.later hb).cell 0) (by omega)
  rintro e w9 ⟨A9, c9, rfl, hs9, hb⟩
  have S9 := Lib.hid hs9
  have F8 := Lib.hid FR.out
  have z9 := hb.size
  replace FR := Lib.hid (FR.out.fut hb)
  replace BR := Lib.hid (BR.out.fut hb)
  clear hb
  clear hs9
  go_wp2_with (refine wpList_store_all rfl 26 (.tmp 4) (.tmp 27) rfl w2.heap.size #[.int .i64 (H1 : Int), .int .i64 (W1 : Int), .int .i64 (C : Int), .slice A9 E c9] rfl rfl _ _ BR.out rfl (by kernel_rfl) (by simp [Value.oneCell']) ?_; intro w10 BQ gq; have BQ := Lib.hid BQ; have gq := Lib.hid gq)
  have BF := FR.out.out.grown gq.out FR.out.out.size (fun j hj => by have := Option.some.inj hj; omega)
  refine ret_cell_tmp rfl BQ.out rfl Try.underlying26 (by kernel_rfl) rfl ?_
  rw [R.out]
  have zq := gq.out.size
  refine ⟨A9, E, c9, rfl, ?_, BF⟩
  exact (S9.out.keep fun b hb => gq.out.block b hb.2 (by have := hb.1; simp; omega)).more fun b hb => ⟨by have := hb.1; omega, by have := hb.2; omega⟩
set_option maxHeartbeats 8000000 in
theorem over_bad (h v c : Int) (A : Option Addr) (m cap : Nat) (w : World) (h0 : InK .i64 h) (h1 : InK .i64 v) (h2 : InK .i64 c) (hn : m ≤ maxLen) (hb : ¬ (0 < elems h v c ∧ elems h v c = m)) :
    Calls Try.prog 8 #[.agg #[.int .i64 h, .int .i64 v, .int .i64 c, .slice A m cap]] w fun e w' => e = .returned (.tuple #[.agg #[.int .i64 0, .int .i64 0, .int .i64 0, .slice none 0 0], .int .i64 5]) ∧ Below w.heap.size w w' := by
  have FR := Lib.hid (Far.refl w)
  obtain ⟨w1, hw_w1⟩ : ∃ nw_, w.alloc (.cells #[.int .i64 h, .int .i64 v, .int .i64 c, .slice A m cap] 26) = nw_ := ⟨_, rfl⟩
  have k_w1 : Below w.heap.size w w1 := by rw [← hw_w1]; exact (Below.refl _ _).alloc (Nat.le_refl _) _
  replace FR := Lib.hid (FR.out.fut k_w1)
  have BT := Lib.hid (show Blk w1 w.heap.size 26 #[.int .i64 h, .int .i64 v, .int .i64 c, .slice A m cap] by rw [← hw_w1]; exact Blk.now _ _ _ _ rfl)
  clear k_w1
  obtain ⟨w2, hw_w2⟩ : ∃ nw_, w1.alloc (.cells #[.int .i64 0, .int .i64 0, .int .i64 0, .slice none 0 0] 26) = nw_ := ⟨_, rfl⟩
  have k_w2 : Below w1.heap.size w1 w2 := by rw [← hw_w2]; exact (Below.refl _ _).alloc (Nat.le_refl _) _
  replace FR := Lib.hid (FR.out.fut k_w2)
  replace BT := Lib.hid (BT.out.fut k_w2)
  have BR := Lib.hid (show Blk w2 w1.heap.size 26 #[.int .i64 0, .int .i64 0, .int .i64 0, .slice none 0 0] by rw [← hw_w2]; exact Blk.now _ _ _ _ rfl)
  clear k_w2
  have l01 : w.heap.size < w1.heap.size := by rw [← hw_w1]; simp
  have TR := Lib.hid (fun w => tensorRight_bad h v c A m cap w h0 h1 h2 hn hb)
  clear h0 h1 h2 hn hb
  go_enter Try.func8, Try.ntmps8
  go_wp2_with (refine wpList_load_row rfl 26 (.tmp 1) rfl w.heap.size rfl _ _ (0, 0) _ BT.out.heap Try.underlying26 rfl (by kernel_rfl) ?_)
  clear hw_w1 hw_w2
  refine (TR.out _).mono ?_
  rintro e w4 ⟨rfl, hb⟩
  replace FR := Lib.hid (FR.out.fut hb)
  replace BT := Lib.hid (BT.out.fut hb)
  replace BR := Lib.hid (BR.out.fut hb)
  clear hb
  go_wp2_with (refine wpList_store_all rfl 26 (.tmp 2) (.tmp 7) rfl w1.heap.size #[.int .i64 0, .int .i64 0, .int .i64 0, .slice none 0 0] rfl rfl _ _ BR.out rfl (by kernel_rfl) (by simp [Value.oneCell']) ?_; intro w7 BQ gq; have BQ := Lib.hid BQ; have gq := Lib.hid gq)
  have BF := FR.out.out.grown gq.out FR.out.out.size (fun j hj => by have := Option.some.inj hj; omega)
  refine ret_cell_tmp rfl BQ.out rfl Try.underlying26 (by kernel_rfl) rfl ?_
  exact ⟨rfl, BF⟩

set_option maxHeartbeats 8000000 in
theorem over_right (p : Pic) (hp : p.Right) (A : Option Addr) (cap : Nat) (w : World) (hs : Sl (tInt .i8) w (blo w.heap.size) A p.l.length cap p.l) :
    Calls Try.prog 8 #[.agg #[.int .i64 (p.H : Int), .int .i64 (p.W : Int), .int .i64 (p.C : Int), .slice A p.l.length cap]] w (RetT .i8 (tenOf (over p)) 0 w) := by
  obtain ⟨bl, off, rfl, _, _, _, _⟩ := hs.int_at 0 hp.pos
  have TR := Lib.hid (tensorRight_ok hp (some ⟨bl, off, none⟩) cap)
  have pok := hp.ok
  have pf := hp.few
  have ph := hp.h
  have pw := hp.w
  have pc := hp.c
  obtain ⟨H, W, C, l⟩ := p
  unfold Pic.ok at pok
  simp only at *
  obtain ⟨E, hE⟩ : ∃ E, l.length = E := ⟨_, rfl⟩
  rw [hE] at pok pf TR hs ⊢
  have FR := Lib.hid (Far.refl w)
  obtain ⟨w1, hw_w1⟩ : ∃ nw_, w.alloc (.cells #[.int .i64 (H : Int), .int .i64 (W : Int), .int .i64 (C : Int), .slice (some ⟨bl, off, none⟩) E cap] 26) = nw_ := ⟨_, rfl⟩
  have k_w1 : Below w.heap.size w w1 := by rw [← hw_w1]; exact (Below.refl _ _).alloc (Nat.le_refl _) _
  replace FR := Lib.hid (FR.out.fut k_w1)
  have BT := Lib.hid (show Blk w1 w.heap.size 26 #[.int .i64 (H : Int), .int .i64 (W : Int), .int .i64 (C : Int), .slice (some ⟨bl, off, none⟩) E cap] by rw [← hw_w1]; exact Blk.now _ _ _ _ rfl)
  clear k_w1
  obtain ⟨w2, hw_w2⟩ : ∃ nw_, w1.alloc (.cells #[.int .i64 0, .int .i64 0, .int .i64 0, .slice none 0 0] 26) = nw_ := ⟨_, rfl⟩
  have k_w2 : Below w1.heap.size w1 w2 := by rw [← hw_w2]; exact (Below.refl _ _).alloc (Nat.le_refl _) _
  replace FR := Lib.hid (FR.out.fut k_w2)
  replace BT := Lib.hid (BT.out.fut k_w2)
  have BR := Lib.hid (show Blk w2 w1.heap.size 26 #[.int .i64 0, .int .i64 0, .int .i64 0, .slice none 0 0] by rw [← hw_w2]; exact Blk.now _ _ _ _ rfl)
  clear k_w2
  have OL := Lib.hid (Old.mk (w0 := w) (hs.below FR.out.out (fun _ h => h)) FR.out.out.size)
  have l01 : w.heap.size < w1.heap.size := by rw [← hw_w1]; simp
  have l12 : w1.heap.size < w2.heap.size := by rw [← hw_w2]; simp
  have PK := Lib.hid (And.intro pok hE)
  clear hs hp pok hE
  go_enter Try.func8, Try.ntmps8
  go_wp2_with (refine wpList_load_row rfl 26 (.tmp 1) rfl w.heap.size rfl _ _ (0, 0) _ BT.out.heap Try.underlying26 rfl (by kernel_rfl) ?_)
  clear hw_w1 hw_w2
  refine (TR.out _).mono ?_
  rintro e w4 ⟨rfl, hb⟩
  have z4 := hb.size
  replace FR := Lib.hid (FR.out.fut hb)
  replace BT := Lib.hid (BT.out.fut hb)
  replace BR := Lib.hid (BR.out.fut hb)
  replace OL := Lib.hid (OL.out.fut hb)
  clear hb
  clear TR
  go_wp2_with (first
    | (refine wpList_load_row rfl 26 (.tmp 1) rfl w.heap.size rfl _ _ (0, 0) _ BT.out.heap Try.underlying26 rfl (by kernel_rfl) ?_)
    | (refine wpList_load_blk rfl 23 (.tmp 9) rfl w.heap.size 0 rfl _ _ #[.int .i64 (H : Int), .int .i64 (W : Int), .int .i64 (C : Int)] _ BT.out Try.underlying23 rfl (by kernel_rfl) rfl ?_))
  have d0 : ∀ i : Nat, i < H * W → i / W < H ∧ i % W < W := fun i hi => ⟨div_lt' hi, Nat.mod_lt i (by omega)⟩
  refine (madeOver_any H W H W C E cap bl off l (fun i => i / W) (fun i => W - 1 - i % W) (fun i => Op.negFloat .f64 (fl (2 * ((i : Int) % (W : Int)) - ((W : Int) - 1)))) (fun i => fl ((H : Int) - 1 - 2 * ((i : Int) / (W : Int)))) w4 OL.out.all (by exact PK.out.1) ph pw ph pw pc rfl pf ?_ ?_).mono ?_
  · intro i hi
    obtain ⟨d1, d2⟩ := d0 i hi
    have f1 := (Fl.fl (n := 2 * ((i : Int) % (W : Int)) - ((W : Int) - 1)) (by rw [← Int.natCast_emod]; omega) (by rw [← Int.natCast_emod]; omega)).ok.neg
    have f2 := Fl.fl (n := (H : Int) - 1 - 2 * ((i : Int) / (W : Int))) (by rw [← Int.natCast_ediv]; generalize i / W = x at *; omega) (by rw [← Int.natCast_ediv]; generalize i / W = x at *; omega)
    rw [show -(2 * ((i : Int) % (W : Int)) - ((W : Int) - 1)) = 2 * ((W - 1 - i % W : Nat) : Int) - ((W : Int) - 1) by rw [← Int.natCast_emod]; omega] at f1
    rw [show (H : Int) - 1 - 2 * ((i : Int) / (W : Int)) = (H : Int) - 1 - 2 * ((i / W : Nat) : Int) by rw [← Int.natCast_ediv]] at f2
    exact ⟨d1, sub_lt' (by omega), f1, by simpa using f2⟩
  · intro i hi w' hb
    exact over1_any _ _ w'
  rintro e w9 ⟨A9, c9, rfl, hs9, hb⟩
  have S9 := Lib.hid hs9
  have z9 := hb.size
  replace FR := Lib.hid (FR.out.fut hb)
  replace BR := Lib.hid (BR.out.fut hb)
  clear hb
  clear hs9
  go_wp2_with (refine wpList_store_all rfl 26 (.tmp 2) (.tmp 11) rfl w1.heap.size #[.int .i64 (H : Int), .int .i64 (W : Int), .int .i64 (C : Int), .slice A9 E c9] rfl rfl _ _ BR.out rfl (by kernel_rfl) (by simp [Value.oneCell']) ?_; intro w10 BQ gq; have BQ := Lib.hid BQ; have gq := Lib.hid gq)
  have BF := FR.out.out.grown gq.out FR.out.out.size (fun j hj => by have := Option.some.inj hj; omega)
  refine ret_cell_tmp rfl BQ.out rfl Try.underlying26 (by kernel_rfl) rfl ?_
  have zq := gq.out.size
  refine ⟨A9, E, c9, rfl, ?_, BF⟩
  exact (S9.out.keep fun b hb => gq.out.block b hb.2 (by have := hb.1; simp; omega)).more fun b hb => ⟨by have := hb.1; omega, by have := hb.2; omega⟩
end Go.Proofs.Ytbdanfbfohikdaa
