/-
  turn.Views, turn.Back (layer 23): a tensor in all eight ways, and whence a view comes.
  Conditions: none.
-/
import Derived.Test.YtbdanfbfohikdaaChecked
import Derived.Test.YtbdanfbfohikdaaTurnE
import Derived.Deep.DeepCutAuto
import Derived.Deep.CutRange
import Derived.Deep.CutBlock
namespace Go.Proofs.Ytbdanfbfohikdaa
set_option linter.unusedVariables false
set_option linter.unusedSimpArgs false
open Go.RowKit Go.ChangeShapes Go.WideShapes
set_option maxRecDepth 100000

theorem Own.wider {α : Type} {t : Ty α} {w : World} {S S' : Nat → Prop} {base : Nat} {E : TypeId} {v : Value} {n : Nat} {l : List α} (h : Own t w S base E v n l) (hk : ∀ b, S b → S' b) : Own t w S' base E v n l :=
  let ⟨vs, h1, h2⟩ := h.out; ⟨vs, h1, h2.more hk⟩
theorem ei_tensor : EI Try.prog 39 26 (.agg #[.int .i64 0, .int .i64 0, .int .i64 0, .slice none 0 0]) 4 48 := ⟨Try.underlying39, by kernel_rfl, rfl, by decide⟩
theorem tensor_rep {p : Pic} (hp : p.Right) {w : World} {S : Nat → Prop} {A : Option Addr} {c : Nat} (hs : Sl (tInt .i8) w S A p.l.length c p.l) : tTensor.rep w S [.int .i64 (p.H : Int), .int .i64 (p.W : Int), .int .i64 (p.C : Int), .slice A p.l.length c] (tenOf p) := by
  have h1 := hp.h
  have h2 := hp.w
  have h3 := hp.c
  exact ⟨(((p.H : Int), (p.W : Int), (p.C : Int)), p.l), rfl, _, _, rfl, ⟨_, _, rfl, ⟨rfl, by rw [inK_i64]; simp only; omega⟩, _, _, rfl, ⟨rfl, by rw [inK_i64]; simp only; omega⟩, rfl, by rw [inK_i64]; simp only; omega⟩, hs.rep⟩

/-- The tensor of which a view is. -/
def viewFrom (p : Pic) (k : Nat) : Pic := if k < 4 then p else over p
theorem viewFrom_right {p : Pic} (hp : p.Right) (k : Nat) : (viewFrom p k).Right := by unfold viewFrom; split; exact hp; exact hp.over
def viewOf (p : Pic) (k : Nat) : Pic := byV (viewFrom p k) (k : Int)
theorem viewOf_right {p : Pic} (hp : p.Right) (k : Nat) : (viewOf p k).Right := (viewFrom_right hp k).by_ _
def viewsT (p : Pic) : List Tensor := (List.range 8).map fun k => tenOf (viewOf p k)
theorem viewsT_take (p : Pic) (k : Nat) (h : k < 8) : (viewsT p).take (k + 1) = (viewsT p).take k ++ [tenOf (viewOf p k)] :=
  take_snoc _ k _ (by unfold viewsT; rw [List.getElem?_map, List.getElem?_range h]; rfl)

theorem views_bad (h v c : Int) (A : Option Addr) (m cap : Nat) (w : World) (h0 : InK .i64 h) (h1 : InK .i64 v) (h2 : InK .i64 c) (hn : m ≤ maxLen) (hb : ¬ (0 < elems h v c ∧ elems h v c = m)) :
    Calls Try.prog 13 #[.agg #[.int .i64 h, .int .i64 v, .int .i64 c, .slice A m cap]] w fun e w' => e = .returned (.tuple #[.slice none 0 0, .int .i64 5]) ∧ Below w.heap.size w w' := by
  have FR := Lib.hid (Far.refl w)
  obtain ⟨w1, hw_w1⟩ : ∃ nw_, w.alloc (.cells #[.int .i64 h, .int .i64 v, .int .i64 c, .slice A m cap] 26) = nw_ := ⟨_, rfl⟩
  have k_w1 : Below w.heap.size w w1 := by rw [← hw_w1]; exact (Below.refl _ _).alloc (Nat.le_refl _) _
  replace FR := Lib.hid (FR.out.fut k_w1)
  have BT := Lib.hid (show Blk w1 w.heap.size 26 #[.int .i64 h, .int .i64 v, .int .i64 c, .slice A m cap] by rw [← hw_w1]; exact Blk.now _ _ _ _ rfl)
  clear k_w1
  have PO := Lib.hid (fun w => over_bad h v c A m cap w h0 h1 h2 hn hb)
  clear h0 h1 h2 hn hb
  go_enter Try.func13, Try.ntmps13
  go_wp2_with (refine wpList_load_row rfl 26 (.tmp 1) rfl w.heap.size rfl _ _ (0, 0) _ BT.out.heap Try.underlying26 rfl (by kernel_rfl) ?_)
  clear hw_w1
  refine (PO.out _).mono ?_
  rintro e w2 ⟨rfl, hb⟩
  replace FR := Lib.hid (FR.out.fut hb)
  clear hb
  go_wp2_with (refine wpList_store_all rfl 26 (.tmp 4) (.tmp 14) rfl w2.heap.size #[.int .i64 0, .int .i64 0, .int .i64 0, .slice none 0 0] rfl rfl _ _ (Blk.now _ _ _ _ rfl) rfl (by kernel_rfl) (by simp [Value.oneCell']) ?_; intro w3 bq gq; have BQ := Lib.hid bq; have KBQ := Lib.hid (show Below w2.heap.size w2 w3 from ((Below.refl _ _).alloc (Nat.le_refl _) _).grown gq (by simp) (fun k h => by have := Option.some.inj h; omega)); clear bq gq)
  go_ret2
  exact ⟨rfl, (FR.out.fut KBQ.out).out⟩

def RetViews (p : Pic) (w : World) (e : Ending) (w' : World) : Prop :=
  ∃ A c, e = .returned (.tuple #[.slice A 8 c, .int .i64 0]) ∧ Sl tTensor w' (bin w.heap.size w'.heap.size) A 8 c (viewsT p) ∧ Below w.heap.size w w'

set_option maxHeartbeats 16000000 in
theorem views_ok (p : Pic) (hp : p.Right) (A : Option Addr) (cap : Nat) (w : World) (hs : Sl (tInt .i8) w (blo w.heap.size) A p.l.length cap p.l) :
    Calls Try.prog 13 #[.agg #[.int .i64 (p.H : Int), .int .i64 (p.W : Int), .int .i64 (p.C : Int), .slice A p.l.length cap]] w (RetViews p w) := by
  have FR := Lib.hid (Far.refl w)
  obtain ⟨w1, hw_w1⟩ : ∃ nw_, w.alloc (.cells #[.int .i64 (p.H : Int), .int .i64 (p.W : Int), .int .i64 (p.C : Int), .slice A p.l.length cap] 26) = nw_ := ⟨_, rfl⟩
  have k_w1 : Below w.heap.size w w1 := by rw [← hw_w1]; exact (Below.refl _ _).alloc (Nat.le_refl _) _
  replace FR := Lib.hid (FR.out.fut k_w1)
  have BT := Lib.hid (show Blk w1 w.heap.size 26 #[.int .i64 (p.H : Int), .int .i64 (p.W : Int), .int .i64 (p.C : Int), .slice A p.l.length cap] by rw [← hw_w1]; exact Blk.now _ _ _ _ rfl)
  clear k_w1
  have SL := Lib.hid (hs.later FR.out.out (Nat.le_refl _))
  have PO := Lib.hid (over_right p hp A cap w1 SL.out)
  have l01 : w.heap.size < w1.heap.size := by rw [← hw_w1]; simp
  have HP := Lib.hid hp
  clear hs hp
  obtain ⟨o, ho⟩ : ∃ x, over p = x := ⟨_, rfl⟩
  rw [ho] at PO
  have HO := Lib.hid ho
  clear ho
  go_enter Try.func13, Try.ntmps13
  go_wp2_with (refine wpList_load_row rfl 26 (.tmp 1) rfl w.heap.size rfl _ _ (0, 0) _ BT.out.heap Try.underlying26 rfl (by kernel_rfl) ?_)
  clear hw_w1
  refine PO.out.mono ?_
  rintro e w2 ⟨A1, m1, c1, rfl, hs1, hb⟩
  unfold tenOf at hs1
  simp only at hs1
  obtain rfl : o.l.length = m1 := hs1.n_eq
  have SO := Lib.hid hs1.old
  replace FR := Lib.hid (FR.out.fut hb)
  replace BT := Lib.hid (BT.out.fut hb)
  replace SL := Lib.hid (SL.out.fut hb)
  clear hb
  clear PO hs1
  go_wp2_with (refine wpList_store_all rfl 26 (.tmp 4) (.tmp 14) rfl w2.heap.size #[.int .i64 (o.H : Int), .int .i64 (o.W : Int), .int .i64 (o.C : Int), .slice A1 o.l.length c1] rfl rfl _ _ (Blk.now _ _ _ _ rfl) rfl (by kernel_rfl) (by simp [Value.oneCell']) ?_; intro w3 bq gq; have BO := Lib.hid bq; have KBO := Lib.hid (show Below w2.heap.size w2 w3 from ((Below.refl _ _).alloc (Nat.le_refl _) _).grown gq (by simp) (fun k h => by have := Option.some.inj h; omega)); clear bq gq)
  replace FR := Lib.hid (FR.out.fut KBO.out)
  replace BT := Lib.hid (BT.out.fut KBO.out)
  replace SL := Lib.hid (SL.out.fut KBO.out)
  replace SO := Lib.hid (SO.out.fut KBO.out)
  have z3 := FR.out.out.size
  clear KBO
  go_loopw [6, 19] (fun u i wr => ∃ (k : Nat) (S : Nat → Prop), k ≤ 8 ∧ i = .int .i64 k ∧ Own tTensor wr S w3.heap.size 26 u k ((viewsT p).take k) ∧ (∀ b, S b → bin w3.heap.size wr.heap.size b ∧ some b ≠ u.ownBlock) ∧ Below w3.heap.size w3 wr) (fun _ i _ => 8 - (intOf i).toNat)
  case atStart => exact ⟨0, fun _ => False, Nat.zero_le _, rfl, by simpa using Own.nil _ _ _ _ _, fun _ h => h.elim, Below.refl _ _⟩
  case round =>
    obtain ⟨k, S, hk, rfl, hown, hSb, hb⟩ := hrel
    have ON := Lib.hid hown
    have SB := Lib.hid hSb
    have HB := Lib.hid hb
    clear hown hSb hb
    by_cases hlt : k < 8
    · have p1 : (k : Int) < 8 := by omega
      have BTr := Lib.hid (BT.out.fut HB.out)
      have BOr := Lib.hid (BO.out.fut HB.out)
      have SLr := Lib.hid (SL.out.fut HB.out)
      have SOr := Lib.hid (SO.out.fut HB.out)
      have zr := HB.out.size
      go_upto_if 24 with (first
        | (refine wpList_load_row rfl 26 (.tmp 1) rfl w.heap.size rfl _ _ (0, 0) _ BTr.out.heap Try.underlying26 rfl (by kernel_rfl) ?_)
        | (refine wpList_store_all rfl 26 (.tmp 8) (.tmp 22) rfl wr.heap.size #[.int .i64 (p.H : Int), .int .i64 (p.W : Int), .int .i64 (p.C : Int), .slice A p.l.length cap] rfl rfl _ _ (Blk.now _ _ _ _ rfl) rfl (by kernel_rfl) (by simp [Value.oneCell']) ?_; intro w4 bq gq; have B8 := Lib.hid bq; have KB8 := Lib.hid (show Below wr.heap.size wr w4 from ((Below.refl _ _).alloc (Nat.le_refl _) _).grown gq (by simp) (fun k h => by have := Option.some.inj h; omega)); clear bq gq; have SOW := Lib.hid SOr.out; have BT8 := Lib.hid BTr.out))
      have z8 := KB8.out.size
      replace BOr := Lib.hid (BOr.out.fut KB8.out)
      replace SLr := Lib.hid (SLr.out.fut KB8.out)
      replace SOr := Lib.hid (SOr.out.fut KB8.out)
      have bw := B8.out.lt
      go_cut [] (fun wx => ∃ Af cf, Blk wx wr.heap.size 26 #[.int .i64 ((viewFrom p k).H : Int), .int .i64 ((viewFrom p k).W : Int), .int .i64 ((viewFrom p k).C : Int), .slice Af (viewFrom p k).l.length cf] ∧ Sl (tInt .i8) wx (blo wx.heap.size) Af (viewFrom p k).l.length cf (viewFrom p k).l ∧ Below wr.heap.size wr wx)
      case first =>
        by_cases h4 : 4 ≤ k
        · have tk : decide (4 ≤ (k : Int)) = true := by simp; omega
          have e4 : viewFrom p k = o := by unfold viewFrom; rw [if_neg (by omega)]; exact HO.out
          have E4 := Lib.hid e4
          clear e4
          go_wp2_with (first
            | (refine wpList_load_row rfl 26 (.tmp 4) rfl w2.heap.size rfl _ _ (0, 0) _ BOr.out.heap Try.underlying26 rfl (by kernel_rfl) ?_)
            | (refine wpList_store_all rfl 26 (.tmp 8) (.tmp 25) rfl wr.heap.size #[.int .i64 (o.H : Int), .int .i64 (o.W : Int), .int .i64 (o.C : Int), .slice A1 o.l.length c1] rfl rfl _ _ B8.out rfl (by kernel_rfl) (by simp [Value.oneCell']) ?_; intro w5 bq gq))
          go_meet
          case rel =>
            rw [E4.out]
            refine ⟨A1, c1, bq, ?_, KB8.out.grown gq KB8.out.size (fun j hj => by have := Option.some.inj hj; omega)⟩
            exact ((SOW.out.below KB8.out (fun _ h => h)).keep fun b hb => gq.block b (Nat.lt_of_lt_of_le hb z8) (fun e => by have := Option.some.inj e; have : b < wr.heap.size := hb; omega)).more fun b hb => Nat.lt_of_lt_of_le (Nat.lt_of_lt_of_le hb z8) gq.size
        · have tk : decide (4 ≤ (k : Int)) = false := by simp; omega
          have e4 : viewFrom p k = p := by unfold viewFrom; rw [if_pos (by omega)]
          have E4 := Lib.hid e4
          clear e4
          go_wp2_with fail
          go_meet
          case rel =>
            rw [E4.out]
            exact ⟨A, cap, B8.out, SLr.out, KB8.out⟩
      case rest =>
      obtain ⟨Af, cf, bf, sf, k5⟩ := hcut
      obtain ⟨w5, rfl⟩ : ∃ x, x = wc := ⟨_, rfl⟩
      have BF := Lib.hid bf
      have K5 := Lib.hid k5
      have PB := Lib.hid (by_ok (viewFrom p k) (viewFrom_right HP.out k) Af cf (k : Int) w5 sf (by rw [inK_i64]; omega))
      have VR := Lib.hid (viewOf_right HP.out k)
      have VT := Lib.hid (viewsT_take p k hlt)
      have z5 := k5.size
      have hvo : byV (viewFrom p k) (k : Int) = viewOf p k := rfl
      rw [hvo] at PB
      obtain ⟨vp, hvp⟩ : ∃ x, viewOf p k = x := ⟨_, rfl⟩
      rw [hvp] at PB VR VT
      obtain ⟨fp, hfp⟩ : ∃ x, viewFrom p k = x := ⟨_, rfl⟩
      rw [hfp] at PB BF
      clear bf sf k5 hvo hvp hfp BTr BOr SLr SOr B8 KB8 BT8
      go_wp2_with (refine wpList_load_row rfl 26 (.tmp 8) rfl wr.heap.size rfl _ _ (0, 0) _ BF.out.heap Try.underlying26 rfl (by kernel_rfl) ?_)
      refine PB.out.mono ?_
      rintro e w6 ⟨A6, m6, c6, rfl, hs6, hb⟩
      unfold tenOf at hs6
      simp only at hs6
      obtain rfl : vp.l.length = m6 := hs6.n_eq
      have S6 := Lib.hid hs6
      have K6 := Lib.hid (below_later hb K5.out)
      have z6 := hb.size
      clear hs6 hb PB
      have on6 := Lib.hid (ON.out.below K6.out (Nat.le_refl _) (fun x hx => (SB.out x hx).1.2))
      have LT := Lib.hid (fun j (hj : u6.ownBlock = some j) => (ON.out.lt j hj))
      go_wp2_with (first
        | (refine wpList_store_all rfl 26 (.tmp 9) (.tmp 30) rfl w6.heap.size #[.int .i64 (vp.H : Int), .int .i64 (vp.W : Int), .int .i64 (vp.C : Int), .slice A6 vp.l.length c6] rfl rfl _ _ (Blk.now _ _ _ _ rfl) rfl (by kernel_rfl) (by simp [Value.oneCell']) ?_; intro w7 bq gq; have B9 := Lib.hid bq; have KB9 := Lib.hid (show Below w6.heap.size w6 w7 from ((Below.refl _ _).alloc (Nat.le_refl _) _).grown gq (by simp) (fun k h => by have := Option.some.inj h; omega)); clear bq gq)
        | (refine wpList_load_row rfl 26 (.tmp 9) rfl w6.heap.size rfl _ _ (0, 0) _ B9.out.heap Try.underlying26 rfl (by kernel_rfl) ?_)
        | (refine wpList_lit1 rfl (.tmp 36) rfl ei_tensor #[.int .i64 (vp.H : Int), .int .i64 (vp.W : Int), .int .i64 (vp.C : Int), .slice A6 vp.l.length c6] rfl rfl (by decide) ?_)
        | (at_builtin; refine wpList_push (W := w7) (cs := #[.int .i64 (vp.H : Int), .int .i64 (vp.W : Int), .int .i64 (vp.C : Int), .slice A6 vp.l.length c6]) (E := 26) (t := tTensor) (S := fun x => bin w3.heap.size w7.heap.size x ∧ some x ≠ u6.ownBlock) (base := w3.heap.size) rfl (.tmp 35) (.tmp 37) rfl ei_tensor (v := u6) rfl ((on6.out.below KB9.out (Nat.le_refl _) (fun x hx => Nat.lt_of_lt_of_le (SB.out x hx).1.2 (Nat.le_trans z5 z6))).wider (fun x hx => ⟨⟨(SB.out x hx).1.1, Nat.lt_of_lt_of_le (SB.out x hx).1.2 (Nat.le_trans (Nat.le_trans z5 z6) KB9.out.size)⟩, (SB.out x hx).2⟩)) 1 rfl (tenOf vp) (tensor_rep VR.out ((S6.out.keep (fun x hx => KB9.out.block x hx.2)).more (fun x hx => ⟨⟨Nat.le_trans zr (Nat.le_trans z5 hx.1), Nat.lt_of_lt_of_le hx.2 KB9.out.size⟩, fun e => by have := (LT.out x e.symm).2; have := hx.1; omega⟩))) (by unfold maxLen; omega) (by omega) (Nat.le_trans zr (Nat.le_trans (Nat.le_trans z5 z6) KB9.out.size)) (fun x hx => ⟨hx.1.2, hx.2⟩) ?_; intro v' w8 own8 g8 at8))
      have b8 := ((below_later KB9.out (below_later K6.out HB.out))).grown g8 (Nat.le_trans zr (Nat.le_trans (Nat.le_trans z5 z6) KB9.out.size)) (fun j hj => (LT.out j hj).1)
      refine ⟨⟨k + 1, (fun x => bin w3.heap.size w7.heap.size x ∧ some x ≠ u6.ownBlock), by omega, by go_num, by rw [VT.out]; exact own8, fun x hx => ⟨⟨hx.1.1, Nat.lt_of_lt_of_le hx.1.2 g8.size⟩, ?_⟩, b8⟩, by simp [intOf]; omega⟩
      rcases at8 with e | e
      · rw [e]; exact hx.2
      · rw [e]; intro e2; have := Option.some.inj e2; have := hx.1.2; omega
    · obtain rfl : k = 8 := by omega
      have hall : (viewsT p).take 8 = viewsT p := List.take_of_length_le (by simp [viewsT])
      rw [hall] at ON
      obtain ⟨A9, c9, rfl, s9⟩ := ON.out.sl (S' := bin w3.heap.size wr.heap.size) (by decide) (fun b h1 h2 => ⟨h1, h2⟩) (fun b hb => (SB.out b hb).1)
      have S9 := Lib.hid s9
      have F9 := Lib.hid (FR.out.fut HB.out)
      clear ON SB s9 hall hlt hk
      go_wp2_with fail
      go_ret2
      exact ⟨A9, c9, rfl, S9.out.more (bin_more z3 (Nat.le_refl _)), F9.out.out⟩
end Go.Proofs.Ytbdanfbfohikdaa
