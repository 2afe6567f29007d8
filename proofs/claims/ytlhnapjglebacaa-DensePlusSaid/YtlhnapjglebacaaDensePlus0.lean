/-
  The walk of the law DensePlus: two rows of weights, added, make the sums of both less a bias that counts twice.
  Conditions: none.
-/
import Derived.Test.YtlhnapjglebacaaDenseA
import Derived.StillTailTactics
import Derived.Deep.RegionWith
namespace Go.Proofs.Ytlhnapjglebacaa
set_option linter.unusedVariables false
set_option linter.unusedSimpArgs false
open Go.RowKit Go.ChangeShapes Go.WideShapes
set_option maxRecDepth 100000

def halves (a : List Int) : Nat → List Int := fun k => (List.range k).map fun i => (a.getD i 0).tdiv 2
def addHalves (a b : List Int) : Nat → List Int := fun k => (List.range k).map fun i => (a.getD i 0).tdiv 2 + (b.getD i 0).tdiv 2

theorem halves_succ (a : List Int) (k : Nat) : halves a (k + 1) = halves a k ++ [(a.getD k 0).tdiv 2] := by unfold halves; rw [List.range_succ, List.map_append]; rfl
theorem addHalves_succ (a b : List Int) (k : Nat) : addHalves a b (k + 1) = addHalves a b k ++ [(a.getD k 0).tdiv 2 + (b.getD k 0).tdiv 2] := by unfold addHalves; rw [List.range_succ, List.map_append]; rfl
theorem getD_map_range (f : Nat → Int) (n k : Nat) (h : k < n) : ((List.range n).map f).getD k 0 = f k := by
  simp [List.getD_eq_getElem?_getD, h]

theorem rawSum_plus (x a b : List Int) (z : Int) (n k : Nat) (h : k ≤ n) : rawSum x (addHalves a b n) z k = rawSum x (halves a n) z k + rawSum x (halves b n) z k := by
  induction k with
  | zero => rfl
  | succ k ih =>
    rw [rawSum, rawSum, rawSum, ih (by omega), addHalves, halves, halves, getD_map_range _ _ _ (by omega), getD_map_range _ _ _ (by omega), getD_map_range _ _ _ (by omega), Int.add_mul]
    omega

theorem plus_law (x a b : List Int) (z bias : Int) (n : Nat) :
    wrap32 (wrap32 (wrap32 (bias + rawSum x (halves a n) z n) + wrap32 (bias + rawSum x (halves b n) z n)) - bias) = wrap32 (bias + rawSum x (addHalves a b n) z n) := by
  rw [rawSum_plus x a b z n n (Nat.le_refl _)]
  unfold wrap32
  omega

theorem half_in (a : Int) (h : InK .i8 a) : -64 ≤ a.tdiv 2 ∧ a.tdiv 2 ≤ 63 := by
  rw [inK_i8] at h
  rcases Int.le_total 0 a with h0 | h0
  · rw [Int.tdiv_eq_ediv_of_nonneg h0]; omega
  · have : a = -(-a) := by omega
    rw [this, Int.neg_tdiv, Int.tdiv_eq_ediv_of_nonneg (by omega)]; omega

theorem line_one (x wl : List Int) (z bias : Int) (n : Nat) (hn : 1 ≤ n) (h1 : x.length = n) (h2 : wl.length = n) : denseLine x wl [bias] z = [wrap32 (bias + rawSum x wl z n)] := by
  rw [denseLine_eq x wl [bias] z n n 1 h1 h2 rfl, if_neg (by omega)]
  simp [List.range_succ]

theorem ei_i8 : EI Try.prog 29 31 (.int .i8 0) 1 1 := ⟨Try.underlying29, by kernel_rfl, rfl, by decide⟩

set_option maxHeartbeats 1600000 in
theorem densePlus_any (A A' A'' : Option Addr) (n cap n' cap' n'' cap'' : Nat) (x a b : List Int) (bias z : Int) (w : World) (hx : Sl (tInt .i8) w (blo w.heap.size) A n cap x) (ha : Sl (tInt .i8) w (blo w.heap.size) A' n' cap' a)
    (hb : Sl (tInt .i8) w (blo w.heap.size) A'' n'' cap'' b) (hbias : InK .i32 bias) (hz : InK .i8 z) :
    Calls Try.prog 5 #[.slice A n cap, .slice A' n' cap', .slice A'' n'' cap'', .int .i32 bias, .int .i8 z] w fun e w' => e = .returned (.bool true) ∧ Below w.heap.size w w' := by
  have m1 : n ≤ 9223372036854775807 := Nat.le_trans hx.cap_le hx.max_le
  have m2 : n' ≤ 9223372036854775807 := Nat.le_trans ha.cap_le ha.max_le
  have m3 : n'' ≤ 9223372036854775807 := Nat.le_trans hb.cap_le hb.max_le
  have HX := Lib.hid hx
  have HA := Lib.hid ha
  have HB := Lib.hid hb
  have HZ := Lib.hid hz
  have HBI := Lib.hid hbias
  clear hx ha hb hz hbias
  by_cases c1 : 300 < n
  · go_enter Try.func5, Try.ntmps5
    go_wp2_with (go_at_call 18; refine (known18_any _).mono ?_; rintro e w' ⟨rfl, hb'⟩)
    go_ret
    exact ⟨rfl, hb'⟩
  by_cases c2 : n = 0
  · have d2 : ((n : Int) == 0) = true := by simp [c2]
    clear c2
    go_enter Try.func5, Try.ntmps5
    go_wp2_with (go_at_call 18; refine (known18_any _).mono ?_; rintro e w' ⟨rfl, hb'⟩)
    go_ret
    exact ⟨rfl, hb'⟩
  have d2 : ((n : Int) == 0) = false := by simp [c2]
  have hn1 : 1 ≤ n := by omega
  clear c2
  by_cases c3 : n' < n
  · go_enter Try.func5, Try.ntmps5
    go_wp2_with (go_at_call 18; refine (known18_any _).mono ?_; rintro e w' ⟨rfl, hb'⟩)
    go_ret
    exact ⟨rfl, hb'⟩
  by_cases c4 : n'' < n
  · go_enter Try.func5, Try.ntmps5
    go_wp2_with (go_at_call 18; refine (known18_any _).mono ?_; rintro e w' ⟨rfl, hb'⟩)
    go_ret
    exact ⟨rfl, hb'⟩
  have hn300 : n ≤ 300 := by omega
  have hn' : n ≤ n' := by omega
  have hn'' : n ≤ n'' := by omega
  have t1 : decide ((300 : Int) < (n : Int)) = false := by simp; omega
  have t2 : decide (n' < n) = false := by simp; omega
  have t3 : decide (n'' < n) = false := by simp; omega
  clear c1 c3 c4
  go_enter Try.func5, Try.ntmps5
  go_wp2_with fail
  go_loopw [12, 13, 14, 15] (fun p q s i wr => ∃ k : Nat, k ≤ n ∧ i = .int .i64 k ∧ Below w.heap.size w wr ∧
      Own (tInt .i8) wr (fun _ => False) w.heap.size 31 p k (halves a k) ∧ Own (tInt .i8) wr (fun _ => False) w.heap.size 31 q k (halves b k) ∧ Own (tInt .i8) wr (fun _ => False) w.heap.size 31 s k (addHalves a b k) ∧
      Apart p q ∧ Apart p s ∧ Apart q s) (fun _ _ _ i _ => n - (intOf i).toNat)
  case atStart => exact ⟨0, Nat.zero_le _, rfl, Below.refl _ _, Own.nil _ _ _ _ _, Own.nil _ _ _ _ _, Own.nil _ _ _ _ _, .nil _, .nil _, .nil _⟩
  case round =>
    obtain ⟨k, hk, rfl, hb, hp, hq, hs, hpq, hps, hqs⟩ := hrel
    by_cases hlt : k < n
    · obtain ⟨b1, o1, rfl, _, _, cell1, i1⟩ := (HA.out.below hb (fun _ h => h)).int_at k (by omega)
      obtain ⟨b2, o2, rfl, _, _, cell2, i2⟩ := (HB.out.below hb (fun _ h => h)).int_at k (by omega)
      have j1 := half_in _ i1
      have j2 := half_in _ i2
      have j3 := inK_i8.1 i1
      have j4 := inK_i8.1 i2
      generalize hak : a.getD k 0 = ak at *
      generalize hbk : b.getD k 0 = bk at *
      have HAK := Lib.hid hak
      have HBK := Lib.hid hbk
      clear hak hbk
      go_wp2_with fail
      go_quiet (fail)
      have hp2 := hp.heap (w' := wr.drewN nq) rfl
      have hq2 := hq.heap (w' := wr.drewN nq) rfl
      have hs2 := hs.heap (w' := wr.drewN nq) rfl
      have hb2 := below_drewN hb nq
      clear hp hq hs hb cell1 cell2
      generalize wr.drewN nq = wq at *
      have hz2 := hb2.size
      go_wp2_with (first
        | (at_builtin; refine wpList_push (t := tInt .i8) rfl (.tmp 57) (.tmp 59) rfl ei_i8 (v := u12) rfl hp2 1 rfl (ak.tdiv 2) ⟨rfl, by rw [inK_i8]; omega⟩ (by unfold maxLen; omega) (by omega) hz2 (fun _ h => h.elim) ?_; intro v1 w1 own1 g1 at1
           have z1 := g1.size
           have q1 := hq2.flat g1 hpq.symm (fun _ h => h)
           have s1 := hs2.flat g1 hps.symm (fun _ h => h)
           have a1 := hpq.push at1 (fun k h => Nat.lt_succ_of_lt (hq2.lt k h).2)
           have a2 := hps.push at1 (fun k h => Nat.lt_succ_of_lt (hs2.lt k h).2))
        | (at_builtin; refine wpList_push (t := tInt .i8) rfl (.tmp 61) (.tmp 63) rfl ei_i8 (v := u13) rfl q1 1 rfl (bk.tdiv 2) ⟨rfl, by rw [inK_i8]; omega⟩ (by unfold maxLen; omega) (by omega) (by omega) (fun _ h => h.elim) ?_; intro v2 w2 own2 g2 at2
           have z2 := g2.size
           have p2 := own1.flat g2 a1 (fun _ h => h)
           have s2 := s1.flat g2 hqs.symm (fun _ h => h)
           have a3 := (a1.symm.push at2 (fun k h => Nat.lt_succ_of_lt (own1.lt k h).2)).symm
           have a4 := hqs.push at2 (fun k h => Nat.lt_succ_of_lt (s1.lt k h).2))
        | (at_builtin; refine wpList_push (t := tInt .i8) rfl (.tmp 65) (.tmp 69) rfl ei_i8 (v := u14) rfl s2 1 rfl (ak.tdiv 2 + bk.tdiv 2) ⟨rfl, by rw [inK_i8]; omega⟩ (by unfold maxLen; omega) (by omega) (by omega) (fun _ h => h.elim) ?_; intro v3 w3 own3 g3 at3
           have p3 := p2.flat g3 a2 (fun _ h => h)
           have q3 := own2.flat g3 a4 (fun _ h => h)
           have a5 := (a2.symm.push at3 (fun k h => Nat.lt_succ_of_lt (p2.lt k h).2)).symm
           have a6 := (a4.symm.push at3 (fun k h => Nat.lt_succ_of_lt (own2.lt k h).2)).symm))
      refine ⟨⟨k + 1, by omega, by go_num, ?_, ?_, ?_, ?_, a3, a5, a6⟩, by simp [intOf]; omega⟩
      · exact ((hb2.grown g1 hz2 (fun k h => (hp2.lt k h).1)).grown g2 (by omega) (fun k h => (q1.lt k h).1)).grown g3 (by omega) (fun k h => (s2.lt k h).1)
      · rw [halves_succ, HAK.out]; exact p3
      · rw [halves_succ, HBK.out]; exact q3
      · rw [addHalves_succ, HAK.out, HBK.out]; exact own3
    · obtain rfl : k = n := by omega
      obtain ⟨A1, d1, rfl, sp⟩ := hp.sl (S' := blo wr.heap.size) (by decide) (fun b _ h => h) (fun _ h => h.elim)
      obtain ⟨A2, d2', rfl, sq⟩ := hq.sl (S' := blo wr.heap.size) (by decide) (fun b _ h => h) (fun _ h => h.elim)
      obtain ⟨A3, d3, rfl, ss⟩ := hs.sl (S' := blo wr.heap.size) (by decide) (fun b _ h => h) (fun _ h => h.elim)
      have SP := Lib.hid sp
      have SQ := Lib.hid sq
      have SS := Lib.hid ss
      clear sp sq ss hp hq hs hpq hps hqs m1 m2 m3
      have SX := Lib.hid (HX.out.later hb (Nat.le_refl _))
      have e1 := Lib.hid (line_one x (halves a k) z bias k hn1 HX.out.n_eq (by simp [halves]))
      have e2 := Lib.hid (line_one x (halves b k) z bias k hn1 HX.out.n_eq (by simp [halves]))
      have e3 := Lib.hid (line_one x (addHalves a b k) z bias k hn1 HX.out.n_eq (by simp [addHalves]))
      have e4 := Lib.hid (plus_law x a b z bias k)
      generalize wrap32 (bias + rawSum x (halves a k) z k) = r1 at *
      generalize wrap32 (bias + rawSum x (halves b k) z k) = r2 at *
      generalize wrap32 (bias + rawSum x (addHalves a b k) z k) = r3 at *
      go_wp2_with fail
      have k1 : Below wr.heap.size wr (wr.alloc (.cells #[.int .i32 bias] 21)) := (Below.refl _ _).alloc (Nat.le_refl _) _
      refine (line_any _ _ _ _ _ _ _ _ _ _ _ [bias] _ _ (SX.out.later k1 (Nat.le_refl _)) (SP.out.later k1 (Nat.le_refl _)) (Sl.lit [bias] (heap_now _ _ _ rfl) rfl (by simpa using HBI.out) (by simp [blo]) rfl rfl (by simp [maxLen])) HZ.out (by omega) (by omega) (by simp)).mono ?_
      rintro e w4 ⟨B1, m1, f1, rfl, s1, b1⟩
      have b4 := k1.trans (b1.mono (by simp))
      rw [e1.out] at s1
      have S1 := Lib.hid s1
      have z4 := b4.size
      obtain rfl : 1 = m1 := s1.n_eq
      clear s1
      go_wp2_with fail
      have k2 : Below w4.heap.size w4 (w4.alloc (.cells #[.int .i32 bias] 21)) := (Below.refl _ _).alloc (Nat.le_refl _) _
      have k2' := b4.trans (k2.mono z4)
      refine (line_any _ _ _ _ _ _ _ _ _ _ _ [bias] _ _ (SX.out.later k2' (Nat.le_refl _)) (SQ.out.later k2' (Nat.le_refl _)) (Sl.lit [bias] (heap_now _ _ _ rfl) rfl (by simpa using HBI.out) (by simp [blo]) rfl rfl (by simp [maxLen])) HZ.out (by omega) (by omega) (by simp)).mono ?_
      rintro e w5 ⟨B2, m2, f2, rfl, s2, b2⟩
      have b45 := k2.trans (b2.mono (by simp))
      have b5 := b4.trans (b45.mono z4)
      rw [e2.out] at s2
      have S2 := Lib.hid s2
      have z5 := b5.size
      obtain rfl : 1 = m2 := s2.n_eq
      clear s2
      go_wp2_with fail
      have k3 : Below w5.heap.size w5 (w5.alloc (.cells #[.int .i32 bias] 21)) := (Below.refl _ _).alloc (Nat.le_refl _) _
      have k3' := b5.trans (k3.mono z5)
      refine (line_any _ _ _ _ _ _ _ _ _ _ _ [bias] _ _ (SX.out.later k3' (Nat.le_refl _)) (SS.out.later k3' (Nat.le_refl _)) (Sl.lit [bias] (heap_now _ _ _ rfl) rfl (by simpa using HBI.out) (by simp [blo]) rfl rfl (by simp [maxLen])) HZ.out (by omega) (by omega) (by simp)).mono ?_
      rintro e w6 ⟨B3, m3, f3, rfl, s3, b3⟩
      have b56 := k3.trans (b3.mono (by simp))
      have b6 := b5.trans (b56.mono z5)
      rw [e3.out] at s3
      obtain rfl : 1 = m3 := s3.n_eq
      obtain ⟨g1, o1, rfl, _, _, x1, _⟩ := (((S1.out.more bin_blo).later b45 (Nat.le_refl _)).later b56 (Nat.le_refl _)).int_at 0 (by omega)
      obtain ⟨g2, o2, rfl, _, _, x2, _⟩ := ((S2.out.more bin_blo).later b56 (Nat.le_refl _)).int_at 0 (by omega)
      obtain ⟨g3, o3, rfl, _, _, x3, _⟩ := s3.int_at 0 (by omega)
      simp only [List.getD_eq_getElem?_getD, List.getElem?_cons_zero, Option.getD_some, Nat.add_zero] at x1 x2 x3
      have b7 := hb.trans (b6.mono hb.size)
      clear s3 k1 k2 k2' k3 k3' b1 b2 b3 b4 b45 b5 b56 b6
      go_wp2_with fail
      go_still_tail 29, (by kernel_rfl)
      change wpList _ _ _ _ _ w6.drew
      have b8 := b7.drew
      clear b7 x1 x2 x3
      generalize w6.drew = w7 at *
      go_wp2_with (go_at_call 18; refine (known18_any _).mono ?_; rintro e w8 ⟨rfl, b9⟩)
      · go_ret
        exact ⟨rfl, b8.trans (b9.mono b8.size)⟩
      · exact absurd e4.out.symm ‹¬ r3 = _›

theorem densePlus_walk (A : Option Addr) (n cap : Nat) (x : List Int) {W : World} (hx : Sl (tInt .i8) W (blo W.heap.size) A n cap x) (A' : Option Addr) (n' cap' : Nat) (a : List Int) (ha : Sl (tInt .i8) W (blo W.heap.size) A' n' cap' a)
    (A'' : Option Addr) (n'' cap'' : Nat) (b : List Int) (hb : Sl (tInt .i8) W (blo W.heap.size) A'' n'' cap'' b) (bias : Int) (hbias : InK .i32 bias) (z : Int) (hz : InK .i8 z) (w : World) (e : W = w) :
    Calls Try.prog 5 #[.slice A n cap, .slice A' n' cap', .slice A'' n'' cap'', .int .i32 bias, .int .i8 z] w fun e w' => e = .returned (.bool true) ∧ Below w.heap.size w w' := by
  subst e; exact densePlus_any _ _ _ _ _ _ _ _ _ _ _ _ _ _ _ hx ha hb hbias hz

end Go.Proofs.Ytlhnapjglebacaa
