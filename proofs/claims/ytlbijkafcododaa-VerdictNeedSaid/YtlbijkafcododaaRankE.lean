/-
  rank.Top, the document's Order (layer 22); the law's fixed calls; the walks of RankBest, RankOrder.
  Conditions: at most 2^40 numbers (Top, Order).
-/
import Derived.Test.YtlbijkafcododaaChecked
import Derived.Test.YtlbijkafcododaaRankD
namespace Go.Proofs.Ytlbijkafcododaa
set_option linter.unusedVariables false
set_option linter.unusedSimpArgs false
open Go.RowKit Go.ChangeShapes Go.WideShapes Go.Proofs.Ytlbijkafcododaa.Rk
set_option maxRecDepth 100000

theorem Sl.take {α : Type} {t : Ty α} {w : World} {S : Nat → Prop} {A : Option Addr} {n cap : Nat} {l : List α} (h : Sl t w S A n cap l) (m : Nat) (hm : m ≤ n) : Sl t w S A m cap (l.take m) := by
  refine ⟨by rw [List.length_take, h.n_eq]; omega, Nat.le_trans hm h.cap_le, h.max_le, h.nil_, fun i x hx => ?_⟩
  rw [List.getElem?_take] at hx
  split at hx
  · exact h.at_ i x hx
  · cases hx

theorem rankTop_any (A : Option Addr) (n cap : Nat) (l : List Int) (j : Int) (w : World) (h : Sl (tInt .i32) w (blo w.heap.size) A n cap l) (hn : n ≤ 1099511627776) (hj : InK .i64 j) :
    Calls Try.prog 45 #[.slice A n cap, .int .i64 j] w (RetSl (tInt .i64) w ((ordI l).take (min j.toNat n))) := by
  have OR := Lib.hid (rankOrder_any A n cap l w h hn)
  have hl := Lib.hid h.n_eq
  clear h
  by_cases h1 : j < 1
  · have t1 : decide (j < 1) = true := by simp; omega
    have e0 := Lib.hid (show (ordI l).take (min j.toNat n) = [] by rw [show min j.toNat n = 0 by omega]; rfl)
    clear h1
    go_enter Try.func45, Try.ntmps45
    go_wp2_with fail
    go_ret
    refine ⟨none, 0, 0, rfl, ?_, Below.refl _ _⟩
    rw [e0.out]
    exact Sl.nil _ _ _
  · have t1 : decide (j < 1) = false := by simp; omega
    obtain ⟨q, hq⟩ : ∃ q : Nat, min j (n : Int) = (q : Int) := ⟨(min j (n : Int)).toNat, by omega⟩
    have e0 := Lib.hid (show min j.toNat n = q by omega)
    have qn : q ≤ n := by omega
    go_enter Try.func45, Try.ntmps45
    go_wp2_with fail
    refine OR.out.mono ?_
    rintro e w1 ⟨A1, n1, c1, rfl, s1, hb⟩
    have hn1 : n1 = n := by rw [← s1.n_eq, ordI_len, hl.out]
    have hc1 := s1.cap_le
    have p2 : (q : Int) ≤ (c1 : Int) := by omega
    have S1 := Lib.hid (s1.take q (by omega))
    have HB := Lib.hid hb
    clear s1 hb hn1
    go_wp2_with fail
    refine (clonei_any A1 q c1 _ w1 (S1.out.more fun b hb => hb.2) (by omega)).mono ?_
    rintro e w2 ⟨v, rfl, o2, hb2⟩
    have HB2 := Lib.hid hb2
    have HO := Lib.hid o2
    clear o2 hb2
    go_wp2_with fail
    go_ret
    rw [e0.out]
    have hs1 := HB.out.size
    obtain ⟨vs, o1, o3⟩ := HO.out.out
    refine Own.ret (E := 3) ⟨vs, ⟨o1.1, ?_⟩, o3⟩ (by decide) (HB.out.trans (HB2.out.mono hs1)) (fun b h => h.elim)
    rcases o1.2 with h | ⟨g, cp, cur, k1, k2, k3⟩
    · exact .inl h
    · exact .inr ⟨g, cp, cur, k1, Nat.le_trans hs1 k2, k3⟩

/-- The document's order, up to a place and a number. -/
def ordTo (l : List Int) (m : Nat) : List Int := ((List.range m).flatMap fun m => (List.range l.length).filter fun i => plc l i == m).map fun i : Nat => (i : Int)
def rowTo (l : List Int) (m k : Nat) : List Int := ((List.range k).filter fun i => plc l i == m).map fun i : Nat => (i : Int)
theorem ordTo_zero (l : List Int) : ordTo l 0 = [] := rfl
theorem ordTo_succ (l : List Int) (m : Nat) : ordTo l (m + 1) = ordTo l m ++ rowTo l m l.length := by
  unfold ordTo rowTo; rw [List.range_succ, List.flatMap_append, List.map_append]; simp
theorem ordTo_all (l : List Int) : ordTo l l.length = ordI l := rfl
theorem rowTo_succ (l : List Int) (m k : Nat) : rowTo l m (k + 1) = rowTo l m k ++ if plc l k = m then [(k : Int)] else [] := by
  unfold rowTo; rw [List.range_succ, List.filter_append, List.map_append]
  congr 1
  by_cases h : plc l k = m
  · simp [h]
  · simp [h]
theorem ordTo_len (l : List Int) (m : Nat) (hm : m ≤ l.length) : (ordTo l m).length ≤ l.length := by
  have h : ∀ k, (ordTo l m).length ≤ (ordTo l (m + k)).length := by
    intro k
    induction k with
    | zero => exact Nat.le_refl _
    | succ k ih => rw [← Nat.add_assoc, ordTo_succ, List.length_append]; omega
  have := h (l.length - m)
  rw [show m + (l.length - m) = l.length by omega, ordTo_all, ordI_len] at this
  exact this
theorem rowTo_len (l : List Int) (m k : Nat) (hk : k ≤ l.length) : (rowTo l m k).length ≤ (rowTo l m l.length).length := by
  have h : ∀ j, (rowTo l m k).length ≤ (rowTo l m (k + j)).length := by
    intro j
    induction j with
    | zero => exact Nat.le_refl _
    | succ j ih => rw [← Nat.add_assoc, rowTo_succ, List.length_append]; omega
  have := h (l.length - k)
  rwa [show k + (l.length - k) = l.length by omega] at this
theorem both_len (l : List Int) (m k : Nat) (hm : m < l.length) (hk : k ≤ l.length) : (ordTo l m ++ rowTo l m k).length ≤ l.length := by
  have h1 := ordTo_len l (m + 1) hm
  rw [ordTo_succ, List.length_append] at h1
  have h2 := rowTo_len l m k hk
  rw [List.length_append]; omega

set_option maxHeartbeats 2000000 in
theorem refOrder_any (A : Option Addr) (n cap : Nat) (l : List Int) (w : World) (h : Sl (tInt .i32) w (blo w.heap.size) A n cap l) (hn : n ≤ 1099511627776) :
    Calls Try.prog 44 #[.slice A n cap] w (RetSl (tInt .i64) w (ordI l)) := by
  have hm : n ≤ 9223372036854775807 := Nat.le_trans h.cap_le h.max_le
  have hl := Lib.hid h.n_eq
  have H := Lib.hid h
  clear h
  go_enter Try.func44, Try.ntmps44
  go_wp2_with fail
  go_loopw [3, 4] (fun v i wr => ∃ m q : Nat, m ≤ n ∧ i = .int .i64 m ∧ Below w.heap.size w wr ∧ Own (tInt .i64) wr (fun _ => False) w.heap.size 3 v q (ordTo l m)) (fun _ i _ => n - (intOf i).toNat)
  case atStart => exact ⟨0, 0, Nat.zero_le _, rfl, Below.refl _ _, Own.nil _ _ _ _ _⟩
  case round =>
    obtain ⟨m, q, hmn, rfl, hb, hown⟩ := hrel
    have HB := Lib.hid hb
    have HO := Lib.hid hown
    clear hb hown
    by_cases hlt : m < n
    · have t1 : decide ((m : Int) < (n : Int)) = true := by simp; omega
      obtain ⟨wo, hwo⟩ : ∃ wo, wo = wr := ⟨_, rfl⟩
      rw [← hwo] at HB HO ⊢
      clear hwo
      go_wp2_with fail
      go_loopw [3, 5] (fun v i wr => ∃ k q : Nat, k ≤ n ∧ i = .int .i64 k ∧ Below w.heap.size w wr ∧ Own (tInt .i64) wr (fun _ => False) w.heap.size 3 v q (ordTo l m ++ rowTo l m k)) (fun _ i _ => n - (intOf i).toNat)
      case atStart => exact ⟨0, q, Nat.zero_le _, rfl, HB.out, by rw [show rowTo l m 0 = [] from rfl, List.append_nil]; exact HO.out⟩
      case round =>
        clear HB HO
        obtain ⟨k, q, hkn, rfl, hb, hown⟩ := hrel
        have HB := Lib.hid hb
        have HO := Lib.hid hown
        have hq := hown.length (by decide)
        have hq2 := both_len l m k (by rw [hl.out]; exact hlt) (by rw [hl.out]; exact hkn)
        rw [hq, hl.out] at hq2
        clear hb hown hq
        by_cases hk : k < n
        · have t2 : decide ((k : Int) < (n : Int)) = true := by simp; omega
          have HP := Lib.hid (refPlace_any A n cap l (k : Int) wr ((H.out.below HB.out (fun _ h => h)).more (fun b hb => Nat.lt_of_lt_of_le hb HB.out.size)) (by rw [inK_i64]; omega))
          have e1 : placeI l (k : Int) = (plc l k : Nat) := by unfold placeI; rw [if_neg (by rw [hl.out]; omega), Int.toNat_natCast]
          have hs := rowTo_succ l m k
          rw [e1] at HP
          clear e1
          have HS := Lib.hid hs
          clear hs
          generalize plc l k = p at *
          by_cases hp : p = m
          · rw [if_pos hp] at HS
            have t3 : ((p : Int) == (m : Int)) = true := by simp; omega
            have hl2 : (ordTo l m ++ rowTo l m (k + 1)).length ≤ l.length := both_len l m (k + 1) (by rw [hl.out]; exact hlt) (by rw [hl.out]; exact hk)
            rw [HS.out, ← List.append_assoc, List.length_append, HO.out.length (by decide), hl.out] at hl2
            simp only [List.length_cons, List.length_nil] at hl2
            clear hp
            go_wp2_with fail
            refine HP.out.mono ?_
            rintro e w1 ⟨rfl, hb⟩
            have HB1 := Lib.hid (below_later hb HB.out)
            have HO1 := Lib.hid (HO.out.below hb (Nat.le_refl _) (fun _ h => h.elim))
            have zb := HB1.out.size
            clear hb
            go_wp2_with (at_builtin; refine wpList_push (t := tInt .i64) rfl _ _ rfl ei_int (v := u3) rfl HO1.out 1 rfl _ ⟨rfl, by rw [inK_i64]; omega⟩ (by unfold maxLen; omega) (by omega) zb (fun _ h => h.elim) ?_; intro v' w3 ho3 hg3 _)
            refine ⟨⟨k + 1, q + 1, by omega, by go_num, HB1.out.grown hg3 zb (fun k h => (HO1.out.lt k h).1), ?_⟩, by simp [intOf]; omega⟩
            rw [HS.out, ← List.append_assoc]
            exact ho3
          · rw [if_neg hp] at HS
            have t3 : ((p : Int) == (m : Int)) = false := by simp; omega
            clear hp
            go_wp2_with fail
            refine HP.out.mono ?_
            rintro e w1 ⟨rfl, hb⟩
            have HB1 := Lib.hid (below_later hb HB.out)
            have HO1 := Lib.hid (HO.out.below hb (Nat.le_refl _) (fun _ h => h.elim))
            clear hb
            go_wp2_with fail
            refine ⟨⟨k + 1, q, by omega, by go_num, HB1.out, ?_⟩, by simp [intOf]; omega⟩
            rw [HS.out, List.append_nil]
            exact HO1.out
        · obtain rfl : k = n := by omega
          have t2 : decide ((k : Int) < (k : Int)) = false := by simp
          have HO1 := Lib.hid (by have := HO.out; rw [← hl.out, ← ordTo_succ] at this; exact this : Own (tInt .i64) wr (fun _ => False) w.heap.size 3 u3 q (ordTo l (m + 1)))
          clear HO
          go_wp2_with fail
          exact ⟨⟨m + 1, q, by omega, by go_num, HB.out, HO1.out⟩, by simp [intOf]; omega⟩
    · obtain rfl : m = n := by omega
      have t1 : decide ((m : Int) < (m : Int)) = false := by simp
      go_wp2_with fail
      go_ret
      rw [← ordTo_all, hl.out]
      exact HO.out.ret (by decide) HB.out (fun b h => h.elim)

theorem known22_any (w : World) : Calls Try.prog 36 #[] w fun e w' => e = .returned (.bool true) ∧ Below w.heap.size w w' := by
  have b1 := Lib.hid (show bestI [3, 9, 9] = 1 by decide +kernel)
  have b2 := Lib.hid (show marginI [3, 9, 9] = 0 by decide +kernel)
  have b3 := Lib.hid (show ordI [3, 9, 9] = [1, 2, 0] by decide +kernel)
  obtain ⟨w0, hw0⟩ : ∃ w0, w.alloc (.cells #[.int .i32 3, .int .i32 9, .int .i32 9] 21) = w0 := ⟨_, rfl⟩
  have HB0 := Lib.hid (show Below w.heap.size w w0 by rw [← hw0]; exact (Below.refl _ _).alloc (Nat.le_refl _) _)
  have S0 := Lib.hid (show Sl (tInt .i32) w0 (blo w0.heap.size) (some ⟨w.heap.size, 0, none⟩) 3 3 [3, 9, 9] from
    Sl.lit [3, 9, 9] (by rw [← hw0]; exact heap_alloc_new w _) rfl (by decide) (by rw [← hw0]; show w.heap.size < _; simp) rfl rfl (by decide))
  go_enter Try.func36, Try.ntmps36
  go_wp2_with fail
  clear hw0
  refine (rankBest_any _ _ _ _ w0 S0.out).mono ?_
  rintro e w1 ⟨rfl, hb⟩
  rw [b1.out]
  have S1 := Lib.hid (S0.out.later hb (Nat.le_refl _))
  have HB1 := Lib.hid (HB0.out.trans (hb.mono HB0.out.size))
  clear hb S0 HB0
  go_wp2_with fail
  refine (rankMargin_any _ _ _ _ w1 S1.out (by omega)).mono ?_
  rintro e w2 ⟨rfl, hb⟩
  rw [b2.out]
  have S2 := Lib.hid (S1.out.later hb (Nat.le_refl _))
  have HB2 := Lib.hid (HB1.out.trans (hb.mono HB1.out.size))
  clear hb S1 HB1
  go_wp2_with fail
  refine (rankOrder_any _ _ _ _ w2 S2.out (by omega)).mono ?_
  rintro e w3 ⟨A3, n3, c3, rfl, s3, hb⟩
  rw [b3.out] at s3
  have S3 := Lib.hid s3
  have HB3 := Lib.hid (HB2.out.trans (hb.mono HB2.out.size))
  obtain rfl : 3 = n3 := s3.n_eq
  clear hb S2 HB2 s3
  obtain ⟨w4, hw4⟩ : ∃ w4, w3.alloc (.cells #[.int .i64 1, .int .i64 2, .int .i64 0] 3) = w4 := ⟨_, rfl⟩
  have hb4 : Below w3.heap.size w3 w4 := by rw [← hw4]; exact (Below.refl _ _).alloc (Nat.le_refl _) _
  have S4 := Lib.hid (show Sl (tInt .i64) w4 (blo w4.heap.size) (some ⟨w3.heap.size, 0, none⟩) 3 3 [1, 2, 0] from
    Sl.lit [1, 2, 0] (by rw [← hw4]; exact heap_alloc_new w3 _) rfl (by decide) (by rw [← hw4]; show w3.heap.size < _; simp) rfl rfl (by decide))
  have S5 := Lib.hid ((S3.out.more (fun b hb => hb.2)).later hb4 (Nat.le_refl _))
  have HB4 := Lib.hid (HB3.out.trans (hb4.mono HB3.out.size))
  clear hb4 HB3 S3
  go_wp2_with fail
  clear hw4
  refine (samei_eq _ _ _ _ _ _ _ w4 S5.out S4.out).mono ?_
  rintro e w5 ⟨rfl, hb⟩
  have HB5 := Lib.hid (HB4.out.trans (hb.mono HB4.out.size))
  clear hb
  go_wp2_with fail
  go_ret
  exact ⟨rfl, HB5.out⟩

theorem rankBest_walk (A : Option Addr) (n c : Nat) (l : List Int) {W : World} (h : Sl (tInt .i32) W (blo W.heap.size) A n c l) (j : Int) (hj : InK .i64 j) (w : World) (e : W = w) :
    Calls Try.prog 6 #[.slice A n c, .int .i64 j] w fun e w' => e = .returned (.bool true) ∧ Below w.heap.size w w' := by
  subst e
  have H := Lib.hid h
  clear h
  by_cases hbig : 60 < n
  · have t1 : decide ((60 : Int) < (n : Int)) = true := by simp; omega
    clear hbig
    go_enter Try.func6, Try.ntmps6
    go_wp2_with fail
    refine (known22_any W).mono ?_
    rintro e w2 ⟨rfl, b2⟩
    go_wp2_with fail
    go_ret
    exact ⟨rfl, b2⟩
  · have t1 : decide ((60 : Int) < (n : Int)) = false := by simp; omega
    have hn : n ≤ 1099511627776 := by omega
    clear hbig
    obtain ⟨x, hx⟩ : ∃ x, bestI l = x := ⟨_, rfl⟩
    obtain ⟨y, hy⟩ : ∃ x, marginI l = x := ⟨_, rfl⟩
    obtain ⟨z, hz⟩ : ∃ x, placeI l j = x := ⟨_, rfl⟩
    have q1 : (x == x) = true := by simp
    have q2 : (y == y) = true := by simp
    have q3 : (z == z) = true := by simp
    have X := Lib.hid hx
    have Y := Lib.hid hy
    have Z := Lib.hid hz
    clear hx hy hz
    go_enter Try.func6, Try.ntmps6
    go_wp2_with fail
    refine (rankBest_any _ _ _ _ W H.out).mono ?_
    rintro e w1 ⟨rfl, hb⟩
    rw [X.out]
    have S1 := Lib.hid (H.out.later hb (Nat.le_refl _))
    have HB1 := Lib.hid hb
    clear hb H
    go_wp2_with fail
    refine (refBest_any _ _ _ _ w1 S1.out).mono ?_
    rintro e w2 ⟨rfl, hb⟩
    rw [X.out]
    have S2 := Lib.hid (S1.out.later hb (Nat.le_refl _))
    have HB2 := Lib.hid (HB1.out.trans (hb.mono HB1.out.size))
    clear hb S1 HB1
    go_wp2_with fail
    refine (rankMargin_any _ _ _ _ w2 S2.out hn).mono ?_
    rintro e w3 ⟨rfl, hb⟩
    rw [Y.out]
    have S3 := Lib.hid (S2.out.later hb (Nat.le_refl _))
    have HB3 := Lib.hid (HB2.out.trans (hb.mono HB2.out.size))
    clear hb S2 HB2
    go_wp2_with fail
    refine (refMargin_any _ _ _ _ w3 S3.out).mono ?_
    rintro e w4 ⟨rfl, hb⟩
    rw [Y.out]
    have S4 := Lib.hid (S3.out.later hb (Nat.le_refl _))
    have HB4 := Lib.hid (HB3.out.trans (hb.mono HB3.out.size))
    clear hb S3 HB3
    go_wp2_with fail
    refine (rankPlace_any _ _ _ _ j w4 S4.out hj).mono ?_
    rintro e w5 ⟨rfl, hb⟩
    rw [Z.out]
    have S5 := Lib.hid (S4.out.later hb (Nat.le_refl _))
    have HB5 := Lib.hid (HB4.out.trans (hb.mono HB4.out.size))
    clear hb S4 HB4
    go_wp2_with fail
    refine (refPlace_any _ _ _ _ j w5 S5.out hj).mono ?_
    rintro e w6 ⟨rfl, hb⟩
    rw [Z.out]
    have HB6 := Lib.hid (HB5.out.trans (hb.mono HB5.out.size))
    clear hb S5 HB5
    go_wp2_with fail
    refine (known22_any w6).mono ?_
    rintro e w7 ⟨rfl, hb⟩
    have HB7 := Lib.hid (HB6.out.trans (hb.mono HB6.out.size))
    clear hb HB6
    go_wp2_with fail
    go_ret
    exact ⟨rfl, HB7.out⟩

theorem rankOrder_walk (A : Option Addr) (n c : Nat) (l : List Int) {W : World} (h : Sl (tInt .i32) W (blo W.heap.size) A n c l) (j : Int) (hj : InK .i64 j) (w : World) (e : W = w) :
    Calls Try.prog 7 #[.slice A n c, .int .i64 j] w fun e w' => e = .returned (.bool true) ∧ Below w.heap.size w w' := by
  subst e
  have hl := Lib.hid h.n_eq
  have H := Lib.hid h
  clear h
  by_cases hbig : 60 < n
  · have t1 : decide ((60 : Int) < (n : Int)) = true := by simp; omega
    clear hbig
    go_enter Try.func7, Try.ntmps7
    go_wp2_with fail
    refine (known22_any W).mono ?_
    rintro e w2 ⟨rfl, b2⟩
    go_wp2_with fail
    go_ret
    exact ⟨rfl, b2⟩
  · have t1 : decide ((60 : Int) < (n : Int)) = false := by simp; omega
    have hn : n ≤ 1099511627776 := by omega
    clear hbig
    rw [inK_i64] at hj
    obtain ⟨q, hq⟩ : ∃ q : Nat, min (max j 0) (n : Int) = (q : Int) := ⟨(min (max j 0) (n : Int)).toNat, by omega⟩
    have e0 := Lib.hid (show min j.toNat n = q by omega)
    have qn : q ≤ n := by omega
    go_enter Try.func7, Try.ntmps7
    go_wp2_with fail
    refine (refOrder_any _ _ _ _ W H.out hn).mono ?_
    rintro e w1 ⟨A1, n1, c1, rfl, s1, hb⟩
    obtain rfl : n = n1 := by rw [← s1.n_eq, ordI_len, hl.out]
    have hc1 := s1.cap_le
    have p2 : (q : Int) ≤ (c1 : Int) := by omega
    have R1 := Lib.hid (s1.more (S' := blo w1.heap.size) fun b hb => hb.2)
    have S1 := Lib.hid (H.out.later hb (Nat.le_refl _))
    have HB1 := Lib.hid hb
    clear hb H s1
    go_wp2_with fail
    refine (rankOrder_any _ _ _ _ w1 S1.out hn).mono ?_
    rintro e w2 ⟨A2, n2, c2, rfl, s2, hb⟩
    have Q2 := Lib.hid (s2.more (S' := blo w2.heap.size) fun b hb => hb.2)
    have R2 := Lib.hid (R1.out.later hb (Nat.le_refl _))
    have S2 := Lib.hid (S1.out.later hb (Nat.le_refl _))
    have HB2 := Lib.hid (HB1.out.trans (hb.mono HB1.out.size))
    clear hb S1 HB1 R1 s2
    go_wp2_with fail
    refine (samei_eq _ _ _ _ _ _ _ w2 Q2.out R2.out).mono ?_
    rintro e w3 ⟨rfl, hb⟩
    have R3 := Lib.hid ((R2.out.later hb (Nat.le_refl _)).take q qn)
    have S3 := Lib.hid (S2.out.later hb (Nat.le_refl _))
    have HB3 := Lib.hid (HB2.out.trans (hb.mono HB2.out.size))
    clear hb S2 HB2 R2 Q2
    go_wp2_with fail
    refine (rankTop_any _ _ _ _ j w3 S3.out hn (by rw [inK_i64]; exact hj)).mono ?_
    rintro e w4 ⟨A4, n4, c4, rfl, s4, hb⟩
    rw [e0.out] at s4
    have Q4 := Lib.hid (s4.more (S' := blo w4.heap.size) fun b hb => hb.2)
    have R4 := Lib.hid (R3.out.later hb (Nat.le_refl _))
    have HB4 := Lib.hid (HB3.out.trans (hb.mono HB3.out.size))
    clear hb S3 HB3 R3 s4
    go_wp2_with fail
    refine (samei_eq _ _ _ _ _ _ _ w4 Q4.out R4.out).mono ?_
    rintro e w5 ⟨rfl, hb⟩
    have HB5 := Lib.hid (HB4.out.trans (hb.mono HB4.out.size))
    clear hb HB4 R4 Q4
    go_wp2_with fail
    refine (known22_any w5).mono ?_
    rintro e w7 ⟨rfl, hb⟩
    have HB7 := Lib.hid (HB5.out.trans (hb.mono HB5.out.size))
    clear hb HB5
    go_wp2_with fail
    go_ret
    exact ⟨rfl, HB7.out⟩
end Go.Proofs.Ytlbijkafcododaa
