/-
  Best, Place (layer 22), the program's and the document's; the document's Margin.
  Conditions: none.
-/
import Derived.Test.YtlbijkafcododaaChecked
import Derived.Test.YtlbijkafcododaaRankA
import Derived.Test.YtlbijkafcododaaOwn
import Derived.IntWalk
namespace Go.Proofs.Ytlbijkafcododaa
set_option linter.unusedVariables false
set_option linter.unusedSimpArgs false
open Go.RowKit Go.ChangeShapes Go.WideShapes Go.Proofs.Ytlbijkafcododaa.Rk
set_option maxRecDepth 100000

theorem rankBest_any (A : Option Addr) (n cap : Nat) (l : List Int) (w : World) (h : Sl (tInt .i32) w (blo w.heap.size) A n cap l) :
    Calls Try.prog 37 #[.slice A n cap] w fun e w' => e = .returned (.int .i64 (bestI l)) ∧ Below w.heap.size w w' := by
  have hm : n ≤ 9223372036854775807 := Nat.le_trans h.cap_le h.max_le
  have hl := Lib.hid h.n_eq
  have H := Lib.hid h
  clear h
  go_enter Try.func37, Try.ntmps37
  go_wp2_with fail
  go_loopw [3, 8] (fun vb vi wr => ∃ k : Nat, k ≤ n ∧ vi = .int .i64 k ∧ vb = .int .i64 (bestTo l k) ∧ w = wr) (fun _ vi _ => n - (intOf vi).toNat)
  case atStart => exact ⟨0, Nat.zero_le _, rfl, rfl, rfl⟩
  case round =>
    obtain ⟨k, hk, rfl, rfl, rfl⟩ := hrel
    by_cases hlt : k < n
    · obtain ⟨b0, off, rfl, _, _, c0, i0⟩ := H.out.int_at k hlt
      have hbd := bestTo_bd l k
      have HN := Lib.hid (show bestTo l (k + 1) = if bestTo l k < 0 ∨ l.getD (bestTo l k).toNat 0 < l.getD k 0 then (k : Int) else bestTo l k from rfl)
      generalize hb : bestTo l k = b at *
      clear hb
      by_cases hneg : b < 0
      · have y1 : decide (b < 0) = true := by simp; exact hneg
        have HN2 := Lib.hid (show (k : Int) = bestTo l (k + 1) by rw [HN.out, if_pos (.inl hneg)])
        generalize l.getD k 0 = x at *
        clear HN hneg
        go_wp2_with fail
        exact ⟨⟨k + 1, by omega, by go_num, by rw [← HN2.out], trivial⟩, by simp [intOf]; omega⟩
      · obtain ⟨bn, rfl⟩ : ∃ bn : Nat, b = (bn : Int) := ⟨b.toNat, by omega⟩
        have y1 : decide ((bn : Int) < 0) = false := by simp
        obtain ⟨b1, off1, hA, _, _, c1, i1⟩ := H.out.int_at bn (by omega)
        cases hA
        rw [Int.toNat_natCast] at HN
        generalize hx : l.getD k 0 = x at *
        generalize hy : l.getD bn 0 = y at *
        clear hx hy
        have p1 : (bn : Int) < (n : Int) := by omega
        by_cases hxy : y < x
        · have y2 : decide (y < x) = true := by simp; exact hxy
          have HN2 := Lib.hid (show (k : Int) = bestTo l (k + 1) by rw [HN.out, if_pos (.inr hxy)])
          clear HN hxy hneg
          go_wp2_with fail
          exact ⟨⟨k + 1, by omega, by go_num, by rw [← HN2.out], trivial⟩, by simp [intOf]; omega⟩
        · have y2 : decide (y < x) = false := by simp; omega
          have HN2 := Lib.hid (show (bn : Int) = bestTo l (k + 1) by rw [HN.out, if_neg (by omega)])
          clear HN hxy hneg
          go_wp2_with fail
          exact ⟨⟨k + 1, by omega, by go_num, by rw [← HN2.out], trivial⟩, by simp [intOf]; omega⟩
    · obtain rfl : k = n := by omega
      go_wp2_with fail
      go_ret
      exact ⟨ret_int (by unfold bestI; rw [hl.out]), Below.refl _ _⟩

theorem rankPlace_any (A : Option Addr) (n cap : Nat) (l : List Int) (j : Int) (w : World) (h : Sl (tInt .i32) w (blo w.heap.size) A n cap l) (hj : InK .i64 j) :
    Calls Try.prog 42 #[.slice A n cap, .int .i64 j] w fun e w' => e = .returned (.int .i64 (placeI l j)) ∧ Below w.heap.size w w' := by
  have hm : n ≤ 9223372036854775807 := Nat.le_trans h.cap_le h.max_le
  have hl := Lib.hid h.n_eq
  have H := Lib.hid h
  clear h
  rw [inK_i64] at hj
  by_cases hneg : j < 0
  · have y1 : decide (j < 0) = true := by simp; exact hneg
    have HN := Lib.hid (show (-1 : Int) = placeI l j by unfold placeI; rw [if_pos (.inl hneg)])
    go_enter Try.func42, Try.ntmps42
    go_wp2_with fail
    go_ret
    exact ⟨ret_int HN.out, Below.refl _ _⟩
  · have y1 : decide (j < 0) = false := by simp; omega
    by_cases hge : (n : Int) ≤ j
    · have y2 : decide ((n : Int) ≤ j) = true := by simp; exact hge
      have HN := Lib.hid (show (-1 : Int) = placeI l j by unfold placeI; rw [if_pos (.inr (by rw [hl.out]; exact hge))])
      go_enter Try.func42, Try.ntmps42
      go_wp2_with fail
      go_ret
      exact ⟨ret_int HN.out, Below.refl _ _⟩
    · have y2 : decide ((n : Int) ≤ j) = false := by simp; omega
      obtain ⟨i, rfl⟩ : ∃ i : Nat, j = (i : Int) := ⟨j.toNat, by omega⟩
      have HP := Lib.hid (show ((plcTo l i n : Nat) : Int) = placeI l (i : Int) by unfold placeI; rw [if_neg (by rw [hl.out]; omega), Int.toNat_natCast]; unfold plc plcTo; rw [hl.out])
      have hin : i < n := by omega
      have y3n : decide (n ≤ i) = false := by simp; omega
      have pin : (i : Int) < (n : Int) := by omega
      clear hneg hge
      go_enter Try.func42, Try.ntmps42
      go_wp2_with fail
      go_loopw [5, 17] (fun vc vi wr => ∃ k : Nat, k ≤ n ∧ vi = .int .i64 k ∧ vc = .int .i64 (plcTo l i k) ∧ Below w.heap.size w wr) (fun vc vi _ => n - (intOf vi).toNat)
      case atStart => exact ⟨0, Nat.zero_le _, rfl, rfl, Below.refl _ _⟩
      case round =>
        obtain ⟨k, hk, rfl, rfl, hb⟩ := hrel
        have hle := plcTo_le l i k
        by_cases hlt : k < n
        · have pk : (k : Int) < (n : Int) := by omega
          obtain ⟨b0, off, rfl, _, _, c0, i0⟩ := (H.out.below hb (fun _ h => h)).int_at k hlt
          obtain ⟨b1, off1, hA, _, _, c1, i1⟩ := (H.out.below hb (fun _ h => h)).int_at i hin
          cases hA
          have HN := Lib.hid (plcTo_succ l i k)
          generalize hx : l.getD k 0 = x at *
          generalize hy : l.getD i 0 = y at *
          generalize plcTo l i k = c at *
          clear i0 i1
          by_cases g1 : y < x
          · have y3 : decide (y < x) = true := by simp; omega
            have HN2 := Lib.hid (show plcTo l i (k + 1) = c + 1 by rw [HN.out, if_pos (by rw [ahead_iff]; omega)])
            clear HN hx hy
            go_wp2_with fail
            go_quiet (fail)
            go_wp2_with fail
            exact ⟨⟨k + 1, by omega, by go_num, by rw [HN2.out]; go_num, below_drewN hb _⟩, by simp [intOf]; omega⟩
          · have y3 : decide (y < x) = false := by simp; omega
            by_cases g2 : x = y
            · by_cases g3 : k < i
              · have y4 : (x == y) = true := by simp; omega
                have y5 : decide ((k : Int) < (i : Int)) = true := by simp; omega
                have G1 := Lib.hid g1
                have G2 := Lib.hid g2
                clear g1 g2
                have HN2 := Lib.hid (show plcTo l i (k + 1) = c + 1 by rw [HN.out, if_pos (by rw [ahead_iff]; have := G2.out; omega)])
                clear HN hx hy
                go_wp2_with fail
                go_quiet (fail)
                go_wp2_with fail
                exact ⟨⟨k + 1, by omega, by go_num, by rw [HN2.out]; go_num, below_drewN hb _⟩, by simp [intOf]; omega⟩
              · have y4 : (x == y) = true := by simp; omega
                have y5 : decide ((k : Int) < (i : Int)) = false := by simp; omega
                have G1 := Lib.hid g1
                have G2 := Lib.hid g2
                clear g1 g2
                have HN2 := Lib.hid (show plcTo l i (k + 1) = c  by rw [HN.out, if_neg (by rw [ahead_iff]; have := G2.out; omega)]; rfl)
                clear HN hx hy
                go_wp2_with fail
                go_quiet (fail)
                go_wp2_with fail
                exact ⟨⟨k + 1, by omega, by go_num, by rw [HN2.out], below_drewN hb _⟩, by simp [intOf]; omega⟩
            · have y4 : (x == y) = false := by simp; omega
              have HN2 := Lib.hid (show plcTo l i (k + 1) = c  by rw [HN.out, if_neg (by rw [ahead_iff]; omega)]; rfl)
              clear HN hx hy
              go_wp2_with fail
              go_quiet (fail)
              go_wp2_with fail
              exact ⟨⟨k + 1, by omega, by go_num, by rw [HN2.out], below_drewN hb _⟩, by simp [intOf]; omega⟩
        · obtain rfl : k = n := by omega
          go_wp2_with fail
          go_ret
          exact ⟨ret_int HP.out, hb⟩

theorem refPlace_any (A : Option Addr) (n cap : Nat) (l : List Int) (j : Int) (w : World) (h : Sl (tInt .i32) w (blo w.heap.size) A n cap l) (hj : InK .i64 j) :
    Calls Try.prog 43 #[.slice A n cap, .int .i64 j] w fun e w' => e = .returned (.int .i64 (placeI l j)) ∧ Below w.heap.size w w' := by
  have hm : n ≤ 9223372036854775807 := Nat.le_trans h.cap_le h.max_le
  have hl := Lib.hid h.n_eq
  have H := Lib.hid h
  clear h
  rw [inK_i64] at hj
  by_cases hneg : j < 0
  · have y1 : decide (j < 0) = true := by simp; exact hneg
    have HN := Lib.hid (show (-1 : Int) = placeI l j by unfold placeI; rw [if_pos (.inl hneg)])
    go_enter Try.func43, Try.ntmps43
    go_wp2_with fail
    go_ret
    exact ⟨ret_int HN.out, Below.refl _ _⟩
  · have y1 : decide (j < 0) = false := by simp; omega
    by_cases hge : (n : Int) ≤ j
    · have y2 : decide ((n : Int) ≤ j) = true := by simp; exact hge
      have HN := Lib.hid (show (-1 : Int) = placeI l j by unfold placeI; rw [if_pos (.inr (by rw [hl.out]; exact hge))])
      go_enter Try.func43, Try.ntmps43
      go_wp2_with fail
      go_ret
      exact ⟨ret_int HN.out, Below.refl _ _⟩
    · have y2 : decide ((n : Int) ≤ j) = false := by simp; omega
      obtain ⟨i, rfl⟩ : ∃ i : Nat, j = (i : Int) := ⟨j.toNat, by omega⟩
      have HP := Lib.hid (show ((plcTo l i n : Nat) : Int) = placeI l (i : Int) by unfold placeI; rw [if_neg (by rw [hl.out]; omega), Int.toNat_natCast]; unfold plc plcTo; rw [hl.out])
      have hin : i < n := by omega
      have y3n : decide (n ≤ i) = false := by simp; omega
      have pin : (i : Int) < (n : Int) := by omega
      clear hneg hge
      go_enter Try.func43, Try.ntmps43
      go_wp2_with fail
      go_loopw [5, 6] (fun vc vi wr => ∃ k : Nat, k ≤ n ∧ vi = .int .i64 k ∧ vc = .int .i64 (plcTo l i k) ∧ Below w.heap.size w wr) (fun vc vi _ => n - (intOf vi).toNat)
      case atStart => exact ⟨0, Nat.zero_le _, rfl, rfl, Below.refl _ _⟩
      case round =>
        obtain ⟨k, hk, rfl, rfl, hb⟩ := hrel
        have hle := plcTo_le l i k
        by_cases hlt : k < n
        · have pk : (k : Int) < (n : Int) := by omega
          obtain ⟨b0, off, rfl, _, _, c0, i0⟩ := (H.out.below hb (fun _ h => h)).int_at k hlt
          obtain ⟨b1, off1, hA, _, _, c1, i1⟩ := (H.out.below hb (fun _ h => h)).int_at i hin
          cases hA
          have HN := Lib.hid (plcTo_succ l i k)
          generalize hx : l.getD k 0 = x at *
          generalize hy : l.getD i 0 = y at *
          generalize plcTo l i k = c at *
          clear i0 i1
          by_cases g1 : y < x
          · have y3 : decide (y < x) = true := by simp; omega
            have HN2 := Lib.hid (show plcTo l i (k + 1) = c + 1 by rw [HN.out, if_pos (by rw [ahead_iff]; omega)])
            clear HN hx hy
            go_wp2_with fail
            go_quiet (fail)
            go_wp2_with fail
            exact ⟨⟨k + 1, by omega, by go_num, by rw [HN2.out]; go_num, below_drewN hb _⟩, by simp [intOf]; omega⟩
          · have y3 : decide (y < x) = false := by simp; omega
            by_cases g2 : x = y
            · by_cases g3 : k < i
              · have y4 : (x == y) = true := by simp; omega
                have y5 : decide ((k : Int) < (i : Int)) = true := by simp; omega
                have G1 := Lib.hid g1
                have G2 := Lib.hid g2
                clear g1 g2
                have HN2 := Lib.hid (show plcTo l i (k + 1) = c + 1 by rw [HN.out, if_pos (by rw [ahead_iff]; have := G2.out; omega)])
                clear HN hx hy
                go_wp2_with fail
                go_quiet (fail)
                go_wp2_with fail
                exact ⟨⟨k + 1, by omega, by go_num, by rw [HN2.out]; go_num, below_drewN hb _⟩, by simp [intOf]; omega⟩
              · have y4 : (x == y) = true := by simp; omega
                have y5 : decide ((k : Int) < (i : Int)) = false := by simp; omega
                have G1 := Lib.hid g1
                have G2 := Lib.hid g2
                clear g1 g2
                have HN2 := Lib.hid (show plcTo l i (k + 1) = c  by rw [HN.out, if_neg (by rw [ahead_iff]; have := G2.out; omega)]; rfl)
                clear HN hx hy
                go_wp2_with fail
                go_quiet (fail)
                go_wp2_with fail
                exact ⟨⟨k + 1, by omega, by go_num, by rw [HN2.out], below_drewN hb _⟩, by simp [intOf]; omega⟩
            · have y4 : (x == y) = false := by simp; omega
              have HN2 := Lib.hid (show plcTo l i (k + 1) = c  by rw [HN.out, if_neg (by rw [ahead_iff]; omega)]; rfl)
              clear HN hx hy
              go_wp2_with fail
              go_quiet (fail)
              go_wp2_with fail
              exact ⟨⟨k + 1, by omega, by go_num, by rw [HN2.out], below_drewN hb _⟩, by simp [intOf]; omega⟩
        · obtain rfl : k = n := by omega
          go_wp2_with fail
          go_ret
          exact ⟨ret_int HP.out, hb⟩

theorem refBest_any (A : Option Addr) (n cap : Nat) (l : List Int) (w : World) (h : Sl (tInt .i32) w (blo w.heap.size) A n cap l) :
    Calls Try.prog 40 #[.slice A n cap] w fun e w' => e = .returned (.int .i64 (bestI l)) ∧ Below w.heap.size w w' := by
  have hm : n ≤ 9223372036854775807 := Nat.le_trans h.cap_le h.max_le
  have hl := Lib.hid h.n_eq
  have H := Lib.hid h
  clear h
  go_enter Try.func40, Try.ntmps40
  go_wp2_with fail
  go_loopw [3] (fun vi wr => ∃ k : Nat, k ≤ n ∧ vi = .int .i64 k ∧ Hid (∀ i, i < k → plc l i ≠ 0) ∧ Below w.heap.size w wr) (fun vi _ => n - (intOf vi).toNat)
  case atStart => exact ⟨0, Nat.zero_le _, rfl, Lib.hid (fun i hi => by omega), Below.refl _ _⟩
  case round =>
    obtain ⟨k, hk, rfl, HK, hb⟩ := hrel
    have HB := Lib.hid hb
    clear hb
    by_cases hlt : k < n
    · have t1 : decide ((k : Int) < (n : Int)) = true := by simp; omega
      have HP := Lib.hid (refPlace_any A n cap l (k : Int) wr ((H.out.below HB.out (fun _ h => h)).more (fun b hb => Nat.lt_of_lt_of_le hb HB.out.size)) (by rw [inK_i64]; omega))
      have e1 : placeI l (k : Int) = (plc l k : Nat) := by unfold placeI; rw [if_neg (by rw [hl.out]; omega), Int.toNat_natCast]
      rw [e1] at HP
      clear e1
      by_cases hz : plc l k = 0
      · have HZ := Lib.hid (show bestI l = (k : Int) from best_of_plc (by rw [hl.out]; exact hlt) hz)
        rw [hz] at HP
        clear hz
        go_wp2_with fail
        refine HP.out.mono ?_
        rintro e w1 ⟨rfl, hb⟩
        have HB1 := Lib.hid (below_later hb HB.out)
        clear hb
        go_wp2_with fail
        go_ret
        exact ⟨ret_int HZ.out.symm, HB1.out⟩
      · have HZ := Lib.hid (show ∀ i, i < k + 1 → plc l i ≠ 0 from fun i hi => by
          by_cases e : i = k
          · rw [e]; exact hz
          · exact HK.out i (by omega))
        generalize plc l k = c at *
        have t2 : (((c : Nat) : Int) == 0) = false := by simp; omega
        clear hz
        go_wp2_with fail
        refine HP.out.mono ?_
        rintro e w1 ⟨rfl, hb⟩
        have HB1 := Lib.hid (below_later hb HB.out)
        clear hb
        go_wp2_with fail
        exact ⟨⟨k + 1, by omega, by go_num, HZ, HB1.out⟩, by simp [intOf]; omega⟩
    · obtain rfl : k = n := by omega
      go_wp2_with fail
      go_ret
      exact ⟨ret_int (best_none (by rw [hl.out]; exact HK.out)).symm, HB.out⟩

theorem refMargin_any (A : Option Addr) (n cap : Nat) (l : List Int) (w : World) (h : Sl (tInt .i32) w (blo w.heap.size) A n cap l) :
    Calls Try.prog 41 #[.slice A n cap] w fun e w' => e = .returned (.int .i64 (marginI l)) ∧ Below w.heap.size w w' := by
  have hm : n ≤ 9223372036854775807 := Nat.le_trans h.cap_le h.max_le
  have hl := Lib.hid h.n_eq
  have H := Lib.hid h
  clear h
  by_cases h2 : n < 2
  · have y1 : decide ((n : Int) < 2) = true := by simp; omega
    have HN := Lib.hid (show (0 : Int) = marginI l by unfold marginI; rw [if_pos (by rw [hl.out]; exact h2)])
    go_enter Try.func41, Try.ntmps41
    go_wp2_with fail
    go_ret
    exact ⟨ret_int HN.out, Below.refl _ _⟩
  · have y1 : decide ((n : Int) < 2) = false := by simp; omega
    obtain ⟨b, hb1, hb2, _, _⟩ := best_ahead (l := l) (by rw [hl.out]; omega)
    rw [hl.out] at hb1
    have hmg := margin_ref (refOrder_is l) (by rw [hl.out]; omega)
    rw [hb2, Int.toNat_natCast, hl.out] at hmg
    have HG := Lib.hid hmg.symm
    have hBE := refBest_any A n cap l w H.out
    rw [hb2] at hBE
    have BE := Lib.hid hBE
    clear hmg hb2 hBE
    go_enter Try.func41, Try.ntmps41
    go_wp2_with fail
    refine BE.out.mono ?_
    rintro e w1 ⟨rfl, hb⟩
    have HB1 := Lib.hid hb
    clear hb
    go_wp2_with fail
    go_loopw [4, 5] (fun vs vi wr => ∃ k : Nat, k ≤ n ∧ vi = .int .i64 k ∧ vs = .int .i64 (secondTo l b k) ∧ Below w.heap.size w wr) (fun _ vi _ => n - (intOf vi).toNat)
    case atStart => exact ⟨0, Nat.zero_le _, rfl, rfl, HB1.out⟩
    case round =>
      clear HB1
      obtain ⟨k, hk, rfl, rfl, hb⟩ := hrel
      have hbd := secondTo_bd l b k
      by_cases hlt : k < n
      · have t1 : decide ((k : Int) < (n : Int)) = true := by simp; omega
        have HN := Lib.hid (show secondTo l b (k + 1) = if k ≠ b ∧ (secondTo l b k < 0 ∨ l.getD (secondTo l b k).toNat 0 < l.getD k 0) then (k : Int) else secondTo l b k from rfl)
        generalize hs : secondTo l b k = s at *
        clear hs
        by_cases hkb : k = b
        · have t2 : ((k : Int) != (b : Int)) = false := by simp; omega
          have HN2 := Lib.hid (show s = secondTo l b (k + 1) by rw [HN.out, if_neg (by omega)])
          have HKB := Lib.hid hkb
          clear HN hkb
          go_wp2_with fail
          go_quiet (fail)
          go_wp2_with fail
          exact ⟨⟨k + 1, by omega, by go_num, by rw [← HN2.out], below_drewN hb _⟩, by simp [intOf]; omega⟩
        · have t2 : ((k : Int) != (b : Int)) = true := by simp; omega
          by_cases hneg : s < 0
          · have t3 : decide (s < 0) = true := by simp; exact hneg
            have HN2 := Lib.hid (show (k : Int) = secondTo l b (k + 1) by rw [HN.out, if_pos ⟨hkb, .inl hneg⟩])
            clear HN hneg
            go_wp2_with fail
            go_quiet (fail)
            go_wp2_with fail
            exact ⟨⟨k + 1, by omega, by go_num, by rw [← HN2.out], below_drewN hb _⟩, by simp [intOf]; omega⟩
          · obtain ⟨sn, rfl⟩ : ∃ sn : Nat, s = (sn : Int) := ⟨s.toNat, by omega⟩
            have t3 : decide ((sn : Int) < 0) = false := by simp
            have pk : (k : Int) < (n : Int) := by omega
            have ps : (sn : Int) < (n : Int) := by omega
            obtain ⟨b0, off, rfl, _, _, c0, i0⟩ := (H.out.below hb (fun _ h => h)).int_at k hlt
            obtain ⟨b1, off1, hA, _, _, c1, i1⟩ := (H.out.below hb (fun _ h => h)).int_at sn (by omega)
            cases hA
            rw [Int.toNat_natCast] at HN
            generalize hx : l.getD k 0 = x at *
            generalize hy : l.getD sn 0 = y at *
            clear hx hy i0 i1 hneg
            by_cases hxy : y < x
            · have y2 : decide (y < x) = true := by simp; exact hxy
              have HN2 := Lib.hid (show (k : Int) = secondTo l b (k + 1) by rw [HN.out, if_pos ⟨hkb, .inr hxy⟩])
              clear HN hxy
              go_wp2_with fail
              go_quiet (fail)
              go_wp2_with fail
              exact ⟨⟨k + 1, by omega, by go_num, by rw [← HN2.out], below_drewN hb _⟩, by simp [intOf]; omega⟩
            · have y2 : decide (y < x) = false := by simp; omega
              have HN2 := Lib.hid (show (sn : Int) = secondTo l b (k + 1) by rw [HN.out, if_neg (by omega)])
              clear HN hxy
              go_wp2_with fail
              go_quiet (fail)
              go_wp2_with fail
              exact ⟨⟨k + 1, by omega, by go_num, by rw [← HN2.out], below_drewN hb _⟩, by simp [intOf]; omega⟩
      · obtain rfl : k = n := by omega
        have hs2 : 0 ≤ secondTo l b k := by
          rcases secondTo_spec l b k with ⟨_, hx⟩ | ⟨s, hs, _, e, _⟩
          · have := hx 0 (by omega); have := hx 1 (by omega); omega
          · rw [e]; omega
        generalize secondTo l b k = s at *
        obtain ⟨sn, rfl⟩ : ∃ sn : Nat, s = (sn : Int) := ⟨s.toNat, by omega⟩
        rw [Int.toNat_natCast] at HG
        have ps : (sn : Int) < (k : Int) := by omega
        have pb : (b : Int) < (k : Int) := by omega
        obtain ⟨b0, off, rfl, _, _, c0, i0⟩ := (H.out.below hb (fun _ h => h)).int_at b hb1
        obtain ⟨b1, off1, hA, _, _, c1, i1⟩ := (H.out.below hb (fun _ h => h)).int_at sn (by omega)
        cases hA
        rw [inK_i32] at i0 i1
        generalize l.getD b 0 = x at *
        generalize l.getD sn 0 = y at *
        have e1 : IntKind.i64.wrap (x - y) = x - y := IntWalk.i64_in _ (by omega)
        go_wp2_with fail
        go_quiet (fail)
        go_wp2_with fail
        go_ret
        exact ⟨ret_int HG.out, below_drewN hb _⟩
end Go.Proofs.Ytlbijkafcododaa
