/-
  The walk of the law RankGrows (layer 22).
  Conditions: none.
-/
import Derived.Test.YtlbijkafcododaaChecked
import Derived.Test.YtlbijkafcododaaRankE
namespace Go.Proofs.Ytlbijkafcododaa
set_option linter.unusedVariables false
set_option linter.unusedSimpArgs false
open Go.RowKit Go.ChangeShapes Go.WideShapes Go.Proofs.Ytlbijkafcododaa.Rk
set_option maxRecDepth 100000

theorem ei_i32r : EI Try.prog 43 21 (.int .i32 0) 1 4 := ⟨Try.underlying43, by kernel_rfl, rfl, by decide⟩

def grownTo (l : List Int) (c : Int) (k : Nat) : List Int := (List.range k).map fun i => l.getD i 0 + c
theorem grownTo_succ (l : List Int) (c : Int) (k : Nat) : grownTo l c (k + 1) = grownTo l c k ++ [l.getD k 0 + c] := by
  unfold grownTo; rw [List.range_succ, List.map_append]; rfl
theorem grownTo_len (l : List Int) (c : Int) (k : Nat) : (grownTo l c k).length = k := by simp [grownTo]
theorem grownTo_at (l : List Int) (c : Int) (k i : Nat) (h : i < k) : (grownTo l c k).getD i 0 = l.getD i 0 + c := by
  unfold grownTo
  rw [List.getD_eq_getElem?_getD, List.getElem?_map, List.getElem?_range h]; rfl

set_option maxHeartbeats 4000000 in
theorem rankGrows_walk (A : Option Addr) (n cp : Nat) (l : List Int) {W : World} (h : Sl (tInt .i32) W (blo W.heap.size) A n cp l) (c : Int) (hc : InK .u16 c) (w : World) (e : W = w) :
    Calls Try.prog 5 #[.slice A n cp, .int .u16 c] w fun e w' => e = .returned (.bool true) ∧ Below w.heap.size w w' := by
  subst e
  have hl := Lib.hid h.n_eq
  have H := Lib.hid h
  clear h
  rw [inK_u16] at hc
  by_cases hbig : 60 < n
  · have t1 : decide ((60 : Int) < (n : Int)) = true := by simp; omega
    clear hbig
    go_enter Try.func5, Try.ntmps5
    go_wp2_with fail
    refine (known22_any W).mono ?_
    rintro e w2 ⟨rfl, b2⟩
    go_wp2_with fail
    go_ret
    exact ⟨rfl, b2⟩
  · have t1 : decide ((60 : Int) < (n : Int)) = false := by simp; omega
    have hn : n ≤ 60 := by omega
    have e1 : IntKind.i32.wrap c = c := IntWalk.i32_in _ (by omega)
    have e2 : IntKind.i32.wrap (2147483647 - c) = 2147483647 - c := IntWalk.i32_in _ (by omega)
    clear hbig
    go_enter Try.func5, Try.ntmps5
    go_wp2_with fail
    go_loopw [5, 6] (fun v i wr => ∃ k : Nat, k ≤ n ∧ i = .int .i64 k ∧ Below W.heap.size W wr ∧ Own (tInt .i32) wr (fun _ => False) W.heap.size 21 v k (grownTo l c k)) (fun _ i _ => n - (intOf i).toNat)
    case atStart => exact ⟨0, Nat.zero_le _, rfl, Below.refl _ _, Own.nil _ _ _ _ _⟩
    case round =>
      obtain ⟨k, hk, rfl, hb, hown⟩ := hrel
      have HB := Lib.hid hb
      have HO := Lib.hid hown
      have zb := hb.size
      clear hb hown
      by_cases hlt : k < n
      · have t2 : decide ((k : Int) < (n : Int)) = true := by simp; omega
        have p1 : (k : Int) < (n : Int) := by omega
        obtain ⟨b0, off, rfl, _, _, c0, i0⟩ := (H.out.below HB.out (fun _ h => h)).int_at k hlt
        have HS := Lib.hid (grownTo_succ l c k)
        rw [inK_i32] at i0
        generalize l.getD k 0 = x at *
        by_cases hx : 2147483647 - c < x
        · have t3 : decide (2147483647 - c < x) = true := by simp; exact hx
          clear hx
          go_wp2_with fail
          refine (known22_any wr).mono ?_
          rintro e w2 ⟨rfl, b2⟩
          have HB2 := Lib.hid (HB.out.trans (b2.mono zb))
          clear b2
          go_wp2_with fail
          go_ret
          exact ⟨rfl, HB2.out⟩
        · have t3 : decide (2147483647 - c < x) = false := by simp; omega
          have e3 : IntKind.i32.wrap (x + c) = x + c := IntWalk.i32_in _ (by omega)
          have hin : InK .i32 (x + c) := by rw [inK_i32]; omega
          clear hx
          go_wp2_with (at_builtin; refine wpList_push (t := tInt .i32) rfl _ _ rfl ei_i32r (v := u5) rfl HO.out 1 rfl _ ⟨rfl, hin⟩ (by unfold maxLen; omega) (by omega) zb (fun _ h => h.elim) ?_; intro v' w3 ho3 hg3 _)
          refine ⟨⟨k + 1, by omega, by go_num, HB.out.grown hg3 zb (fun k h => (HO.out.lt k h).1), ?_⟩, by simp [intOf]; omega⟩
          rw [HS.out]
          exact ho3
      · obtain rfl : k = n := by omega
        have t2 : decide ((k : Int) < (k : Int)) = false := by simp
        obtain ⟨A2, c2, rfl, sl⟩ := HO.out.sl (S' := blo wr.heap.size) (by decide) (fun b h1 h2 => h2) (fun _ h => h.elim)
        have hlen : (grownTo l c k).length = l.length := by rw [grownTo_len, hl.out]
        have hat : ∀ i, i < l.length → (grownTo l c k).getD i 0 = l.getD i 0 + c := fun i hi => grownTo_at l c k i (by rw [← hl.out]; exact hi)
        have B1 := Lib.hid (best_grow hlen hat)
        have B2 := Lib.hid (margin_grow (refOrder_is l) hlen hat)
        have B3 := Lib.hid (show ordI (grownTo l c k) = ordI l by unfold ordI; rw [order_grow hlen hat])
        have S0 := Lib.hid sl
        have L0 := Lib.hid ((H.out.below HB.out (fun _ h => h)).more (S' := blo wr.heap.size) (fun b hb => Nat.lt_of_lt_of_le hb zb))
        clear sl hlen hat HO hk hlt
        generalize grownTo l c k = m at *
        obtain ⟨x, hx⟩ : ∃ x, bestI l = x := ⟨_, rfl⟩
        obtain ⟨y, hy⟩ : ∃ x, marginI l = x := ⟨_, rfl⟩
        have q1 : (x == x) = true := by simp
        have q2 : (y == y) = true := by simp
        rw [hx] at B1
        rw [hy] at B2
        have X := Lib.hid hx
        have Y := Lib.hid hy
        clear hx hy
        have hn2 : k ≤ 1099511627776 := by omega
        go_wp2_with fail
        refine (rankBest_any _ _ _ _ wr S0.out).mono ?_
        rintro e w1 ⟨rfl, hb⟩
        rw [B1.out]
        have S1 := Lib.hid (S0.out.later hb (Nat.le_refl _))
        have L1 := Lib.hid (L0.out.later hb (Nat.le_refl _))
        have HB1 := Lib.hid (HB.out.trans (hb.mono HB.out.size))
        clear hb S0 L0 HB
        go_wp2_with fail
        refine (rankBest_any _ _ _ _ w1 L1.out).mono ?_
        rintro e w2 ⟨rfl, hb⟩
        rw [X.out]
        have S2 := Lib.hid (S1.out.later hb (Nat.le_refl _))
        have L2 := Lib.hid (L1.out.later hb (Nat.le_refl _))
        have HB2 := Lib.hid (HB1.out.trans (hb.mono HB1.out.size))
        clear hb S1 L1 HB1
        go_wp2_with fail
        refine (rankMargin_any _ _ _ _ w2 S2.out hn2).mono ?_
        rintro e w3 ⟨rfl, hb⟩
        rw [B2.out]
        have S3 := Lib.hid (S2.out.later hb (Nat.le_refl _))
        have L3 := Lib.hid (L2.out.later hb (Nat.le_refl _))
        have HB3 := Lib.hid (HB2.out.trans (hb.mono HB2.out.size))
        clear hb S2 L2 HB2
        go_wp2_with fail
        refine (rankMargin_any _ _ _ _ w3 L3.out hn2).mono ?_
        rintro e w4 ⟨rfl, hb⟩
        rw [Y.out]
        have S4 := Lib.hid (S3.out.later hb (Nat.le_refl _))
        have L4 := Lib.hid (L3.out.later hb (Nat.le_refl _))
        have HB4 := Lib.hid (HB3.out.trans (hb.mono HB3.out.size))
        clear hb S3 L3 HB3
        go_wp2_with fail
        refine (rankOrder_any _ _ _ _ w4 S4.out hn2).mono ?_
        rintro e w5 ⟨A5, n5, c5, rfl, s5, hb⟩
        rw [B3.out] at s5
        have Q5 := Lib.hid (s5.more (S' := blo w5.heap.size) fun b hb => hb.2)
        have L5 := Lib.hid (L4.out.later hb (Nat.le_refl _))
        have HB5 := Lib.hid (HB4.out.trans (hb.mono HB4.out.size))
        clear hb S4 L4 HB4 s5
        go_wp2_with fail
        refine (rankOrder_any _ _ _ _ w5 L5.out hn2).mono ?_
        rintro e w6 ⟨A6, n6, c6, rfl, s6, hb⟩
        have R6 := Lib.hid (s6.more (S' := blo w6.heap.size) fun b hb => hb.2)
        have Q6 := Lib.hid (Q5.out.later hb (Nat.le_refl _))
        have HB6 := Lib.hid (HB5.out.trans (hb.mono HB5.out.size))
        clear hb L5 HB5 s6 Q5
        go_wp2_with fail
        refine (samei_eq _ _ _ _ _ _ _ w6 Q6.out R6.out).mono ?_
        rintro e w7 ⟨rfl, hb⟩
        have HB7 := Lib.hid (HB6.out.trans (hb.mono HB6.out.size))
        clear hb HB6 Q6 R6
        go_wp2_with fail
        refine (known22_any w7).mono ?_
        rintro e w8 ⟨rfl, hb⟩
        have HB8 := Lib.hid (HB7.out.trans (hb.mono HB7.out.size))
        clear hb HB7
        go_wp2_with fail
        go_ret
        exact ⟨rfl, HB8.out⟩
end Go.Proofs.Ytlbijkafcododaa
