/-
  Room (layer 28): arena.Sound.
  Conditions: none.
-/
import Derived.Test.YtcbjikopmlaapaaChecked
import Derived.Test.YtcbjikopmlaapaaArD
namespace Go.Proofs.Ytcbjikopmlaapaa
set_option linter.unusedVariables false
set_option linter.unusedSimpArgs false
open Go.RowKit Go.ChangeShapes Go.WideShapes Go.Proofs.Ytcbjikopmlaapaa.Ar
set_option maxRecDepth 100000

set_option maxHeartbeats 4000000 in
theorem arSound_any (A : Option Addr) (n cap : Nat) (A' : Option Addr) (n' cap' : Nat) (A'' : Option Addr) (n'' cap'' : Nat) (sz un at_ : List Int) (w : World) (h : Sl (tInt .i64) w (blo w.heap.size) A n cap sz) (h' : Sl (tInt .i64) w (blo w.heap.size) A' n' cap' un)
    (h'' : Sl (tInt .i64) w (blo w.heap.size) A'' n'' cap'' at_) :
    Calls Try.prog 9 #[.slice A n cap, .slice A' n' cap', .slice A'' n'' cap''] w fun e w' => e = .returned (.bool (decide (soundOk sz un at_))) ∧ Below w.heap.size w w' := by
  have hm : n ≤ 9223372036854775807 := Nat.le_trans h.cap_le h.max_le
  have hm'' : n'' ≤ 9223372036854775807 := Nat.le_trans h''.cap_le h''.max_le
  have MA := Lib.hid (arMay_any A n cap A' n' cap' sz un w h h')
  have hl := h.n_eq
  have hl' := h'.n_eq
  have hl'' := h''.n_eq
  have H := Lib.hid h
  have H' := Lib.hid h'
  have H'' := Lib.hid h''
  clear h h' h''
  obtain ⟨r, hr⟩ : ∃ r, decide (soundOk sz un at_) = r := ⟨_, rfl⟩
  rw [hr]
  have R := Lib.hid hr
  clear hr
  by_cases c : mayOk sz un
  rotate_left
  · have R2 := Lib.hid (show false = r by rw [← R.out]; symm; rw [decide_eq_false_iff_not]; exact fun e => c e.1)
    rw [decide_eq_false c] at MA
    clear c hl hl' hl''
    go_enter Try.func9, Try.ntmps9
    go_wp2_with fail
    refine MA.out.mono ?_
    rintro e w1 ⟨rfl, rfl⟩
    go_wp2_with fail
    go_ret
    exact ⟨ret_bool R2.out, Below.refl _ _⟩
  have C := Lib.hid c
  rw [decide_eq_true c] at MA
  obtain ⟨k1, k2, k3⟩ := c
  rw [hl] at k2 k3
  have hnn : n = n' := by rw [← hl, ← hl']; exact k1
  subst hnn
  have HS := Lib.hid k3
  by_cases c2 : n'' = n
  rotate_left
  · have R2 := Lib.hid (show false = r by rw [← R.out]; symm; rw [decide_eq_false_iff_not]; intro e; have := e.2.1; omega)
    have t1 : ((n'' : Int) != (n : Int)) = true := by simp; omega
    clear c2 hl hl' hl'' k1 k3
    go_enter Try.func9, Try.ntmps9
    go_wp2_with fail
    refine MA.out.mono ?_
    rintro e w1 ⟨rfl, rfl⟩
    go_wp2_with fail
    go_ret
    exact ⟨ret_bool R2.out, Below.refl _ _⟩
  subst c2
  have t1 : ((n'' : Int) != (n'' : Int)) = false := by simp
  have HL := Lib.hid (And.intro hl (And.intro hl' hl''))
  clear hl hl' hl'' k1 k3
  go_enter Try.func9, Try.ntmps9
  go_wp2_with fail
  refine MA.out.mono ?_
  rintro e w1 ⟨rfl, rfl⟩
  clear MA
  have FR := Lib.hid (Far.refl w)
  go_wp2_with fail
  go_loopw [24] (fun v wr => ∃ i : Nat, i ≤ n'' ∧ v = .int .i64 i ∧ Hid (rowsOk sz un at_ i) ∧ Hid (Far w wr)) (fun v _ => n'' - (intOf v).toNat)
  case atStart => exact ⟨0, Nat.zero_le _, rfl, Lib.hid (fun j hj => by omega), FR⟩
  case round =>
    clear FR
    obtain ⟨i, hi, rfl, HR, F⟩ := hrel
    by_cases hlt : i < n''
    · have t2 : decide ((i : Int) < (n'' : Int)) = true := by simp; omega
      have pi : (i : Int) < (n'' : Int) := by omega
      obtain ⟨b0, off, rfl, _, _, c0, _⟩ := (H''.out.fut F.out.out).int_at i hlt
      obtain ⟨p, hp⟩ : ∃ p, at_.getD i 0 = p := ⟨_, rfl⟩
      rw [hp] at c0
      have HP := Lib.hid hp
      clear hp
      have bad : ¬ (rowOkTo sz un at_ i i) → false = r := fun hb => by
        rw [← R.out]; symm; rw [decide_eq_false_iff_not]; intro e
        exact hb (e.2.2 i (by rw [HL.out.2.2]; exact hlt))
      have BAD := Lib.hid bad
      clear bad
      by_cases g1 : p < 0
      · have y1 : decide (p < 0) = true := by simp; exact g1
        have R2 := Lib.hid (BAD.out (fun e => by have := e.1; rw [HP.out] at this; omega))
        clear g1
        go_wp2_with fail
        go_ret
        exact ⟨ret_bool R2.out, F.out.out⟩
      have y1 : decide (p < 0) = false := by simp; omega
      by_cases g2 : 1099511627776 < p
      · have y2 : decide (1099511627776 < p) = true := by simp; exact g2
        have R2 := Lib.hid (BAD.out (fun e => by have := e.2.1; rw [HP.out] at this; omega))
        clear g1 g2
        go_wp2_with fail
        go_ret
        exact ⟨ret_bool R2.out, F.out.out⟩
      have y2 : decide (1099511627776 < p) = false := by simp; omega
      have p1 : 0 ≤ p := by omega
      have p2 : p ≤ 1099511627776 := by omega
      clear g1 g2
      have sbi := HS.out i hlt
      go_wp2_with fail
      clear c0
      go_loopw [36] (fun v wr => ∃ k : Nat, k ≤ i ∧ v = .int .i64 k ∧ Hid (∀ j, j < k → pairOk sz un at_ j i) ∧ Hid (Far w wr)) (fun v _ => i - (intOf v).toNat)
      case atStart => exact ⟨0, Nat.zero_le _, rfl, Lib.hid (fun j hj => by omega), F⟩
      case round =>
        clear F
        obtain ⟨k, hk, rfl, HK, F⟩ := hrel
        by_cases hlk : k < i
        · have t3 : decide ((k : Int) < (i : Int)) = true := by simp; omega
          have pk : (k : Int) < (n'' : Int) := by omega
          have HAT := Lib.hid (H''.out.fut F.out.out)
          have HSZ := Lib.hid (H.out.fut F.out.out)
          have HUN := Lib.hid (H'.out.fut F.out.out)
          obtain ⟨b1, off1, hA, _, _, c1, _⟩ := HAT.out.int_at k (by omega)
          cases hA
          obtain ⟨b2, off2, rfl, _, _, c2, _⟩ := HSZ.out.int_at k (by omega)
          obtain ⟨b3, off3, hA, _, _, c3, _⟩ := HSZ.out.int_at i hlt
          cases hA
          have sbk := HS.out k (by omega)
          have qb := HR.out k hlk
          have q1 := qb.1
          have q2 := qb.2.1
          clear qb
          obtain ⟨q, hq⟩ : ∃ q, at_.getD k 0 = q := ⟨_, rfl⟩
          obtain ⟨x, hx⟩ : ∃ q, sz.getD i 0 = q := ⟨_, rfl⟩
          obtain ⟨y, hy⟩ : ∃ q, sz.getD k 0 = q := ⟨_, rfl⟩
          rw [hq] at c1 q1 q2
          rw [hx] at c3 sbi
          rw [hy] at c2 sbk
          have PO := Lib.hid (show pairOk sz un at_ k i ↔ (q + y ≤ p ∨ p + x ≤ q ∨ x = 0 ∨ y = 0 ∨ togI (un.getD k 0) k i = false) by unfold pairOk; rw [hq, hx, hy, HP.out])
          have nxt := Lib.hid (show pairOk sz un at_ k i → ∀ j, j < k + 1 → pairOk sz un at_ j i from fun h j hj => by
            by_cases e : j = k
            · rw [e]; exact h
            · exact HK.out j (by omega))
          clear hq hx hy
          have e1 : IntKind.i64.wrap (q + y) = q + y := IntWalk.i64_in _ (by omega)
          have e2 : IntKind.i64.wrap (p + x) = p + x := IntWalk.i64_in _ (by omega)
          by_cases g1 : q + y ≤ p
          · have z1 : decide (q + y ≤ p) = true := by simp; exact g1
            have N := Lib.hid (nxt.out (PO.out.2 (.inl g1)))
            clear g1 nxt
            go_wp2_with fail
            go_quiet (fail)
            go_wp2_with fail
            exact ⟨⟨k + 1, by omega, by go_num, N, Lib.hid (F.out.drewN _)⟩, by simp [intOf]; omega⟩
          have z1 : decide (q + y ≤ p) = false := by simp; omega
          by_cases g2 : p + x ≤ q
          · have z2 : decide (p + x ≤ q) = true := by simp; exact g2
            have N := Lib.hid (nxt.out (PO.out.2 (.inr (.inl g2))))
            clear g1 g2 nxt
            go_wp2_with fail
            go_quiet (fail)
            go_wp2_with fail
            exact ⟨⟨k + 1, by omega, by go_num, N, Lib.hid (F.out.drewN _)⟩, by simp [intOf]; omega⟩
          have z2 : decide (p + x ≤ q) = false := by simp; omega
          by_cases g3 : x = 0
          · have z3 : (x == 0) = true := by simp; exact g3
            have N := Lib.hid (nxt.out (PO.out.2 (.inr (.inr (.inl g3)))))
            clear g1 g2 g3 nxt
            go_wp2_with fail
            go_quiet (fail)
            go_wp2_with fail
            exact ⟨⟨k + 1, by omega, by go_num, N, Lib.hid (F.out.drewN _)⟩, by simp [intOf]; omega⟩
          have z3 : (x == 0) = false := by simp; exact g3
          by_cases g4 : y = 0
          · have z4 : (y == 0) = true := by simp; exact g4
            have N := Lib.hid (nxt.out (PO.out.2 (.inr (.inr (.inr (.inl g4))))))
            clear g1 g2 g3 g4 nxt
            go_wp2_with fail
            go_quiet (fail)
            go_wp2_with fail
            exact ⟨⟨k + 1, by omega, by go_num, N, Lib.hid (F.out.drewN _)⟩, by simp [intOf]; omega⟩
          have z4 : (y == 0) = false := by simp; exact g4
          have TG := Lib.hid (fun q => together_any A' n'' cap' un k i _ (HUN.out.fut (w' := wr.drewN q) (below_drewN (Below.refl _ _) q)) (by omega))
          cases ht : togI (un.getD k 0) k i with
          | false =>
            rw [ht] at TG
            have N := Lib.hid (nxt.out (PO.out.2 (.inr (.inr (.inr (.inr ht))))))
            clear g1 g2 g3 g4 nxt ht
            go_wp2_with fail
            go_quiet (fail)
            go_wp2_with fail
            refine (TG.out _).mono ?_
            rintro e w1 ⟨rfl, rfl⟩
            go_wp2_with fail
            exact ⟨⟨k + 1, by omega, by go_num, N, Lib.hid (F.out.drewN _)⟩, by simp [intOf]; omega⟩
          | true =>
            rw [ht] at TG
            have R2 := Lib.hid (BAD.out (fun e => by
              have := PO.out.1 (e.2.2 k hlk)
              rw [ht] at this
              rcases this with h | h | h | h | h
              · exact g1 h
              · exact g2 h
              · exact g3 h
              · exact g4 h
              · cases h))
            clear g1 g2 g3 g4 nxt ht
            go_wp2_with fail
            go_quiet (fail)
            go_wp2_with fail
            refine (TG.out _).mono ?_
            rintro e w1 ⟨rfl, rfl⟩
            go_wp2_with fail
            go_ret
            exact ⟨ret_bool R2.out, (F.out.drewN _).out⟩
        · obtain rfl : k = i := by omega
          have t3 : decide ((k : Int) < (k : Int)) = false := by simp
          have N := Lib.hid (show rowsOk sz un at_ (k + 1) from fun j hj => by
            by_cases e : j = k
            · rw [e]; exact ⟨by rw [HP.out]; exact p1, by rw [HP.out]; exact p2, HK.out⟩
            · exact HR.out j (by omega))
          go_wp2_with fail
          exact ⟨⟨k + 1, by omega, by go_num, N, F⟩, by simp [intOf]; omega⟩
    · obtain rfl : i = n'' := by omega
      have t2 : decide ((i : Int) < (i : Int)) = false := by simp
      have R2 := Lib.hid (show true = r by
        rw [← R.out]; symm; rw [decide_eq_true_eq]
        exact ⟨C.out, by rw [HL.out.1, HL.out.2.2], by rw [HL.out.2.2]; exact HR.out⟩)
      go_wp2_with fail
      go_ret
      exact ⟨ret_bool R2.out, F.out.out⟩
end Go.Proofs.Ytcbjikopmlaapaa
