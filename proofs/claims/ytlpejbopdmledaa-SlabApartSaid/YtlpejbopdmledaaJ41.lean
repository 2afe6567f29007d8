/-
  Room (layer 28): what may be, who is there together, what meets, what fits: the program's small functions and the document's.
  Conditions: sizes and places within 2^42.
-/
import Derived.Test.YtlpejbopdmledaaChecked
import Derived.Test.YtlpejbopdmledaaJ37
import Derived.Test.YtlpejbopdmledaaJ05
import Derived.IntWalk
namespace Go.Proofs.Ytlpejbopdmledaa
set_option linter.unusedVariables false
set_option linter.unusedSimpArgs false
open Go.RowKit Go.ChangeShapes Go.WideShapes Go.Proofs.Ytlpejbopdmledaa.Ar
set_option maxRecDepth 100000

theorem arMay_any (A : Option Addr) (n cap : Nat) (A' : Option Addr) (n' cap' : Nat) (sz un : List Int) (w : World) (h : Sl (tInt .i64) w (blo w.heap.size) A n cap sz) (h' : Sl (tInt .i64) w (blo w.heap.size) A' n' cap' un) :
    Calls Try.prog 40 #[.slice A n cap, .slice A' n' cap'] w fun e w' => e = .returned (.bool (decide (mayOk sz un))) ∧ w = w' := by
  have hm : n ≤ 9223372036854775807 := Nat.le_trans h.cap_le h.max_le
  have hm' : n' ≤ 9223372036854775807 := Nat.le_trans h'.cap_le h'.max_le
  have hl := h.n_eq
  have hl' := h'.n_eq
  obtain ⟨r, hr⟩ : ∃ r, decide (mayOk sz un) = r := ⟨_, rfl⟩
  rw [hr]
  have R := Lib.hid hr
  have H := Lib.hid h
  clear hr h h'
  by_cases c1 : n = n'
  rotate_left
  · have t1 : ((n : Int) != (n' : Int)) = true := by simp; omega
    have R2 := Lib.hid (show false = r by rw [← R.out]; symm; rw [decide_eq_false_iff_not]; rintro ⟨e, _⟩; omega)
    go_enter Try.func40, Try.ntmps40
    go_wp2_with fail
    go_ret
    exact ⟨ret_bool R2.out, rfl⟩
  · subst c1
    have t1 : ((n : Int) != (n : Int)) = false := by simp
    by_cases c2 : 1024 < n
    · have t2 : decide ((1024 : Int) < (n : Int)) = true := by simp; omega
      have R2 := Lib.hid (show false = r by rw [← R.out]; symm; rw [decide_eq_false_iff_not]; rintro ⟨_, e, _⟩; omega)
      clear c2
      go_enter Try.func40, Try.ntmps40
      go_wp2_with fail
      go_ret
      exact ⟨ret_bool R2.out, rfl⟩
    · have t2 : decide ((1024 : Int) < (n : Int)) = false := by simp; omega
      have HL := Lib.hid (And.intro hl hl')
      clear hl hl' c2
      go_enter Try.func40, Try.ntmps40
      go_wp2_with fail
      go_loopw [19] (fun i wr => ∃ k : Nat, k ≤ n ∧ i = .int .i64 k ∧ Hid (∀ j, j < k → 0 ≤ sz.getD j 0 ∧ sz.getD j 0 ≤ 1048576) ∧ w = wr) (fun i _ => n - (intOf i).toNat)
      case atStart => exact ⟨0, Nat.zero_le _, rfl, Lib.hid (fun j hj => by omega), rfl⟩
      case round =>
        obtain ⟨k, hk, rfl, HK, rfl⟩ := hrel
        by_cases hlt : k < n
        · have pk : (k : Int) < (n : Int) := by omega
          have t3 : decide ((k : Int) < (n : Int)) = true := by simp; omega
          obtain ⟨b0, off, rfl, _, _, c0, i0⟩ := H.out.int_at k hlt
          obtain ⟨x, hx⟩ : ∃ x, sz.getD k 0 = x := ⟨_, rfl⟩
          rw [hx] at c0 i0
          have HX := Lib.hid hx
          clear hx i0
          by_cases g1 : x < 0
          · have t4 : decide (x < 0) = true := by simp; exact g1
            have R2 := Lib.hid (show false = r by rw [← R.out]; symm; rw [decide_eq_false_iff_not]; rintro ⟨_, _, e⟩; have := e k (by rw [HL.out.1]; exact hlt); rw [HX.out] at this; omega)
            clear g1
            go_wp2_with fail
            go_ret
            exact ⟨ret_bool R2.out, by trivial⟩
          · have t4 : decide (x < 0) = false := by simp; omega
            by_cases g2 : 1048576 < x
            · have t5 : decide (1048576 < x) = true := by simp; exact g2
              have R2 := Lib.hid (show false = r by rw [← R.out]; symm; rw [decide_eq_false_iff_not]; rintro ⟨_, _, e⟩; have := e k (by rw [HL.out.1]; exact hlt); rw [HX.out] at this; omega)
              clear g1 g2
              go_wp2_with fail
              go_ret
              exact ⟨ret_bool R2.out, by trivial⟩
            · have t5 : decide (1048576 < x) = false := by simp; omega
              have HK2 := Lib.hid (show ∀ j, j < k + 1 → 0 ≤ sz.getD j 0 ∧ sz.getD j 0 ≤ 1048576 from fun j hj => by
                by_cases e : j = k
                · rw [e, HX.out]; omega
                · exact HK.out j (by omega))
              clear g1 g2
              go_wp2_with fail
              exact ⟨⟨k + 1, by omega, by go_num, HK2, by trivial⟩, by simp [intOf]; omega⟩
        · obtain rfl : k = n := by omega
          have t3 : decide ((k : Int) < (k : Int)) = false := by simp
          have R2 := Lib.hid (show true = r by rw [← R.out]; symm; rw [decide_eq_true_eq]; exact ⟨by rw [HL.out.1, HL.out.2], by rw [HL.out.1]; simp at t2; omega, by rw [HL.out.1]; exact HK.out⟩)
          go_wp2_with fail
          go_ret
          exact ⟨ret_bool R2.out, by trivial⟩


theorem arEnd_any (A : Option Addr) (n cap : Nat) (un : List Int) (k : Nat) (w : World) (h : Sl (tInt .i64) w (blo w.heap.size) A n cap un) (hk : k < n) :
    Calls Try.prog 56 #[.slice A n cap, .int .i64 k] w fun e w' => e = .returned (.int .i64 (max (un.getD k 0) (k : Int))) ∧ w = w' := by
  have hm : n ≤ 9223372036854775807 := Nat.le_trans h.cap_le h.max_le
  have pk : (k : Int) < (n : Int) := by omega
  obtain ⟨b0, off, rfl, _, _, c0, i0⟩ := h.int_at k hk
  generalize un.getD k 0 = u at *
  obtain ⟨m, hmx⟩ : ∃ m, max u (k : Int) = m := ⟨_, rfl⟩
  rw [hmx]
  have HM := Lib.hid hmx
  clear h i0 hmx
  go_enter Try.func56, Try.ntmps56
  go_wp2_with fail
  all_goals
    go_ret
    exact ⟨ret_int (by have := HM.out; omega), rfl⟩

theorem together_any (A : Option Addr) (n cap : Nat) (un : List Int) (k i : Nat) (w : World) (h : Sl (tInt .i64) w (blo w.heap.size) A n cap un) (hk : k < n) :
    Calls Try.prog 41 #[.slice A n cap, .int .i64 k, .int .i64 i] w fun e w' => e = .returned (.bool (togI (un.getD k 0) k i)) ∧ w = w' := by
  have E := Lib.hid (arEnd_any A n cap un k w h hk)
  generalize hu : un.getD k 0 = u at *
  obtain ⟨r, hr⟩ : ∃ r, togI u k i = r := ⟨_, rfl⟩
  rw [hr]
  have R := Lib.hid (show decide ((i : Int) ≤ max u (k : Int)) = r from hr)
  clear h hr
  generalize max u (k : Int) = m at *
  go_enter Try.func41, Try.ntmps41
  go_wp2_with fail
  refine E.out.mono ?_
  rintro e w' ⟨rfl, rfl⟩
  go_wp2_with fail
  go_ret
  exact ⟨ret_bool R.out, rfl⟩

theorem arThere_any (A : Option Addr) (n cap : Nat) (un : List Int) (i s : Nat) (w : World) (h : Sl (tInt .i64) w (blo w.heap.size) A n cap un) (hi : i < n) :
    Calls Try.prog 60 #[.slice A n cap, .int .i64 i, .int .i64 s] w fun e w' => e = .returned (.bool (there un i s)) ∧ w = w' := by
  have hm : n ≤ 9223372036854775807 := Nat.le_trans h.cap_le h.max_le
  have pk : (i : Int) < (n : Int) := by omega
  obtain ⟨b0, off, rfl, _, _, c0, i0⟩ := h.int_at i hi
  obtain ⟨r, hr⟩ : ∃ r, there un i s = r := ⟨_, rfl⟩
  rw [hr]
  unfold there at hr
  generalize un.getD i 0 = u at *
  have R := Lib.hid hr
  clear h i0 hr
  by_cases c1 : s = i
  · have t1 : ((s : Int) == (i : Int)) = true := by simp; omega
    have R2 := Lib.hid (show true = r by rw [← R.out]; simp [c1])
    clear c1
    go_enter Try.func60, Try.ntmps60
    go_wp2_with fail
    go_ret
    exact ⟨ret_bool R2.out, rfl⟩
  · have t1 : ((s : Int) == (i : Int)) = false := by simp; omega
    by_cases c2 : i < s
    · have t2 : decide ((i : Int) < (s : Int)) = true := by simp; exact c2
      have t2n : decide (i < s) = true := by simp; exact c2
      by_cases c3 : (s : Int) ≤ u
      · have t3 : decide ((s : Int) ≤ u) = true := by simp; exact c3
        have R2 := Lib.hid (show true = r by rw [← R.out]; simp [c2, c3])
        clear c1 c2 c3
        go_enter Try.func60, Try.ntmps60
        go_wp2_with fail
        go_ret
        exact ⟨ret_bool R2.out, rfl⟩
      · have t3 : decide ((s : Int) ≤ u) = false := by simp; omega
        have R2 := Lib.hid (show false = r by rw [← R.out]; simp [c1, c3])
        clear c1 c2 c3
        go_enter Try.func60, Try.ntmps60
        go_wp2_with fail
        go_ret
        exact ⟨ret_bool R2.out, rfl⟩
    · have t2 : decide ((i : Int) < (s : Int)) = false := by simp; omega
      have t2n : decide (i < s) = false := by simp; omega
      have R2 := Lib.hid (show false = r by rw [← R.out]; simp [c1, c2])
      clear c1 c2
      go_enter Try.func60, Try.ntmps60
      go_wp2_with fail
      go_ret
      exact ⟨ret_bool R2.out, rfl⟩

set_option maxHeartbeats 1000000 in
theorem meet_any (A : Option Addr) (n cap : Nat) (A' : Option Addr) (n' cap' : Nat) (sz un : List Int) (i k : Nat) (p q : Int) (w : World) (h : Sl (tInt .i64) w (blo w.heap.size) A n cap sz) (h' : Sl (tInt .i64) w (blo w.heap.size) A' n' cap' un)
    (hi : i < n) (hk : k < n) (hn : n ≤ n') (hp : -4398046511104 ≤ p ∧ p ≤ 4398046511104) (hq : -4398046511104 ≤ q ∧ q ≤ 4398046511104) (hsi : 0 ≤ sz.getD i 0 ∧ sz.getD i 0 ≤ 1048576) (hsk : 0 ≤ sz.getD k 0 ∧ sz.getD k 0 ≤ 1048576) :
    Calls Try.prog 43 #[.slice A n cap, .slice A' n' cap', .int .i64 i, .int .i64 p, .int .i64 k, .int .i64 q] w fun e w' => e = .returned (.bool (meet sz un i p k q)) ∧ w = w' := by
  have hm : n ≤ 9223372036854775807 := Nat.le_trans h.cap_le h.max_le
  have pi : (i : Int) < (n : Int) := by omega
  have pk : (k : Int) < (n : Int) := by omega
  have hl := h.n_eq
  obtain ⟨b0, off, rfl, _, _, c0, _⟩ := h.int_at i hi
  obtain ⟨b1, off1, hA, _, _, c1, _⟩ := h.int_at k hk
  cases hA
  obtain ⟨r, hr⟩ : ∃ r, meet sz un i p k q = r := ⟨_, rfl⟩
  rw [hr]
  unfold meet at hr
  rw [hl] at hr
  have H' := Lib.hid h'
  have HL := Lib.hid hl
  clear h h' hl
  generalize sz.getD i 0 = x at *
  generalize sz.getD k 0 = y at *
  have R := Lib.hid hr
  clear hr
  have e1 : IntKind.i64.wrap (p + x) = p + x := IntWalk.i64_in _ (by omega)
  have e2 : IntKind.i64.wrap (q + y) = q + y := IntWalk.i64_in _ (by omega)
  by_cases g1 : x = 0
  · have t1 : (x == 0) = true := by simp; exact g1
    have R2 := Lib.hid (show false = r by rw [← R.out]; simp [over, g1])
    clear g1
    go_enter Try.func43, Try.ntmps43
    go_wp2_with fail
    go_ret
    exact ⟨ret_bool R2.out, rfl⟩
  have t1 : (x == 0) = false := by simp; exact g1
  by_cases g2 : y = 0
  · have t2 : (y == 0) = true := by simp; exact g2
    have R2 := Lib.hid (show false = r by rw [← R.out]; simp [over, g2])
    clear g1 g2
    go_enter Try.func43, Try.ntmps43
    go_wp2_with fail
    go_ret
    exact ⟨ret_bool R2.out, rfl⟩
  have t2 : (y == 0) = false := by simp; exact g2
  by_cases g3 : p + x ≤ q
  · have t3 : decide (p + x ≤ q) = true := by simp; exact g3
    have R2 := Lib.hid (show false = r by rw [← R.out]; rw [decide_eq_false (by unfold over; omega)]; rfl)
    clear g1 g2 g3
    go_enter Try.func43, Try.ntmps43
    go_wp2_with fail
    go_ret
    exact ⟨ret_bool R2.out, rfl⟩
  have t3 : decide (p + x ≤ q) = false := by simp; omega
  by_cases g4 : q + y ≤ p
  · have t4 : decide (q + y ≤ p) = true := by simp; exact g4
    have R2 := Lib.hid (show false = r by rw [← R.out]; rw [decide_eq_false (by unfold over; omega)]; rfl)
    clear g1 g2 g3 g4
    go_enter Try.func43, Try.ntmps43
    go_wp2_with fail
    go_ret
    exact ⟨ret_bool R2.out, rfl⟩
  have t4 : decide (q + y ≤ p) = false := by simp; omega
  have R3 := Lib.hid (show meetTo un i k n = r by rw [← R.out, decide_eq_true (show over p x q y by unfold over; omega)]; rfl)
  clear g1 g2 g3 g4 R
  go_enter Try.func43, Try.ntmps43
  go_wp2_with fail
  clear t1 t2 t3 t4 e1 e2 c0 c1
  go_loopw [13] (fun v wr => ∃ s : Nat, s ≤ n ∧ v = .int .i64 s ∧ Hid (meetTo un i k s = false) ∧ w = wr) (fun v _ => n - (intOf v).toNat)
  case atStart => exact ⟨0, Nat.zero_le _, rfl, rfl, rfl⟩
  case round =>
    obtain ⟨s, hs, rfl, HK, rfl⟩ := hrel
    by_cases hlt : s < n
    · have t3 : decide ((s : Int) < (n : Int)) = true := by simp; omega
      have T1 := Lib.hid (arThere_any A' n' cap' un i s w H'.out (by omega))
      have T2 := Lib.hid (arThere_any A' n' cap' un k s w H'.out (by omega))
      have HS := Lib.hid (show meetTo un i k (s + 1) = (there un i s && there un k s) by rw [meetTo, HK.out]; rfl)
      generalize there un i s = b1 at *
      generalize there un k s = b2 at *
      cases b1 with
      | false =>
        have HS2 := Lib.hid (show meetTo un i k (s + 1) = false by rw [HS.out]; rfl)
        go_wp2_with fail
        refine T1.out.mono ?_
        rintro e w' ⟨rfl, rfl⟩
        go_wp2_with fail
        exact ⟨⟨s + 1, by omega, by go_num, HS2, by trivial⟩, by simp [intOf]; omega⟩
      | true =>
        cases b2 with
        | false =>
          have HS2 := Lib.hid (show meetTo un i k (s + 1) = false by rw [HS.out]; rfl)
          go_wp2_with fail
          refine T1.out.mono ?_
          rintro e w' ⟨rfl, rfl⟩
          go_wp2_with fail
          refine T2.out.mono ?_
          rintro e w' ⟨rfl, rfl⟩
          go_wp2_with fail
          exact ⟨⟨s + 1, by omega, by go_num, HS2, by trivial⟩, by simp [intOf]; omega⟩
        | true =>
          have R2 := Lib.hid (show true = r by
            rw [← R3.out]; symm
            have := (meetTo_iff un i k (s + 1)).1 (by rw [HS.out]; rfl)
            obtain ⟨a, h1, h2⟩ := this
            exact (meetTo_iff un i k n).2 ⟨a, by omega, h2⟩)
          go_wp2_with fail
          refine T1.out.mono ?_
          rintro e w' ⟨rfl, rfl⟩
          go_wp2_with fail
          refine T2.out.mono ?_
          rintro e w' ⟨rfl, rfl⟩
          go_wp2_with fail
          go_ret
          exact ⟨ret_bool R2.out, by trivial⟩
    · obtain rfl : s = n := by omega
      have t3 : decide ((s : Int) < (s : Int)) = false := by simp
      have R2 := Lib.hid (show false = r by rw [← R3.out, HK.out])
      go_wp2_with fail
      go_ret
      exact ⟨ret_bool R2.out, by trivial⟩

theorem fits_any (A : Option Addr) (n cap : Nat) (A' : Option Addr) (n' cap' : Nat) (A'' : Option Addr) (n'' cap'' : Nat) (sz un at_ : List Int) (i : Nat) (p : Int) (w : World) (h : Sl (tInt .i64) w (blo w.heap.size) A n cap sz) (h' : Sl (tInt .i64) w (blo w.heap.size) A' n' cap' un) (h'' : Sl (tInt .i64) w (blo w.heap.size) A'' n'' cap'' at_)
    (hi : i < n) (hn : n ≤ n') (hin : i ≤ n'') (hp : -4398046511104 ≤ p ∧ p ≤ 4398046511104) (hs : ∀ j, j < n → 0 ≤ sz.getD j 0 ∧ sz.getD j 0 ≤ 1048576) (ha : ∀ j, j < i → 0 ≤ at_.getD j 0 ∧ at_.getD j 0 ≤ 4398046511104) :
    Calls Try.prog 27 #[.slice A n cap, .slice A' n' cap', .slice A'' n'' cap'', .int .i64 i, .int .i64 p] w fun e w' => e = .returned (.bool (fits sz un at_ i p)) ∧ w = w' := by
  have hm : n'' ≤ 9223372036854775807 := Nat.le_trans h''.cap_le h''.max_le
  have hm1 : n ≤ 9223372036854775807 := Nat.le_trans h.cap_le h.max_le
  have H := Lib.hid h
  have H' := Lib.hid h'
  have H'' := Lib.hid h''
  have HS := Lib.hid hs
  have HA := Lib.hid ha
  obtain ⟨r, hr⟩ : ∃ r, fits sz un at_ i p = r := ⟨_, rfl⟩
  rw [hr]
  have R := Lib.hid hr
  clear h h' h'' hr hs ha
  go_enter Try.func27, Try.ntmps27
  go_wp2_with fail
  go_loopw [11] (fun v wr => ∃ k : Nat, k ≤ i ∧ v = .int .i64 k ∧ Hid (fitsTo sz un at_ i p k) ∧ w = wr) (fun v _ => i - (intOf v).toNat)
  case atStart => exact ⟨0, Nat.zero_le _, rfl, Lib.hid (fun j hj => by omega), rfl⟩
  case round =>
    obtain ⟨k, hk, rfl, HK, rfl⟩ := hrel
    by_cases hlt : k < i
    · have t3 : decide ((k : Int) < (i : Int)) = true := by simp; omega
      have pk : (k : Int) < (n'' : Int) := by omega
      obtain ⟨b0, off, rfl, _, _, c0, _⟩ := H''.out.int_at k (by omega)
      have M := Lib.hid (meet_any A n cap A' n' cap' sz un i k p (at_.getD k 0) w H.out H'.out hi (by omega) hn hp (by have := HA.out k hlt; omega) (HS.out i hi) (HS.out k (by omega)))
      generalize hx : at_.getD k 0 = x at *
      have HX := Lib.hid hx
      clear hx
      cases hb : meet sz un i p k x with
      | false =>
        rw [hb] at M
        have HK2 := Lib.hid (show fitsTo sz un at_ i p (k + 1) from fun j hj => by
          by_cases e : j = k
          · rw [e, HX.out]; exact hb
          · exact HK.out j (by omega))
        clear hb
        go_wp2_with fail
        refine M.out.mono ?_
        rintro e w' ⟨rfl, rfl⟩
        go_wp2_with fail
        exact ⟨⟨k + 1, by omega, by go_num, HK2, by trivial⟩, by simp [intOf]; omega⟩
      | true =>
        rw [hb] at M
        have R2 := Lib.hid (show false = r by
          rw [← R.out]; symm; unfold fits; rw [decide_eq_false_iff_not]
          intro hf
          have := hf k hlt
          rw [HX.out, hb] at this; cases this)
        clear hb
        go_wp2_with fail
        refine M.out.mono ?_
        rintro e w' ⟨rfl, rfl⟩
        go_wp2_with fail
        go_ret
        exact ⟨ret_bool R2.out, by trivial⟩
    · obtain rfl : k = i := by omega
      have t3 : decide ((k : Int) < (k : Int)) = false := by simp
      have R2 := Lib.hid (show true = r by rw [← R.out]; symm; unfold fits; rw [decide_eq_true_eq]; exact HK.out)
      go_wp2_with fail
      go_ret
      exact ⟨ret_bool R2.out, by trivial⟩
end Go.Proofs.Ytlpejbopdmledaa
