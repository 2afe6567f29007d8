/-
  Room (layer 28): the walk of ArenaRoom.
  Conditions: none.
-/
import Derived.Test.YtcbjikopmlaapaaChecked
import Derived.Test.YtcbjikopmlaapaaArK
import Derived.Test.YtcbjikopmlaapaaArI
namespace Go.Proofs.Ytcbjikopmlaapaa
set_option linter.unusedVariables false
set_option linter.unusedSimpArgs false
open Go.RowKit Go.ChangeShapes Go.WideShapes Go.Proofs.Ytcbjikopmlaapaa.Ar
set_option maxRecDepth 100000

set_option maxHeartbeats 4000000 in
theorem arenaRoom_walk (A : Option Addr) (n c : Nat) (sz : List Int) {W : World} (h : Sl (tInt .i64) W (blo W.heap.size) A n c sz) (A' : Option Addr) (n' c' : Nat) (un : List Int) (h' : Sl (tInt .i64) W (blo W.heap.size) A' n' c' un) (w : World) (e : W = w) :
    Calls Try.prog 3 #[.slice A n c, .slice A' n' c'] w fun e w' => e = .returned (.bool true) ∧ Below w.heap.size w w' := by
  subst e
  have H := Lib.hid h
  have H' := Lib.hid h'
  have HL := Lib.hid h.n_eq
  have FR := Lib.hid (Far.refl W)
  have MA := Lib.hid (refMay_any A n c A' n' c' sz un W h h')
  clear h h'
  by_cases g1 : 24 < n
  · have t1 : decide ((24 : Int) < (n : Int)) = true := by simp; omega
    clear g1
    go_enter Try.func3, Try.ntmps3
    go_wp2_with fail
    refine (known28_any W).mono ?_
    rintro e w2 ⟨rfl, b2⟩
    go_wp2_with fail
    go_ret
    exact ⟨rfl, b2⟩
  have t1 : decide ((24 : Int) < (n : Int)) = false := by simp; omega
  by_cases g2 : 24 < n'
  · have t2 : decide ((24 : Int) < (n' : Int)) = true := by simp; omega
    clear g1 g2
    go_enter Try.func3, Try.ntmps3
    go_wp2_with fail
    refine (known28_any W).mono ?_
    rintro e w2 ⟨rfl, b2⟩
    go_wp2_with fail
    go_ret
    exact ⟨rfl, b2⟩
  have t2 : decide ((24 : Int) < (n' : Int)) = false := by simp; omega
  have m1 : n ≤ 24 := by omega
  clear g1 g2
  by_cases cm : mayOk sz un
  rotate_left
  · rw [decide_eq_false cm] at MA
    clear cm
    go_enter Try.func3, Try.ntmps3
    go_wp2_with fail
    refine MA.out.mono ?_
    rintro e w1 ⟨rfl, rfl⟩
    clear MA
    go_wp2_with fail
    refine (known28_any W).mono ?_
    rintro e w2 ⟨rfl, b2⟩
    go_wp2_with fail
    go_ret
    exact ⟨rfl, b2⟩
  rw [decide_eq_true cm] at MA
  have C := Lib.hid cm
  have SD := Lib.hid (decide_eq_true (sound_at cm))
  have rp := room_peak cm sz.length (Nat.le_refl _)
  have rs := (room_sum (un := un) cm.2.2 sz.length (Nat.le_refl _)).2
  have HS := Lib.hid cm.2.2
  rw [HL.out] at rp rs SD HS
  clear cm
  obtain ⟨r, hr⟩ : ∃ r, roomTo sz un n = r := ⟨_, rfl⟩
  obtain ⟨pk, hpk⟩ : ∃ r, peakTo sz un n = r := ⟨_, rfl⟩
  obtain ⟨sm, hsm⟩ : ∃ r, sumTo sz n = r := ⟨_, rfl⟩
  rw [hr, hpk] at rp
  rw [hr, hsm] at rs
  have q1 : decide (pk ≤ r) = true := by simp; exact rp
  have q2 : decide (r ≤ sm) = true := by simp; exact rs
  have R := Lib.hid hr
  have PK := Lib.hid hpk
  have SM := Lib.hid hsm
  have KN := Lib.hid (fun w => known28_any w)
  clear hr hpk hsm rp rs
  go_enter Try.func3, Try.ntmps3
  go_wp2_with fail
  refine MA.out.mono ?_
  rintro e w1 ⟨rfl, rfl⟩
  clear MA
  go_wp2_with fail
  refine (arPlace_ok A n c A' n' c' sz un W H.out H'.out C.out).mono ?_
  rintro e w1 ⟨A1, c1, rfl, hs, hb⟩
  rw [R.out]
  have S := Lib.hid hs.old
  clear hs
  replace FR := Lib.hid (FR.out.fut hb)
  replace H := Lib.hid (H.out.fut hb)
  replace H' := Lib.hid (H'.out.fut hb)
  clear hb
  go_wp2_with fail
  go_loopw [8, 9] (fun v u wr => ∃ i : Nat, i ≤ n ∧ u = .int .i64 i ∧ v = .int .i64 (sumTo sz i) ∧ w1 = wr) (fun _ u _ => n - (intOf u).toNat)
  case atStart => exact ⟨0, Nat.zero_le _, rfl, rfl, rfl⟩
  case round =>
    obtain ⟨i, hi, rfl, rfl, rfl⟩ := hrel
    have sb := sumTo_bd HS.out i hi
    have HN := Lib.hid (show sumTo sz (i + 1) = sumTo sz i + sz.getD i 0 from rfl)
    generalize hsi : sumTo sz i = s at *
    have HSI := Lib.hid hsi
    clear hsi
    by_cases hlt : i < n
    · have t3 : decide ((i : Int) < (n : Int)) = true := by simp; omega
      have pi : (i : Int) < (n : Int) := by omega
      obtain ⟨b0, off, rfl, _, _, c0, _⟩ := H.out.int_at i hlt
      have sbi := HS.out i hlt
      generalize sz.getD i 0 = x at *
      have e1 : IntKind.i64.wrap (s + x) = s + x := IntWalk.i64_in _ (by omega)
      go_wp2_with fail
      exact ⟨⟨i + 1, by omega, by go_num, by rw [HN.out], by trivial⟩, by simp [intOf]; omega⟩
    · obtain rfl : i = n := by omega
      have t3 : decide ((i : Int) < (i : Int)) = false := by simp
      obtain rfl : s = sm := HSI.out.symm.trans SM.out
      have SO := arSound_any A i c A' n' c' A1 i c1 sz un _ w1 H.out H'.out S.out
      rw [SD.out] at SO
      have SO := Lib.hid SO
      have P1 := Lib.hid (fun w2 (hb : Below w1.heap.size w1 w2) => arPeak_any A i c A' n' c' sz un w2 (H.out.fut hb) (H'.out.fut hb))
      rw [if_pos C.out, PK.out] at P1
      go_wp2_with fail
      refine SO.out.mono ?_
      rintro e w2 ⟨rfl, hb⟩
      have P2 := Lib.hid (P1.out w2 hb)
      clear SO P1
      replace FR := Lib.hid (FR.out.fut hb)
      clear hb
      go_wp2_with fail
      refine P2.out.mono ?_
      rintro e w3 ⟨rfl, rfl⟩
      clear P2
      go_wp2_with fail
      refine (KN.out _).mono ?_
      rintro e w3 ⟨rfl, hb⟩
      replace FR := Lib.hid (FR.out.fut hb)
      clear hb
      go_wp2_with fail
      go_ret
      exact ⟨rfl, FR.out.out⟩
end Go.Proofs.Ytcbjikopmlaapaa
