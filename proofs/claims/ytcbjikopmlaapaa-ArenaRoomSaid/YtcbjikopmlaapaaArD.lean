/-
  Room (layer 28): arena.Sound, arena.Peak, the document's Peak.
  Conditions: none.
-/
import Derived.Test.YtcbjikopmlaapaaChecked
import Derived.Test.YtcbjikopmlaapaaArB
import Derived.Test.YtcbjikopmlaapaaArC
namespace Go.Proofs.Ytcbjikopmlaapaa
set_option linter.unusedVariables false
set_option linter.unusedSimpArgs false
open Go.RowKit Go.ChangeShapes Go.WideShapes Go.Proofs.Ytcbjikopmlaapaa.Ar
set_option maxRecDepth 100000

set_option maxHeartbeats 2000000 in
theorem arPeak_any (A : Option Addr) (n cap : Nat) (A' : Option Addr) (n' cap' : Nat) (sz un : List Int) (w : World) (h : Sl (tInt .i64) w (blo w.heap.size) A n cap sz) (h' : Sl (tInt .i64) w (blo w.heap.size) A' n' cap' un) :
    Calls Try.prog 10 #[.slice A n cap, .slice A' n' cap'] w fun e w' => e = .returned (.int .i64 (if mayOk sz un then peakTo sz un n else 0)) ∧ w = w' := by
  have hm : n ≤ 9223372036854775807 := Nat.le_trans h.cap_le h.max_le
  have MA := Lib.hid (arMay_any A n cap A' n' cap' sz un w h h')
  have hl := h.n_eq
  have hl' := h'.n_eq
  have H := Lib.hid h
  have H' := Lib.hid h'
  clear h h'
  by_cases c : mayOk sz un
  rotate_left
  · rw [if_neg c]
    rw [decide_eq_false c] at MA
    clear c hl hl'
    go_enter Try.func10, Try.ntmps10
    go_wp2_with fail
    refine MA.out.mono ?_
    rintro e w1 ⟨rfl, rfl⟩
    go_wp2_with fail
    go_ret
    exact ⟨rfl, rfl⟩
  · rw [if_pos c]
    rw [decide_eq_true c] at MA
    obtain ⟨k1, k2, k3⟩ := c
    rw [hl] at k2 k3
    have hnn : n = n' := by rw [← hl, ← hl']; exact k1
    subst hnn
    have HS := Lib.hid k3
    clear hl hl' k1 k3
    go_enter Try.func10, Try.ntmps10
    go_wp2_with fail
    refine MA.out.mono ?_
    rintro e w1 ⟨rfl, rfl⟩
    clear MA
    go_wp2_with fail
    go_loopw [5, 15] (fun v i wr => ∃ k : Nat, k ≤ n ∧ i = .int .i64 k ∧ v = .int .i64 (peakTo sz un k) ∧ w = wr) (fun _ i _ => n - (intOf i).toNat)
    case atStart => exact ⟨0, Nat.zero_le _, rfl, rfl, rfl⟩
    case round =>
      obtain ⟨i, hi, rfl, rfl, rfl⟩ := hrel
      obtain ⟨pb1, pb2⟩ := peak_bd HS.out i hi (un := un)
      have HP := Lib.hid (show peakTo sz un (i + 1) = max (peakTo sz un i) (liveTo sz un i i) from rfl)
      generalize hpk : peakTo sz un i = pk at *
      have HPK := Lib.hid hpk
      clear hpk
      by_cases hlt : i < n
      · have t1 : decide ((i : Int) < (n : Int)) = true := by simp; omega
        have pi : (i : Int) < (n : Int) := by omega
        obtain ⟨b0, off, rfl, _, _, c0, _⟩ := H.out.int_at i hlt
        obtain ⟨w0, hw0⟩ : ∃ w0, w0 = w := ⟨_, rfl⟩
        go_wp2_with fail
        go_loopw [7, 23] (fun v u wr => ∃ k : Nat, k ≤ i ∧ u = .int .i64 k ∧ v = .int .i64 (liveTo sz un i k) ∧ w = wr) (fun _ u _ => i - (intOf u).toNat)
        case atStart => exact ⟨0, Nat.zero_le _, rfl, rfl, rfl⟩
        case round =>
          obtain ⟨k, hk, rfl, rfl, rfl⟩ := hrel
          obtain ⟨lb1, lb2⟩ := live_bd HS.out i k hlt (by omega) (un := un)
          have HL := Lib.hid (show liveTo sz un i (k + 1) = if togI (un.getD k 0) k i = true then liveTo sz un i k + sz.getD k 0 else liveTo sz un i k from rfl)
          by_cases hlk : k < i
          · have t2 : decide ((k : Int) < (i : Int)) = true := by simp; omega
            have pk2 : (k : Int) < (n : Int) := by omega
            have T := Lib.hid (together_any A' n cap' un k i w H'.out (by omega))
            obtain ⟨b1, off1, hA, _, _, c1, _⟩ := H.out.int_at k (by omega)
            cases hA
            have sb := HS.out k (by omega)
            generalize sz.getD k 0 = x at *
            generalize liveTo sz un i k = lv at *
            have e1 : IntKind.i64.wrap (lv + x) = lv + x := IntWalk.i64_in _ (by omega)
            cases ht : togI (un.getD k 0) k i with
            | true =>
              rw [ht] at T HL
              rw [if_pos rfl] at HL
              clear ht
              go_wp2_with fail
              refine T.out.mono ?_
              rintro e w1 ⟨rfl, rfl⟩
              go_wp2_with fail
              exact ⟨⟨k + 1, by omega, by go_num, by rw [HL.out], by trivial⟩, by simp [intOf]; omega⟩
            | false =>
              rw [ht] at T HL
              rw [if_neg (by simp)] at HL
              clear ht
              go_wp2_with fail
              refine T.out.mono ?_
              rintro e w1 ⟨rfl, rfl⟩
              go_wp2_with fail
              exact ⟨⟨k + 1, by omega, by go_num, by rw [HL.out], by trivial⟩, by simp [intOf]; omega⟩
          · obtain rfl : k = i := by omega
            have t2 : decide ((k : Int) < (k : Int)) = false := by simp
            generalize liveTo sz un k k = lv at *
            go_wp2_with fail
            all_goals exact ⟨⟨k + 1, by omega, by go_num, by rw [HP.out]; congr 1; omega, by trivial⟩, by simp [intOf]; omega⟩
      · obtain rfl : i = n := by omega
        have t1 : decide ((i : Int) < (i : Int)) = false := by simp
        go_wp2_with fail
        go_ret
        exact ⟨ret_int HPK.out.symm, by trivial⟩

end Go.Proofs.Ytcbjikopmlaapaa
