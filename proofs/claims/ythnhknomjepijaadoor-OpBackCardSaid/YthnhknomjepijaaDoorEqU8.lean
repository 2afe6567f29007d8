/-
  Rows of bytes: are they alike? (slices.Equal, and the document's Same of layer 6).
  Conditions: none.
-/
import Derived.Test.YthnhknomjepijaaDoorChecked
import Derived.Test.YthnhknomjepijaaDoorOwn
import Derived.Test.YthnhknomjepijaaDoorLeq
namespace Go.Proofs.YthnhknomjepijaaDoor
set_option linter.unusedVariables false
set_option linter.unusedSimpArgs false
open Go.RowKit Go.ChangeShapes Go.WideShapes
set_option maxRecDepth 100000

set_option maxHeartbeats 4000000


theorem same06_any (A A' : Option Addr) (n cap n' cap' : Nat) (l l' : List Int) (w : World) (h : Sl (tInt .u8) w (blo w.heap.size) A n cap l) (h' : Sl (tInt .u8) w (blo w.heap.size) A' n' cap' l') :
    Calls Tryd.prog 19 #[.slice A n cap, .slice A' n' cap'] w fun e w' => e = .returned (.bool (decide (l = l'))) ∧ Below w.heap.size w w' := by
  have hm : n ≤ 9223372036854775807 := Nat.le_trans h.cap_le h.max_le
  have hm' : n' ≤ 9223372036854775807 := Nat.le_trans h'.cap_le h'.max_le
  have H := Lib.hid h
  have H' := Lib.hid h'
  clear h h'
  by_cases hn : n = n'
  rotate_left
  · have d1 : ((n : Int) != (n' : Int)) = true := by rw [bne_iff_ne]; omega
    have d2 : decide (l = l') = false := by rw [decide_eq_false_iff_not]; rintro rfl; exact hn (H.out.n_eq.symm.trans H'.out.n_eq)
    rw [d2]
    clear hn
    go_enter Tryd.func19, Tryd.ntmps19
    go_wp2_with fail
    go_ret
    exact ⟨rfl, Below.refl _ _⟩
  subst hn
  have d1 : ((n : Int) != (n : Int)) = false := by simp
  go_enter Tryd.func19, Tryd.ntmps19
  go_wp2_with fail
  go_loopw [5] (fun i wr => ∃ k : Nat, k ≤ n ∧ i = .int .i64 k ∧ wr.heap = w.heap ∧ Below w.heap.size w wr ∧ ∀ j, j < k → l.getD j 0 = l'.getD j 0) (fun i _ => n - (intOf i).toNat)
  case atStart => exact ⟨0, Nat.zero_le _, rfl, rfl, Below.refl _ _, fun j hj => absurd hj (Nat.not_lt_zero _)⟩
  case round =>
    obtain ⟨k, hk, rfl, hh, hb, hq⟩ := hrel
    have HQ := Lib.hid hq
    clear hq
    by_cases hlt : k < n
    · obtain ⟨b, off, rfl, _, _, c0, i0⟩ := (H.out.below hb (fun _ h => h)).int_at k hlt
      obtain ⟨b', off', rfl, _, _, c1, i1⟩ := (H'.out.below hb (fun _ h => h)).int_at k hlt
      have HH := Lib.hid hh
      clear hh i0 i1
      by_cases he : l.getD k 0 = l'.getD k 0
      · rw [← he] at c1
        generalize hx : l.getD k 0 = x at *
        have d3 : (x != x) = false := by simp
        have HX := Lib.hid hx
        have HE := Lib.hid he
        clear hx he
        go_wp2_with fail
        go_quiet (fail)
        go_wp2_with fail
        refine ⟨⟨k + 1, by omega, by go_num, HH.out, below_drewN hb _, fun j hj => ?_⟩, by simp [intOf]; omega⟩
        by_cases hjk : j < k
        · exact HQ.out j hjk
        · obtain rfl : j = k := by omega
          rw [HX.out, HE.out]
      · have d2 : decide (l = l') = false := by rw [decide_eq_false_iff_not]; rintro rfl; exact he rfl
        have d3 : (l.getD k 0 != l'.getD k 0) = true := by rw [bne_iff_ne]; exact he
        generalize l.getD k 0 = x at *
        generalize l'.getD k 0 = y at *
        have D2 := Lib.hid d2
        clear d2 he
        go_wp2_with fail
        go_quiet (fail)
        go_wp2_with fail
        go_ret
        exact ⟨by rw [D2.out]; rfl, below_drewN hb _⟩
    · obtain rfl : k = n := by omega
      go_wp2_with fail
      go_ret
      exact ⟨by rw [decide_eq_true (list_eq_getD H.out.n_eq H'.out.n_eq HQ.out)]; rfl, hb⟩

end Go.Proofs.YthnhknomjepijaaDoor
