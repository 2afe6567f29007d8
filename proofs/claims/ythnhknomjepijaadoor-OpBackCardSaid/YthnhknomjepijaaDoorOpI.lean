/-
  Ops (layer 44): whether one may be written, the program's way and the document's.
  Conditions: none beside the readings.
-/
import Derived.Test.YthnhknomjepijaaDoorOpH
namespace Go.Proofs.YthnhknomjepijaaDoor
set_option linter.unusedVariables false
set_option linter.unusedSimpArgs false
open Go.RowKit Go.ChangeShapes Go.WideShapes
set_option maxRecDepth 100000
set_option maxHeartbeats 4000000

theorem word_empty (k : Int) : (wordB k).toList.isEmpty = !decide (1 ≤ k ∧ k ≤ 6) := by
  rcases kind_cases k with h | h
  · rcases h with rfl | rfl | rfl | rfl | rfl | rfl
    all_goals exact sempty_ne (by decide)
  · rw [word_none h]
    have : decide (1 ≤ k ∧ k ≤ 6) = false := by simp; omega
    rw [this, ByteArray.toList_eq]
    rfl

theorem opRight_any (k n d : Int) (A : Option Addr) (m cap : Nat) (l : List Int) (w : World) (hl : l.length = m) :
    Calls Tryd.prog 10 #[.agg #[.int .i64 k, .int .i64 n, .int .i64 d, .slice A m cap]] w fun e w' => e = .returned (.bool (rightO ⟨k, n, d, l⟩)) ∧ Below w.heap.size w w' := by
  have FR := Lib.hid (Far.refl w)
  have HV := Lib.hid (show rightO ⟨k, n, d, l⟩ = (decide (1 ≤ k ∧ k ≤ 6) && decide (l.length ≤ 16384) && (tel0 k || decide (l.length = 0)) && (tel1 k || decide (d = 0)) && (tel2 k || decide (n = 0))) from rfl)
  have TO := Lib.hid (fun w => opTold_any k w)
  have WO := Lib.hid (fun w => opWord_any k w)
  have WE := word_empty k
  obtain ⟨r, hr⟩ : ∃ r, rightO ⟨k, n, d, l⟩ = r := ⟨_, rfl⟩
  obtain ⟨b0, hb0⟩ : ∃ b, tel0 k = b := ⟨_, rfl⟩
  obtain ⟨b1, hb1⟩ : ∃ b, tel1 k = b := ⟨_, rfl⟩
  obtain ⟨b2, hb2⟩ : ∃ b, tel2 k = b := ⟨_, rfl⟩
  obtain ⟨s, hs⟩ : ∃ s, wordB k = s := ⟨_, rfl⟩
  obtain ⟨bk, hbk⟩ : ∃ b, decide (1 ≤ k ∧ k ≤ 6) = b := ⟨_, rfl⟩
  rw [hl] at HV
  rw [hr, hb0, hb1, hb2, hbk] at HV
  rw [hb0, hb1, hb2] at TO
  rw [hs] at WO WE
  rw [hbk] at WE
  rw [hr]
  obtain ⟨M0, hM0⟩ : ∃ b, decide ((0 : Int) < (m : Int)) = b := ⟨_, rfl⟩
  obtain ⟨M1, hM1⟩ : ∃ b, decide ((m : Int) ≤ 16384) = b := ⟨_, rfl⟩
  obtain ⟨D0, hD⟩ : ∃ b, (d != 0) = b := ⟨_, rfl⟩
  obtain ⟨N0, hN⟩ : ∃ b, (n != 0) = b := ⟨_, rfl⟩
  rw [show decide (m = 0) = !M0 by rw [← hM0, Bool.eq_iff_iff]; simp <;> omega, show decide (m ≤ 16384) = M1 by rw [← hM1, Bool.eq_iff_iff]; simp <;> omega, show decide (d = 0) = !D0 by rw [← hD, Bool.eq_iff_iff]; simp, show decide (n = 0) = !N0 by rw [← hN, Bool.eq_iff_iff]; simp] at HV
  clear hr hb0 hb1 hb2 hs hbk hl
  have key : (¬ (0 : Int) < (m : Int) ∧ M0 = false ∧ M1 = true) ∨ ((0 : Int) < (m : Int) ∧ M0 = true) := by
    by_cases c : (0 : Int) < (m : Int)
    · exact .inr ⟨c, by rw [← hM0]; exact decide_eq_true c⟩
    · exact .inl ⟨c, by rw [← hM0]; exact decide_eq_false c, by rw [← hM1]; exact decide_eq_true (by omega)⟩
  clear hM0
  rcases key with ⟨p0, rfl, rfl⟩ | ⟨p0, rfl⟩
  all_goals
    obtain ⟨w1, hw_w1⟩ : ∃ nw_, w.alloc (.cells #[.int .i64 k, .int .i64 n, .int .i64 d, .slice A m cap] 24) = nw_ := ⟨_, rfl⟩
    have k_w1 : Below w.heap.size w w1 := by rw [← hw_w1]; exact (Below.refl _ _).alloc (Nat.le_refl _) _
    replace FR := Lib.hid (FR.out.fut k_w1)
    have BN := Lib.hid (show Blk w1 w.heap.size 24 #[.int .i64 k, .int .i64 n, .int .i64 d, .slice A m cap] by rw [← hw_w1]; exact Blk.now _ _ _ _ rfl)
    clear k_w1
    have k0 := BN.out.cell 0; have k1 := BN.out.cell 1; have k2 := BN.out.cell 2; have k3 := BN.out.cell 3; simp only [List.getElem?_toArray, List.getElem?_cons_succ, List.getElem?_cons_zero] at k0 k1 k2 k3
    go_enter Tryd.func10, Tryd.ntmps10
    go_wp2_with fail
    refine (TO.out _).mono ?_
    rintro e w2 ⟨rfl, hb⟩
    replace FR := Lib.hid (FR.out.fut hb)
    replace BN := Lib.hid (BN.out.fut hb)
    clear hb hw_w1 k0 k1 k2 k3
    obtain ⟨w3, hw_w3⟩ : ∃ nw_, w2.alloc (.cells #[.bool b0, .bool b1, .bool b2] 53) = nw_ := ⟨_, rfl⟩
    have k_w3 : Below w2.heap.size w2 w3 := by rw [← hw_w3]; exact (Below.refl _ _).alloc (Nat.le_refl _) _
    replace FR := Lib.hid (FR.out.fut k_w3)
    replace BN := Lib.hid (BN.out.fut k_w3)
    have BT := Lib.hid (show Blk w3 w2.heap.size 53 #[.bool b0, .bool b1, .bool b2] by rw [← hw_w3]; exact Blk.now _ _ _ _ rfl)
    clear k_w3
    have k0 := BN.out.cell 0; have k1 := BN.out.cell 1; have k2 := BN.out.cell 2; have k3 := BN.out.cell 3; simp only [List.getElem?_toArray, List.getElem?_cons_succ, List.getElem?_cons_zero] at k0 k1 k2 k3
    have a0 := BT.out.cell 0; have a1 := BT.out.cell 1; have a2 := BT.out.cell 2; simp only [List.getElem?_toArray, List.getElem?_cons_succ, List.getElem?_cons_zero] at a0 a1 a2
    go_wp2_with (go_at_call 31; refine (WO.out _).mono ?_; rintro e w4 ⟨rfl, hb⟩; replace FR := Lib.hid (FR.out.fut hb); replace BN := Lib.hid (BN.out.fut hb); clear hb; have j3 := BN.out.cell 3; simp only [List.getElem?_toArray, List.getElem?_cons_succ, List.getElem?_cons_zero] at j3)
    all_goals
      go_ret
      refine ⟨?_, FR.out.out⟩
      rw [HV.out]
      clear HV BN BT FR WO TO
      clear hM1 hD hN WE k0 k1 k2 k3 a0 a1 a2
      (try simp only [Bool.not_eq_true] at *); (try subst_vars); first | rfl | simp | (simp only [Bool.not_true, Bool.not_false, Bool.true_and, Bool.and_true, Bool.false_or, Bool.or_false, Bool.true_or, Bool.or_true, Bool.false_and, Bool.and_false]; rfl)

theorem ropRight_any (k n d : Int) (A : Option Addr) (m cap : Nat) (l : List Int) (w : World) (hl : l.length = m) :
    Calls Tryd.prog 11 #[.agg #[.int .i64 k, .int .i64 n, .int .i64 d, .slice A m cap]] w fun e w' => e = .returned (.bool (rightO ⟨k, n, d, l⟩)) ∧ Below w.heap.size w w' := by
  have FR := Lib.hid (Far.refl w)
  have HV := Lib.hid (show rightO ⟨k, n, d, l⟩ = (decide (1 ≤ k ∧ k ≤ 6) && decide (l.length ≤ 16384) && (tel0 k || decide (l.length = 0)) && (tel1 k || decide (d = 0)) && (tel2 k || decide (n = 0))) from rfl)
  obtain ⟨r, hr⟩ : ∃ r, rightO ⟨k, n, d, l⟩ = r := ⟨_, rfl⟩
  rw [hl] at HV
  rw [hr] at HV
  rw [hr]
  obtain ⟨M0, hM0⟩ : ∃ b, decide ((0 : Int) < (m : Int)) = b := ⟨_, rfl⟩
  obtain ⟨M1, hM1⟩ : ∃ b, decide ((16384 : Int) < (m : Int)) = b := ⟨_, rfl⟩
  obtain ⟨D0, hD⟩ : ∃ b, (d != 0) = b := ⟨_, rfl⟩
  obtain ⟨N0, hN⟩ : ∃ b, (n == 0) = b := ⟨_, rfl⟩
  rw [show decide (m = 0) = !M0 by rw [← hM0, Bool.eq_iff_iff]; simp <;> omega, show decide (m ≤ 16384) = !M1 by rw [← hM1, Bool.eq_iff_iff]; simp <;> omega, show decide (d = 0) = !D0 by rw [← hD, Bool.eq_iff_iff]; simp, show decide (n = 0) = N0 by rw [← hN, Bool.eq_iff_iff]; simp] at HV
  have key : (¬ (0 : Int) < (m : Int) ∧ M0 = false ∧ M1 = false) ∨ ((0 : Int) < (m : Int) ∧ M0 = true) := by
    by_cases c : (0 : Int) < (m : Int)
    · exact .inr ⟨c, by rw [← hM0]; exact decide_eq_true c⟩
    · exact .inl ⟨c, by rw [← hM0]; exact decide_eq_false c, by rw [← hM1]; exact decide_eq_false (by omega)⟩
  clear hr hl hM0
  obtain ⟨w1, hw_w1⟩ : ∃ nw_, w.alloc (.cells #[.int .i64 k, .int .i64 n, .int .i64 d, .slice A m cap] 24) = nw_ := ⟨_, rfl⟩
  have k_w1 : Below w.heap.size w w1 := by rw [← hw_w1]; exact (Below.refl _ _).alloc (Nat.le_refl _) _
  replace FR := Lib.hid (FR.out.fut k_w1)
  have BN := Lib.hid (show Blk w1 w.heap.size 24 #[.int .i64 k, .int .i64 n, .int .i64 d, .slice A m cap] by rw [← hw_w1]; exact Blk.now _ _ _ _ rfl)
  clear k_w1
  have k0 := BN.out.cell 0; have k1 := BN.out.cell 1; have k2 := BN.out.cell 2; have k3 := BN.out.cell 3; simp only [List.getElem?_toArray, List.getElem?_cons_succ, List.getElem?_cons_zero] at k0 k1 k2 k3
  rcases kind_cases k with h | h
  · rcases h with rfl | rfl | rfl | rfl | rfl | rfl
    all_goals
      rcases key with ⟨p0, rfl, rfl⟩ | ⟨p0, rfl⟩
      all_goals
        go_enter Tryd.func11, Tryd.ntmps11
        go_wp2_with fail
        all_goals
          go_ret
          refine ⟨?_, FR.out.out⟩
          rw [HV.out]
          clear HV BN FR k0 k1 k2 k3
          (try clear hM1); (try clear hD); (try clear hN)
          (try simp only [Bool.not_eq_true] at *); (try subst_vars); first | rfl | simp [tel0, tel1, tel2]
  · have HW := Lib.hid (show r = false by
      rw [HV.out, show decide (1 ≤ k ∧ k ≤ 6) = false by simp; omega]
      simp)
    clear HV key
    have HV := HW
    clear HW
    rcases h with rfl | h | h
    · go_enter Tryd.func11, Tryd.ntmps11
      go_wp2_with fail
      all_goals
        go_ret
        refine ⟨?_, FR.out.out⟩
        rw [HV.out]
        clear HV BN FR k0 k1 k2 k3
        (try clear hM1); (try clear hD); (try clear hN)
        (try simp only [Bool.not_eq_true] at *); (try subst_vars); first | rfl | simp [tel0, tel1, tel2]
    · have p1 : k < 1 := by omega
      go_enter Tryd.func11, Tryd.ntmps11
      go_wp2_with fail
      all_goals
        go_ret
        refine ⟨?_, FR.out.out⟩
        rw [HV.out]
        clear HV BN FR k0 k1 k2 k3
        (try clear hM1); (try clear hD); (try clear hN)
        (try simp only [Bool.not_eq_true] at *); (try subst_vars); first | rfl | simp [tel0, tel1, tel2]
    · have p1 : ¬ k < 1 := by omega
      have p2 : 6 < k := by omega
      go_enter Tryd.func11, Tryd.ntmps11
      go_wp2_with fail
      all_goals
        go_ret
        refine ⟨?_, FR.out.out⟩
        rw [HV.out]
        clear HV BN FR k0 k1 k2 k3
        (try clear hM1); (try clear hD); (try clear hN)
        (try simp only [Bool.not_eq_true] at *); (try subst_vars); first | rfl | simp [tel0, tel1, tel2]
end Go.Proofs.YthnhknomjepijaaDoor
