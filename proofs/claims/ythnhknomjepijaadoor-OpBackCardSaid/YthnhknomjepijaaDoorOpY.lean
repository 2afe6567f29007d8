/-
  An op as data; the walk of OpLines (layer 44).
  Conditions: the library's tables lie as they are laid.
-/
import Derived.Test.YthnhknomjepijaaDoorOpX
import Derived.Test.YthnhknomjepijaaDoorQMid
namespace Go.Proofs.YthnhknomjepijaaDoor
set_option linter.unusedVariables false
set_option linter.unusedSimpArgs false
open Go.RowKit Go.ChangeShapes Go.WideShapes
set_option maxRecDepth 100000
set_option maxHeartbeats 4000000

def tOp : Ty Opd := tMap (fun x : Int × Int × Int × List Int => ⟨x.1, x.2.1, x.2.2.1, x.2.2.2⟩) (tPair (tInt .i64) (tPair (tInt .i64) (tPair (tInt .i64) (tSlice (tInt .u8)))))
theorem opens_op : Opens Tryd.prog 24 tOp :=
  opens_map _ (opens_struct Tryd.underlying24 (by kernel_rfl) (opensFrom_cons rfl (opens_int Tryd.underlying3 (by kernel_rfl)) (opensFrom_cons rfl (opens_int Tryd.underlying3 (by kernel_rfl)) (opensFrom_cons rfl (opens_int Tryd.underlying3 (by kernel_rfl)) (opensFrom_last rfl (opens_slice Tryd.underlying22 (by kernel_rfl) (by decide) (opens_int Tryd.underlying5 (by kernel_rfl))))))))
theorem op_rep {w : World} {S : Nat → Prop} {cs : List Value} {x : Opd} (h : tOp.rep w S cs x) : ∃ A m cap, cs = [.int .i64 x.kind, .int .i64 x.n, .int .i64 x.d, .slice A m cap] ∧ Sl (tInt .u8) w S A m cap x.data ∧ InK .i64 x.kind ∧ InK .i64 x.n ∧ InK .i64 x.d := by
  obtain ⟨⟨k, n, d, l⟩, rfl, c1, r1, rfl, ⟨rfl, h1⟩, c2, r2, rfl, ⟨rfl, h2⟩, c3, r3, rfl, ⟨rfl, h3⟩, hl⟩ := h
  obtain ⟨A, cap, rfl, hs⟩ := tSlice_iff.1 hl
  exact ⟨A, l.length, cap, rfl, hs, h1, h2, h3⟩
theorem rep_op {w : World} {S : Nat → Prop} {x : Opd} {A : Option Addr} {m cap : Nat} (hl : Sl (tInt .u8) w S A m cap x.data) (h1 : InK .i64 x.kind) (h2 : InK .i64 x.n) (h3 : InK .i64 x.d) : tOp.rep w S [.int .i64 x.kind, .int .i64 x.n, .int .i64 x.d, .slice A m cap] x :=
  ⟨(x.kind, x.n, x.d, x.data), rfl, [_], [_, _, _], rfl, ⟨rfl, h1⟩, [_], [_, _], rfl, ⟨rfl, h2⟩, [_], [_], rfl, ⟨rfl, h3⟩, hl.rep⟩

theorem opLines_walk (k n d : Int) (A : Option Addr) (m cap : Nat) (l : List Int) (s : ByteArray) (w : World) (hs : Sl (tInt .u8) w (blo w.heap.size) A m cap l) (hn : InK .i64 n) (hd : InK .i64 d) (hw : LW w) :
    Calls Tryd.prog 3 #[.agg #[.int .i64 k, .int .i64 n, .int .i64 d, .slice A m cap], .string s] w fun e w' => e = .returned (.bool true) ∧ Below w.heap.size w w' := by
  have FR := Lib.hid (Far.refl w)
  have HL := Lib.hid hw
  have HB := Lib.hid (Old.now hs)
  have NE := Lib.hid hs.n_eq
  have mx : m ≤ 9223372036854775807 := Nat.le_trans hs.cap_le hs.max_le
  have R1 := Lib.hid (fun w => opRight_any k n d A m cap l w NE.out)
  have R2 := Lib.hid (fun w => ropRight_any k n d A m cap l w NE.out)
  have L1 := Lib.hid (fun w h hw => opLine_any k n d A m cap l w h hn hd hw)
  have L2 := Lib.hid (fun w h => ropLine_any k n d A m cap l w h hn hd)
  obtain ⟨rr, hrr⟩ : ∃ x, rightO ⟨k, n, d, l⟩ = x := ⟨_, rfl⟩
  obtain ⟨ln, hln⟩ : ∃ x, lineO ⟨k, n, d, l⟩ = x := ⟨_, rfl⟩
  simp only [hrr] at R1 R2
  simp only [hln] at L1 L2
  have t1 : (ln.toList == ln.toList) = true := by simp
  have t2 : (rr == rr) = true := by simp
  clear hs hn hd hw hrr hln
  obtain ⟨w1, hw_w1⟩ : ∃ nw_, w.alloc (.cells #[.int .i64 k, .int .i64 n, .int .i64 d, .slice A m cap] 24) = nw_ := ⟨_, rfl⟩
  have k_w1 : Below w.heap.size w w1 := by rw [← hw_w1]; exact (Below.refl _ _).alloc (Nat.le_refl _) _
  replace FR := Lib.hid (FR.out.fut k_w1)
  replace HB := Lib.hid (HB.out.fut k_w1)
  have BA := Lib.hid (show Blk w1 w.heap.size 24 #[.int .i64 k, .int .i64 n, .int .i64 d, .slice A m cap] by rw [← hw_w1]; exact Blk.now _ _ _ _ rfl)
  clear k_w1
  have a0 := BA.out.cell 0; have a1 := BA.out.cell 1; have a2 := BA.out.cell 2; have a3 := BA.out.cell 3; simp only [List.getElem?_toArray, List.getElem?_cons_succ, List.getElem?_cons_zero] at a0 a1 a2 a3
  by_cases c1 : 20000 < m
  · have p1 : (20000 : Int) < (m : Int) := by omega
    clear c1
    go_enter Tryd.func3, Tryd.ntmps3
    go_wp2_with fail
    refine (known44_any _ (HL.out.fut FR.out.out)).mono ?_
    rintro e w' ⟨rfl, hb⟩
    replace FR := Lib.hid (FR.out.fut hb)
    clear hb
    go_wp2_with fail
    go_ret
    exact ⟨rfl, FR.out.out⟩
  have p1 : ¬ (20000 : Int) < (m : Int) := by omega
  by_cases c2 : 500 < s.size
  · have p2 : (500 : Int) < (s.size : Int) := by omega
    clear c1 c2
    go_enter Tryd.func3, Tryd.ntmps3
    go_wp2_with fail
    refine (known44_any _ (HL.out.fut FR.out.out)).mono ?_
    rintro e w' ⟨rfl, hb⟩
    replace FR := Lib.hid (FR.out.fut hb)
    clear hb
    go_wp2_with fail
    go_ret
    exact ⟨rfl, FR.out.out⟩
  have p2 : ¬ (500 : Int) < (s.size : Int) := by omega
  have P1 := Lib.hid (fun w hw => opParse_any s w (by omega) hw)
  have P2 := Lib.hid (fun w => ropParse_any s w (by omega))
  simp only [parse_doc] at P1
  obtain ⟨pd, hpd⟩ : ∃ x, docV (cutS s 32) = x := ⟨_, rfl⟩
  simp only [hpd] at P1 P2
  obtain ⟨q, hq⟩ : ∃ x, pd.getD op0 = x := ⟨_, rfl⟩
  obtain ⟨b, hbb⟩ : ∃ x, pd.isSome = x := ⟨_, rfl⟩
  unfold RetP at P1
  unfold RetDP at P2
  simp only [hq, hbb] at P1 P2
  clear hpd hq hbb c1 c2
  cases b
  all_goals
    simp only [Bool.false_eq_true, if_true, if_false] at P1
    go_enter Tryd.func3, Tryd.ntmps3
    go_wp2_with fail
    refine (P1.out _ (HL.out.fut FR.out.out)).mono ?_
    rintro e w2 ⟨D1, m1, q1, rfl, sl, hb⟩
    replace FR := Lib.hid (FR.out.fut hb); replace HB := Lib.hid (HB.out.fut hb); replace BA := Lib.hid (BA.out.fut hb)
    have HP := Lib.hid (Old.now sl.old)
    clear sl hb a0 a1 a2 a3 hw_w1
    have l1 : w.heap.size < w2.heap.size := BA.out.lt
    obtain ⟨w3, hw_w3⟩ : ∃ nw_, w2.alloc (.cells #[.int .i64 0, .int .i64 0, .int .i64 0, .slice none 0 0] 24) = nw_ := ⟨_, rfl⟩
    have k_w3 : Below w2.heap.size w2 w3 := by rw [← hw_w3]; exact (Below.refl _ _).alloc (Nat.le_refl _) _
    replace FR := Lib.hid (FR.out.fut k_w3)
    replace HB := Lib.hid (HB.out.fut k_w3)
    replace BA := Lib.hid (BA.out.fut k_w3)
    replace HP := Lib.hid (HP.out.fut k_w3)
    have BP := Lib.hid (show Blk w3 w2.heap.size 24 #[.int .i64 0, .int .i64 0, .int .i64 0, .slice none 0 0] by rw [← hw_w3]; exact Blk.now _ _ _ _ rfl)
    clear k_w3
    go_wp2_with (first | (refine wpList_store_all rfl 24 (.tmp 5) (.tmp 22) rfl w2.heap.size #[.int .i64 q.kind, .int .i64 q.n, .int .i64 q.d, .slice D1 m1 q1] rfl rfl _ _ BP.out rfl (by kernel_rfl) (by simp [Value.oneCell']) ?_; intro w4 o6 g6; replace FR := Lib.hid (FR.out.away g6 (by omega)); replace HB := Lib.hid (HB.out.away g6 (by omega)); replace HP := Lib.hid (HP.out.away g6 (Nat.le_refl _)); replace BA := Lib.hid (BA.out.away g6 (by omega)); replace BP := Lib.hid o6; clear o6 g6 hw_w3))
    refine (P2.out _).mono ?_
    rintro e w5 ⟨D2, m2, q2, rfl, sl, hb⟩
    replace FR := Lib.hid (FR.out.fut hb); replace HB := Lib.hid (HB.out.fut hb); replace BA := Lib.hid (BA.out.fut hb); replace HP := Lib.hid (HP.out.fut hb); replace BP := Lib.hid (BP.out.fut hb)
    have HW := Lib.hid (Old.now sl.old)
    clear sl hb
    have l2 : w2.heap.size < w5.heap.size := BP.out.lt
    obtain ⟨w6, hw_w6⟩ : ∃ nw_, w5.alloc (.cells #[.int .i64 0, .int .i64 0, .int .i64 0, .slice none 0 0] 24) = nw_ := ⟨_, rfl⟩
    have k_w6 : Below w5.heap.size w5 w6 := by rw [← hw_w6]; exact (Below.refl _ _).alloc (Nat.le_refl _) _
    replace FR := Lib.hid (FR.out.fut k_w6)
    replace HB := Lib.hid (HB.out.fut k_w6)
    replace BA := Lib.hid (BA.out.fut k_w6)
    replace HP := Lib.hid (HP.out.fut k_w6)
    replace BP := Lib.hid (BP.out.fut k_w6)
    replace HW := Lib.hid (HW.out.fut k_w6)
    have BW := Lib.hid (show Blk w6 w5.heap.size 24 #[.int .i64 0, .int .i64 0, .int .i64 0, .slice none 0 0] by rw [← hw_w6]; exact Blk.now _ _ _ _ rfl)
    clear k_w6
    go_upto_region 5 with (first | (refine wpList_store_all rfl 24 (.tmp 7) (.tmp 27) rfl w5.heap.size #[.int .i64 q.kind, .int .i64 q.n, .int .i64 q.d, .slice D2 m2 q2] rfl rfl _ _ BW.out rfl (by kernel_rfl) (by simp [Value.oneCell']) ?_; intro w7 o6 g6; replace FR := Lib.hid (FR.out.away g6 (by omega)); replace HB := Lib.hid (HB.out.away g6 (by omega)); replace HP := Lib.hid (HP.out.away g6 (by omega)); replace HW := Lib.hid (HW.out.away g6 (Nat.le_refl _)); replace BA := Lib.hid (BA.out.away g6 (by omega)); replace BP := Lib.hid (BP.out.away g6 (by omega)); replace BW := Lib.hid o6; clear o6 g6 hw_w6))
    have E1 := Lib.hid (fun x : Ext w7 => calls_ext x (R1.out x.1))
    have E2 := Lib.hid (fun x : Ext w7 => calls_ext x (R2.out x.1))
    have E3 := Lib.hid (fun x : Ext w7 => calls_ext x (L1.out x.1 (HB.out.fut x.2).all (HL.out.fut (FR.out.fut x.2).out)))
    have E4 := Lib.hid (fun x : Ext w7 => calls_ext x (L2.out x.1 (HB.out.fut x.2).all))
    have E5 := Lib.hid (fun x : Ext w7 => calls_ext x (same44_any q.kind q.n q.d q.kind q.n q.d D1 D2 m1 q1 m2 q2 q.data q.data x.1 (HP.out.fut x.2).all (HW.out.fut x.2).all))
    have E6 := Lib.hid (fun x : Ext w7 => calls_ext x (known44_any x.1 (HL.out.fut (FR.out.fut x.2).out)))
    simp only [beq_self_eq_true, Bool.true_and, decide_true] at E5
    have RA := Lib.hid (fun x : Ext w7 => range_blk (off := 0) (vs := [.int .i64 k, .int .i64 n, .int .i64 d, .slice A m cap]) (BA.out.ext x) rfl)
    have RB := Lib.hid (fun x : Ext w7 => range_blk (off := 0) (vs := [.int .i64 q.kind, .int .i64 q.n, .int .i64 q.d, .slice D1 m1 q1]) (BP.out.ext x) rfl)
    have RC := Lib.hid (fun x : Ext w7 => range_blk (off := 0) (vs := [.int .i64 q.kind, .int .i64 q.n, .int .i64 q.d, .slice D2 m2 q2]) (BW.out.ext x) rfl)
    refine wp_region_ext w7 (by kernel_rfl) (by kernel_rfl) (Below.refl _ _) ?_
    refine wpQuiet_load_mid (by kernel_rfl) 24 (.tmp 2) rfl w.heap.size 0 rfl _ _ (by rintro _ ⟨x, rfl⟩; exact RA.out x) Tryd.underlying24 rfl (by kernel_rfl) ?_
    simp only [Act.put, List.getElem_toArray, List.getElem_cons_succ, List.getElem_cons_zero, List.setIfInBounds_toArray, List.set_cons_zero, List.set_cons_succ]
    repeat (go_big_quiet_step ((with_reducible exact E1.out _)))
    refine wpQuiet_load_mid (by kernel_rfl) 24 (.tmp 2) rfl w.heap.size 0 rfl _ _ (by rintro _ ⟨x, rfl⟩; exact RA.out x) Tryd.underlying24 rfl (by kernel_rfl) ?_
    simp only [Act.put, List.getElem_toArray, List.getElem_cons_succ, List.getElem_cons_zero, List.setIfInBounds_toArray, List.set_cons_zero, List.set_cons_succ]
    repeat (go_big_quiet_step ((with_reducible exact E2.out _)))
    refine wpQuiet_load_mid (by kernel_rfl) 24 (.tmp 2) rfl w.heap.size 0 rfl _ _ (by rintro _ ⟨x, rfl⟩; exact RA.out x) Tryd.underlying24 rfl (by kernel_rfl) ?_
    simp only [Act.put, List.getElem_toArray, List.getElem_cons_succ, List.getElem_cons_zero, List.setIfInBounds_toArray, List.set_cons_zero, List.set_cons_succ]
    repeat (go_big_quiet_step ((with_reducible exact E3.out _)))
    refine wpQuiet_load_mid (by kernel_rfl) 24 (.tmp 2) rfl w.heap.size 0 rfl _ _ (by rintro _ ⟨x, rfl⟩; exact RA.out x) Tryd.underlying24 rfl (by kernel_rfl) ?_
    simp only [Act.put, List.getElem_toArray, List.getElem_cons_succ, List.getElem_cons_zero, List.setIfInBounds_toArray, List.set_cons_zero, List.set_cons_succ]
    repeat (go_big_quiet_step ((with_reducible exact E4.out _)))
    refine wpQuiet_load_mid (by kernel_rfl) 24 (.tmp 5) rfl w2.heap.size 0 rfl _ _ (by rintro _ ⟨x, rfl⟩; exact RB.out x) Tryd.underlying24 rfl (by kernel_rfl) ?_
    simp only [Act.put, List.getElem_toArray, List.getElem_cons_succ, List.getElem_cons_zero, List.setIfInBounds_toArray, List.set_cons_zero, List.set_cons_succ]
    refine wpQuiet_load_mid (by kernel_rfl) 24 (.tmp 7) rfl w5.heap.size 0 rfl _ _ (by rintro _ ⟨x, rfl⟩; exact RC.out x) Tryd.underlying24 rfl (by kernel_rfl) ?_
    simp only [Act.put, List.getElem_toArray, List.getElem_cons_succ, List.getElem_cons_zero, List.setIfInBounds_toArray, List.set_cons_zero, List.set_cons_succ]
    repeat (go_big_quiet_step ((with_reducible exact E5.out _)))
    repeat (go_big_quiet_step ((with_reducible exact E6.out _)))
    refine wpQuiet_nil ?_
    rintro wa ⟨⟨_, hb⟩, rfl⟩
    replace FR := Lib.hid (FR.out.fut hb)
    clear hb
    go_wp2_with fail
    go_ret
    exact ⟨rfl, FR.out.out⟩
end Go.Proofs.YthnhknomjepijaaDoor
