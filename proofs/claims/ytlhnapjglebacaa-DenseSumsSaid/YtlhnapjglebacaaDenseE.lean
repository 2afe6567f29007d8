/-
  The walk of the law DenseSums: the sums that any node makes of any tensor, or why it can't, are those of the document.
  Conditions: none.
-/
import Derived.Test.YtlhnapjglebacaaDenseD
set_option linter.unusedVariables false
set_option linter.unusedSimpArgs false
namespace Go.Proofs.Ytlhnapjglebacaa
open Go.RowKit Go.ChangeShapes Go.WideShapes
set_option maxRecDepth 100000

theorem sameAcc_any (t : Tensor) (A A' : Option Addr) (n cap n' cap' : Nat) (w : World) (h : Sl (tInt .i32) w (blo w.heap.size) A n cap t.data) (h' : Sl (tInt .i32) w (blo w.heap.size) A' n' cap' t.data) :
    Calls Try.prog 38 #[.agg #[.int .i64 t.h, .int .i64 t.v, .int .i64 t.c, .slice A n cap], .agg #[.int .i64 t.h, .int .i64 t.v, .int .i64 t.c, .slice A' n' cap']] w fun e w' => e = .returned (.bool true) ∧ Below w.heap.size w w' := by
  have H := Lib.hid h
  have H' := Lib.hid h'
  clear h h'
  go_enter Try.func38, Try.ntmps38
  go_wp2_with fail
  have g1 : Below w.heap.size w ((w.alloc (.cells #[.int .i64 t.h, .int .i64 t.v, .int .i64 t.c, .slice A n cap] 73)).alloc (.cells #[.int .i64 t.h, .int .i64 t.v, .int .i64 t.c, .slice A' n' cap'] 73)) := by go_grown
  refine (same32_any _ _ _ _ _ _ _ _ (H.out.later g1 (Nat.le_refl _)) (H'.out.later g1 (Nat.le_refl _))).mono ?_
  rintro e w' ⟨rfl, hb⟩
  have g2 := below_call g1 hb (by simp; omega)
  clear hb g1
  go_wp2_with fail
  go_ret
  exact ⟨rfl, g2⟩

theorem shapeEnd_some (k out : Int) : ∃ a b c : Int, shapeEnd k out = .returned (.tuple #[.agg #[.int .i64 a, .int .i64 b, .int .i64 c], .int .i64 k]) := by
  unfold shapeEnd; split
  · exact ⟨1, 1, out, rfl⟩
  · exact ⟨0, 0, 0, rfl⟩

theorem denseSums_any (t : Tensor) (A : Option Addr) (n cap : Nat) (d : Node) (W : Option Addr) (nw cw : Nat) (B : Option Addr) (nb cb : Nat) (w : World) (ht : TensorIn t) (hd : NodeIn d)
    (ha : Sl (tInt .i8) w (blo w.heap.size) A n cap t.data) (hw : Sl (tInt .i8) w (blo w.heap.size) W nw cw d.w) (hb : Sl (tInt .i32) w (blo w.heap.size) B nb cb d.bias) :
    Calls Try.prog 9 #[.agg #[.int .i64 t.h, .int .i64 t.v, .int .i64 t.c, .slice A n cap], .agg #[Value.int .i64 d.kind, Value.int .i64 d.a, Value.int .i64 d.b, Value.int .i64 d.k, Value.int .i64 d.s, Value.int .i64 d.p, Value.int .i64 d.out, Value.int .i8 d.za, Value.int .i8 d.zb, Value.slice W nw cw, Value.slice B nb cb, Value.int .i32 d.qm, Value.int .i64 d.qs, Value.int .i8 d.qz, Value.int .i32 d.rm, Value.int .i64 d.rs, Value.int .i8 d.rz, Value.int .i8 d.lo, Value.int .i8 d.hi]] w fun e w' => e = .returned (.bool true) ∧ Below w.heap.size w w' := by
  have HT := Lib.hid ht
  have HD := Lib.hid hd
  have HA := Lib.hid ha
  have HW := Lib.hid hw
  have HB := Lib.hid hb
  clear ht hd ha hw hb
  have bA := (Blk.now w w.heap.size 56 #[.int .i64 t.h, .int .i64 t.v, .int .i64 t.c, .slice A n cap] rfl).past (.cells #[Value.int .i64 d.kind, Value.int .i64 d.a, Value.int .i64 d.b, Value.int .i64 d.k, Value.int .i64 d.s, Value.int .i64 d.p, Value.int .i64 d.out, Value.int .i8 d.za, Value.int .i8 d.zb, Value.slice W nw cw, Value.slice B nb cb, Value.int .i32 d.qm, Value.int .i64 d.qs, Value.int .i8 d.qz, Value.int .i32 d.rm, Value.int .i64 d.rs, Value.int .i8 d.rz, Value.int .i8 d.lo, Value.int .i8 d.hi] 70)
  have bB := Blk.now (w.alloc (.cells #[.int .i64 t.h, .int .i64 t.v, .int .i64 t.c, .slice A n cap] 56)) (w.heap.size + 1) 70 #[Value.int .i64 d.kind, Value.int .i64 d.a, Value.int .i64 d.b, Value.int .i64 d.k, Value.int .i64 d.s, Value.int .i64 d.p, Value.int .i64 d.out, Value.int .i8 d.za, Value.int .i8 d.zb, Value.slice W nw cw, Value.slice B nb cb, Value.int .i32 d.qm, Value.int .i64 d.qs, Value.int .i8 d.qz, Value.int .i32 d.rm, Value.int .i64 d.rs, Value.int .i8 d.rz, Value.int .i8 d.lo, Value.int .i8 d.hi] (by simp)
  have g0 : Below w.heap.size w ((w.alloc (.cells #[.int .i64 t.h, .int .i64 t.v, .int .i64 t.c, .slice A n cap] 56)).alloc (.cells #[Value.int .i64 d.kind, Value.int .i64 d.a, Value.int .i64 d.b, Value.int .i64 d.k, Value.int .i64 d.s, Value.int .i64 d.p, Value.int .i64 d.out, Value.int .i8 d.za, Value.int .i8 d.zb, Value.slice W nw cw, Value.slice B nb cb, Value.int .i32 d.qm, Value.int .i64 d.qs, Value.int .i8 d.qz, Value.int .i32 d.rm, Value.int .i64 d.rs, Value.int .i8 d.rz, Value.int .i8 d.lo, Value.int .i8 d.hi] 70)) := by go_grown
  have BA := Lib.hid bA
  have BB := Lib.hid bB
  have G0 := Lib.hid g0
  clear bA bB g0
  by_cases cf : n ≤ 1024 ∧ nw ≤ 2000 ∧ nb ≤ 200
  rotate_left
  · have hf : decide (n ≤ 1024 ∧ nw ≤ 2000 ∧ nb ≤ 200) = false := by simpa using cf
    have HF := Lib.hid hf
    clear cf hf
    go_enter Try.func9, Try.ntmps9
    go_wp2_with (first
      | (refine wpList_load_row rfl 56 (.tmp 2) rfl w.heap.size rfl _ _ (0, 0) _ BA.out.heap Try.underlying56 rfl (by kernel_rfl) ?_)
      | (refine wpList_load_row rfl 70 (.tmp 3) rfl (w.heap.size + 1) rfl _ _ (0, 0) _ BB.out.heap Try.underlying70 rfl (by kernel_rfl) ?_))
    refine (few_any t A n cap d W nw cw B nb cb _ (Nat.le_trans HA.out.cap_le HA.out.max_le) (Nat.le_trans HW.out.cap_le HW.out.max_le) (Nat.le_trans HB.out.cap_le HB.out.max_le)).mono ?_
    rintro e w1 ⟨rfl, hb⟩
    have g1 := below_call G0.out hb (by simp; omega)
    rw [HF.out]
    clear hb
    go_wp2_with fail
    refine (known18_any _).mono ?_
    rintro e w2 ⟨rfl, hb⟩
    have g2 := below_call g1 hb g1.size
    clear hb
    go_wp2_with fail
    go_ret
    exact ⟨rfl, g2⟩
  have hf : decide (n ≤ 1024 ∧ nw ≤ 2000 ∧ nb ≤ 200) = true := by simpa using cf
  have HF := Lib.hid hf
  clear cf hf
  go_enter Try.func9, Try.ntmps9
  go_wp2_with (first
    | (refine wpList_load_row rfl 56 (.tmp 2) rfl w.heap.size rfl _ _ (0, 0) _ BA.out.heap Try.underlying56 rfl (by kernel_rfl) ?_)
    | (refine wpList_load_row rfl 70 (.tmp 3) rfl (w.heap.size + 1) rfl _ _ (0, 0) _ BB.out.heap Try.underlying70 rfl (by kernel_rfl) ?_))
  refine (few_any t A n cap d W nw cw B nb cb _ (Nat.le_trans HA.out.cap_le HA.out.max_le) (Nat.le_trans HW.out.cap_le HW.out.max_le) (Nat.le_trans HB.out.cap_le HB.out.max_le)).mono ?_
  rintro e w1 ⟨rfl, hb⟩
  have g1 := below_call G0.out hb (by simp; omega)
  have BA := Lib.hid (BA.out.later hb)
  have BB := Lib.hid (BB.out.later hb)
  rw [HF.out]
  clear hb
  go_wp2_with (first
    | (refine wpList_load_row rfl 56 (.tmp 2) rfl w.heap.size rfl _ _ (0, 0) _ BA.out.heap Try.underlying56 rfl (by kernel_rfl) ?_)
    | (refine wpList_load_row rfl 70 (.tmp 3) rfl (w.heap.size + 1) rfl _ _ (0, 0) _ BB.out.heap Try.underlying70 rfl (by kernel_rfl) ?_))
  refine (denseOf_any t A n cap d W nw cw B nb cb _ HT.out HD.out (HA.out.later g1 (Nat.le_refl _)) (HW.out.later g1 (Nat.le_refl _)) (HB.out.later g1 (Nat.le_refl _))).mono ?_
  rintro e w2 ⟨A1, n1, c1, rfl, s1, hb⟩
  have S1 := Lib.hid (s1.more bin_blo)
  have g2 := below_call g1 hb g1.size
  have BA := Lib.hid (BA.out.later hb)
  have BB := Lib.hid (BB.out.later hb)
  clear s1 hb
  have cx := fun w => rdenseOf_any t A n cap d W nw cw B nb cb w HT.out HD.out
  have sx := fun w => denseShape_any t.h t.v t.c d W nw cw B nb cb w HT.out.h HT.out.v HT.out.c HD.out.out HW.out.n_eq.symm HB.out.n_eq.symm (Nat.le_trans HW.out.cap_le HW.out.max_le) (Nat.le_trans HB.out.cap_le HB.out.max_le)
  have rx := fun w => rdenseShape_any t.h t.v t.c d W nw cw B nb cb w HT.out.h HT.out.v HT.out.c HD.out.out HW.out.n_eq.symm HB.out.n_eq.symm (Nat.le_trans HW.out.cap_le HW.out.max_le) (Nat.le_trans HB.out.cap_le HB.out.max_le)
  generalize (denseOf t d).1 = x at *
  generalize (denseOf t d).2 = k at *
  obtain ⟨q0, q1, q2, hq⟩ := shapeEnd_some (denseCode t.h t.v t.c d) d.out
  rw [hq] at sx rx
  generalize denseCode t.h t.v t.c d = k2 at *
  have CX := Lib.hid cx
  have SX := Lib.hid sx
  have RX := Lib.hid rx
  clear cx sx rx hq
  -- the first sums in a variable
  have k3 : Below w2.heap.size w2 (w2.alloc (.cells #[.int .i64 x.h, .int .i64 x.v, .int .i64 x.c, .slice A1 n1 c1] 73)) := (Below.refl _ _).alloc (Nat.le_refl _) _
  have BA := Lib.hid (BA.out.later k3)
  have BB := Lib.hid (BB.out.later k3)
  have B5 := Lib.hid (Blk.now w2 w2.heap.size 73 #[.int .i64 x.h, .int .i64 x.v, .int .i64 x.c, .slice A1 n1 c1] rfl)
  have S1 := Lib.hid (S1.out.later k3 (Nat.le_refl _))
  have g3 := below_call g2 k3 g2.size
  clear k3
  go_wp2_with (first
    | (refine wpList_load_row rfl 56 (.tmp 2) rfl w.heap.size rfl _ _ (0, 0) _ BA.out.heap Try.underlying56 rfl (by kernel_rfl) ?_)
    | (refine wpList_load_row rfl 70 (.tmp 3) rfl (w.heap.size + 1) rfl _ _ (0, 0) _ BB.out.heap Try.underlying70 rfl (by kernel_rfl) ?_))
  refine (CX.out _ (HA.out.later g3 (Nat.le_refl _)) (HW.out.later g3 (Nat.le_refl _)) (HB.out.later g3 (Nat.le_refl _))).mono ?_
  rintro e w4 ⟨A2, n2, c2, rfl, s2, hb⟩
  have S2 := Lib.hid (s2.more bin_blo)
  have g4 := below_call g3 hb g3.size
  have BA := Lib.hid (BA.out.later hb)
  have BB := Lib.hid (BB.out.later hb)
  have B5 := Lib.hid (B5.out.later hb)
  have S1 := Lib.hid (S1.out.later hb (Nat.le_refl _))
  clear s2 hb g3
  have k5 : Below w4.heap.size w4 (w4.alloc (.cells #[.int .i64 x.h, .int .i64 x.v, .int .i64 x.c, .slice A2 n2 c2] 73)) := (Below.refl _ _).alloc (Nat.le_refl _) _
  have BA := Lib.hid (BA.out.later k5)
  have BB := Lib.hid (BB.out.later k5)
  have B5 := Lib.hid (B5.out.later k5)
  have B7 := Lib.hid (Blk.now w4 w4.heap.size 73 #[.int .i64 x.h, .int .i64 x.v, .int .i64 x.c, .slice A2 n2 c2] rfl)
  have S1 := Lib.hid (S1.out.later k5 (Nat.le_refl _))
  have S2 := Lib.hid (S2.out.later k5 (Nat.le_refl _))
  have g5 := below_call g4 k5 g4.size
  have cA := fun i => BA.out.cell i
  clear k5
  go_wp2_with (first
    | (refine wpList_load_row rfl 56 (.tmp 2) rfl w.heap.size rfl _ _ (0, 0) _ BA.out.heap Try.underlying56 rfl (by kernel_rfl) ?_)
    | (refine wpList_load_row rfl 70 (.tmp 3) rfl (w.heap.size + 1) rfl _ _ (0, 0) _ BB.out.heap Try.underlying70 rfl (by kernel_rfl) ?_))
  refine (SX.out _).mono ?_
  rintro e w6 ⟨rfl, hb⟩
  have g6 := below_call g5 hb g5.size
  have BA := Lib.hid (BA.out.later hb)
  have BB := Lib.hid (BB.out.later hb)
  have B5 := Lib.hid (B5.out.later hb)
  have B7 := Lib.hid (B7.out.later hb)
  have S1 := Lib.hid (S1.out.later hb (Nat.le_refl _))
  have S2 := Lib.hid (S2.out.later hb (Nat.le_refl _))
  clear hb g5 cA
  have k7 : Below w6.heap.size w6 (w6.alloc (.cells #[.int .i64 q0, .int .i64 q1, .int .i64 q2] 54)) := (Below.refl _ _).alloc (Nat.le_refl _) _
  have BA := Lib.hid (BA.out.later k7)
  have BB := Lib.hid (BB.out.later k7)
  have B5 := Lib.hid (B5.out.later k7)
  have B7 := Lib.hid (B7.out.later k7)
  have B9 := Lib.hid (Blk.now w6 w6.heap.size 54 #[.int .i64 q0, .int .i64 q1, .int .i64 q2] rfl)
  have S1 := Lib.hid (S1.out.later k7 (Nat.le_refl _))
  have S2 := Lib.hid (S2.out.later k7 (Nat.le_refl _))
  have g7 := below_call g6 k7 g6.size
  have cA := fun i => BA.out.cell i
  clear k7
  go_wp2_with (first
    | (refine wpList_load_row rfl 56 (.tmp 2) rfl w.heap.size rfl _ _ (0, 0) _ BA.out.heap Try.underlying56 rfl (by kernel_rfl) ?_)
    | (refine wpList_load_row rfl 70 (.tmp 3) rfl (w.heap.size + 1) rfl _ _ (0, 0) _ BB.out.heap Try.underlying70 rfl (by kernel_rfl) ?_))
  refine (RX.out _).mono ?_
  rintro e w8 ⟨rfl, hb⟩
  have g8 := below_call g7 hb g7.size
  have B5 := Lib.hid (B5.out.later hb)
  have B7 := Lib.hid (B7.out.later hb)
  have B9 := Lib.hid (B9.out.later hb)
  have S1 := Lib.hid (S1.out.later hb (Nat.le_refl _))
  have S2 := Lib.hid (S2.out.later hb (Nat.le_refl _))
  clear hb g7 cA
  have k9 : Below w8.heap.size w8 (w8.alloc (.cells #[.int .i64 q0, .int .i64 q1, .int .i64 q2] 54)) := (Below.refl _ _).alloc (Nat.le_refl _) _
  have B5 := Lib.hid (B5.out.later k9)
  have B7 := Lib.hid (B7.out.later k9)
  have B9 := Lib.hid (B9.out.later k9)
  have S1 := Lib.hid (S1.out.later k9 (Nat.le_refl _))
  have S2 := Lib.hid (S2.out.later k9 (Nat.le_refl _))
  have g9 := below_call g8 k9 g8.size
  clear k9
  have c5 := fun i => B5.out.cell i
  have c7 := fun i => B7.out.cell i
  go_wp2_with fail
  refine (sameAcc_any x A1 A2 n1 c1 n2 c2 _ S1.out S2.out).mono ?_
  rintro e w10 ⟨rfl, hb⟩
  have g10 := below_call g9 hb g9.size
  have b9 := B9.out.later hb
  have b11 := (Blk.now w8 w8.heap.size 54 #[.int .i64 q0, .int .i64 q1, .int .i64 q2] rfl).later hb
  have c9 := fun i => b9.cell i
  have c11 := fun i => b11.cell i
  clear c5 c7 hb b9 b11
  go_wp2_with fail
  refine (known18_any _).mono ?_
  rintro e w12 ⟨rfl, hb⟩
  have g12 := below_call g10 hb g10.size
  clear hb c9 c11
  go_wp2_with fail
  go_ret
  exact ⟨rfl, g12⟩

theorem denseSums_walk (cs : Array Value) (t : Tensor) {w0 : World} (ht : tTensor.rep w0 (blo w0.heap.size) cs.toList t) (cs' : Array Value) (d : Node) (hd : tNode.rep w0 (blo w0.heap.size) cs'.toList d) (w : World) (e : w0 = w) :
    Calls Try.prog 9 #[.agg cs, .agg cs'] w fun e w' => e = .returned (.bool true) ∧ Below w.heap.size w w' := by
  subst e
  obtain ⟨A, n, cap, e1, k1, k2⟩ := tensor_open ht
  obtain ⟨W, nw, cw, B, nb, cb, e2, k3, k4, k5⟩ := node_open hd
  obtain ⟨cs⟩ := cs
  obtain ⟨cs'⟩ := cs'
  simp only at e1 e2
  subst e1 e2
  exact denseSums_any t A n cap d W nw cw B nb cb _ k1 k3 k2 k4 k5

end Go.Proofs.Ytlhnapjglebacaa
