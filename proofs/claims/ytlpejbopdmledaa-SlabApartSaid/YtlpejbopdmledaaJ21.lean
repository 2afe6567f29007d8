/-
  The shape that a node makes (layers 10, 17): conv.Shape, depth.Shape, the document's.
  Conditions: at most 2^20 weights.
  The shape that a node makes (layers 18, 25): what they are, in numbers.
  Conditions: at most 2^20 weights.
  The shape that a node makes (layers 10, 17): conv.Shape, depth.Shape, the document's.
  Conditions: at most 2^20 weights.
-/
import Derived.Test.YtlpejbopdmledaaChecked
import Derived.Test.YtlpejbopdmledaaJ06
import Derived.Test.YtlpejbopdmledaaJ10
import Derived.Test.YtlpejbopdmledaaJ15
namespace Go.Proofs.Ytlpejbopdmledaa
set_option linter.unusedVariables false
set_option linter.unusedSimpArgs false
open Go.RowKit Go.ChangeShapes Go.WideShapes
set_option maxRecDepth 100000


theorem slideV_ok {h v c k s p o : Int} (e : (slideV h v c k s p o).2 = 0) : 1 ≤ k ∧ k ≤ 5 ∧ 1 ≤ o ∧ o ≤ 1024 ∧ 1 ≤ c ∧ c ≤ 1024 := by
  unfold slideV at e
  by_cases c1 : elems h v c = 0
  · rw [if_pos c1] at e; cases e
  rw [if_neg c1] at e
  by_cases c2 : (stepsV h k s p).2 ≠ 0
  · rw [if_pos c2] at e; exact absurd e c2
  rw [if_neg c2] at e
  by_cases c3 : (stepsV v k s p).2 ≠ 0
  · rw [if_pos c3] at e; exact absurd e c3
  rw [if_neg c3] at e
  by_cases c4 : elems (stepsV h k s p).1 (stepsV v k s p).1 o = 0
  · rw [if_pos c4] at e; cases e
  rw [elems_iff] at c1 c4
  have g1 : 1 ≤ c ∧ c ≤ 1024 := by
    split at c1
    · omega
    · exact absurd rfl c1
  have g2 : 1 ≤ o ∧ o ≤ 1024 := by
    split at c4
    · omega
    · exact absurd rfl c4
  have g3 : 1 ≤ k ∧ k ≤ 5 := by
    unfold stepsV at c2
    split at c2
    · rename_i q; unfold stepOk at q; omega
    · exact absurd (by decide) c2
  omega

/-- The weights fit, or they do not. -/
def fitV (x : ShE) (want out : Int) (d : Node) : ShE := if x.2 ≠ 0 then noS x.2 else if ¬ (d.w.length : Int) = want ∨ 16384 < d.w.length ∨ ¬ (d.bias.length : Int) = out then noS 9 else x
def convV (h v c : Int) (d : Node) : ShE := fitV (slideV h v c d.k d.s d.p d.out) (d.out * d.k * d.k * c) d.out d
def depthV (h v c : Int) (d : Node) : ShE := fitV (slideV h v c d.k d.s d.p c) (c * d.k * d.k) c d

theorem prod_bd {a b : Int} {m n : Int} (h1 : 0 ≤ a) (h2 : a ≤ m) (h3 : 0 ≤ b) (h4 : b ≤ n) (hm : 0 ≤ m) : 0 ≤ a * b ∧ a * b ≤ m * n :=
  ⟨Int.mul_nonneg h1 h3, Int.mul_le_mul h2 h4 h3 hm⟩
end Go.Proofs.Ytlpejbopdmledaa
namespace Go.Proofs.Ytlpejbopdmledaa
set_option linter.unusedVariables false
set_option linter.unusedSimpArgs false
open Go.RowKit Go.ChangeShapes Go.WideShapes
set_option maxRecDepth 100000


def denseV (h v c : Int) (d : Node) : ShE := if elems h v c = 0 ∨ elems 1 1 d.out = 0 then noS 5
  else if ¬ (d.w.length : Int) = d.out * elems h v c ∨ 16384 < d.w.length ∨ ¬ (d.bias.length : Int) = d.out then noS 9 else ((1, 1, d.out), 0)
def aroundV (h v c p : Int) : ShE := if p < 0 ∨ 4 < p then noS 2 else if elems (h + 2 * p) (v + 2 * p) c = 0 then noS 5 else ((h + 2 * p, v + 2 * p, c), 0)
def plainV (k h v c h2 v2 c2 p : Int) : ShE := if elems h v c = 0 then noS 5 else if k = 6 ∧ ([h, v, c] == [h2, v2, c2]) = false then noS 5
  else if k = 8 then aroundV h v c p else if k = 9 then ((1, 1, elems h v c), 0) else ((h, v, c), 0)
/-- The shape that a node makes of two, and the error. -/
def shapeV (h v c h2 v2 c2 : Int) (d : Node) : ShE := if d.kind = 1 then convV h v c d else if d.kind = 2 then depthV h v c d else if d.kind = 3 then denseV h v c d
  else if d.kind = 4 ∨ d.kind = 5 then slideV h v c d.k d.s d.p c else plainV d.kind h v c h2 v2 c2 d.p
theorem elems_bd {h v c : Int} (e : ¬ elems h v c = 0) : 1 ≤ h ∧ h ≤ 16 ∧ 1 ≤ v ∧ v ≤ 16 ∧ 1 ≤ c ∧ c ≤ 1024 := by
  rw [elems_iff] at e
  split at e
  · omega
  · exact absurd rfl e

/-- '!=' of two aggregates, out of a run of the comparison. -/
theorem wpList_neq_agg {P : Program} {ops : Array Oper} {rest : List Oper} {o : Oper} {a : Act} {w : World} {Q : Exit → Act → World → Prop} (t u : TypeId) (x y : Operand) (ho : o.op = .binOp .neq t x y u) (xs ys : Array Value) (hx : a.eval x = .agg xs) (hy : a.eval y = .agg ys)
    (hw : Region.wanted o (yielded ops a.tmps) = true) (hm : P.eqGuardType P.depth t = false) (b : Bool) (hrun : (Op.equalIn 10000 t (.agg xs) (.agg ys)).run P w = .ok b w) (h : wpList P ops Q rest (a.put o.dst (.bool (!b))) w) : wpList P ops Q (o :: rest) a w := by
  refine BigFrame.wpList_want hw fun K hK => ?_
  unfold Oper.wp execOp
  simp only [ho, hx, hy, Sem.run_bind, fun w => run_eqGuard_agg (P := P) w .neq t x y xs ys hm, run_neq_struct, hrun, Result.andThen_ok, Sem.run_pure]
  exact hK _ _ (by simpa using h)
theorem eq_shape (w : World) (h v c h2 v2 c2 : Int) : (Op.equalIn 10000 24 (.agg #[.int .i64 h, .int .i64 v, .int .i64 c]) (.agg #[.int .i64 h2, .int .i64 v2, .int .i64 c2])).run Try.prog w = .ok ([h, v, c] == [h2, v2, c2]) w :=
  run_eql_st3 (P := Try.prog) (t := 24) (k0 := .i64) (k1 := .i64) (k2 := .i64) w Try.underlying24 (by kernel_rfl) (by decide) ⟨rfl, rfl, rfl⟩ Try.underlying3 Try.underlying3 Try.underlying3 (by kernel_rfl) (by kernel_rfl) (by kernel_rfl) h v c h2 v2 c2
end Go.Proofs.Ytlpejbopdmledaa
namespace Go.Proofs.Ytlpejbopdmledaa
set_option linter.unusedVariables false
set_option linter.unusedSimpArgs false
open Go.RowKit Go.ChangeShapes Go.WideShapes
set_option maxRecDepth 100000


set_option maxHeartbeats 8000000 in
theorem convShape_any (h v c : Int) (d : Node) (W : Option Addr) (nw cw : Nat) (B : Option Addr) (nb cb : Nat) (w : World) (h0 : InK .i64 h) (h1 : InK .i64 v) (h2 : InK .i64 c) (hout : InK .i64 d.out) (hnw : nw = d.w.length) (hnb : nb = d.bias.length) (mw : nw ≤ 1048576) (mb : nb ≤ 1048576) :
    Calls Try.prog 49 #[.agg #[.int .i64 h, .int .i64 v, .int .i64 c], .agg #[.int .i64 d.kind, .int .i64 d.a, .int .i64 d.b, .int .i64 d.k, .int .i64 d.s, .int .i64 d.p, .int .i64 d.out, .int .i8 d.za, .int .i8 d.zb, .slice W nw cw, .slice B nb cb, .int .i32 d.qm, .int .i64 d.qs, .int .i8 d.qz, .int .i32 d.rm, .int .i64 d.rs, .int .i8 d.rz, .int .i8 d.lo, .int .i8 d.hi]] w fun e w' => e = retS (convV h v c d) ∧ Below w.heap.size w w' := by
  obtain ⟨r, hr⟩ : ∃ r, convV h v c d = r := ⟨_, rfl⟩
  rw [hr]
  unfold convV fitV at hr
  rw [← hnw, ← hnb] at hr
  have OK := Lib.hid (slideV_ok (h := h) (v := v) (c := c) (k := d.k) (s := d.s) (p := d.p) (o := d.out))
  have SL := Lib.hid (fun w => slide_any h v c d.k d.s d.p d.out w h0 h1 h2 hout)
  obtain ⟨⟨⟨x1, x2, x3⟩, xe⟩, hx⟩ : ∃ x, slideV h v c d.k d.s d.p d.out = x := ⟨_, rfl⟩
  rw [hx] at hr OK SL
  simp only [retS] at SL
  have VV := Lib.hid hr.symm
  clear hx hr h0 h1 h2 hout hnw hnb
  have FR := Lib.hid (Far.refl w)
  obtain ⟨w1, hw_w1⟩ : ∃ nw_, w.alloc (.cells #[.int .i64 h, .int .i64 v, .int .i64 c] 24) = nw_ := ⟨_, rfl⟩
  have k_w1 : Below w.heap.size w w1 := by rw [← hw_w1]; exact (Below.refl _ _).alloc (Nat.le_refl _) _
  replace FR := Lib.hid (FR.out.fut k_w1)
  have BA := Lib.hid (show Blk w1 w.heap.size 24 #[.int .i64 h, .int .i64 v, .int .i64 c] by rw [← hw_w1]; exact Blk.now _ _ _ _ rfl)
  clear k_w1
  obtain ⟨w2, hw_w2⟩ : ∃ nw_, w1.alloc (.cells #[.int .i64 d.kind, .int .i64 d.a, .int .i64 d.b, .int .i64 d.k, .int .i64 d.s, .int .i64 d.p, .int .i64 d.out, .int .i8 d.za, .int .i8 d.zb, .slice W nw cw, .slice B nb cb, .int .i32 d.qm, .int .i64 d.qs, .int .i8 d.qz, .int .i32 d.rm, .int .i64 d.rs, .int .i8 d.rz, .int .i8 d.lo, .int .i8 d.hi] 53) = nw_ := ⟨_, rfl⟩
  have k_w2 : Below w1.heap.size w1 w2 := by rw [← hw_w2]; exact (Below.refl _ _).alloc (Nat.le_refl _) _
  replace FR := Lib.hid (FR.out.fut k_w2)
  replace BA := Lib.hid (BA.out.fut k_w2)
  have BN := Lib.hid (show Blk w2 w1.heap.size 53 #[.int .i64 d.kind, .int .i64 d.a, .int .i64 d.b, .int .i64 d.k, .int .i64 d.s, .int .i64 d.p, .int .i64 d.out, .int .i8 d.za, .int .i8 d.zb, .slice W nw cw, .slice B nb cb, .int .i32 d.qm, .int .i64 d.qs, .int .i8 d.qz, .int .i32 d.rm, .int .i64 d.rs, .int .i8 d.rz, .int .i8 d.lo, .int .i8 d.hi] by rw [← hw_w2]; exact Blk.now _ _ _ _ rfl)
  clear k_w2
  obtain ⟨w3, hw_w3⟩ : ∃ nw_, w2.alloc (.cells #[.int .i64 0, .int .i64 0, .int .i64 0] 24) = nw_ := ⟨_, rfl⟩
  have k_w3 : Below w2.heap.size w2 w3 := by rw [← hw_w3]; exact (Below.refl _ _).alloc (Nat.le_refl _) _
  replace FR := Lib.hid (FR.out.fut k_w3)
  replace BA := Lib.hid (BA.out.fut k_w3)
  replace BN := Lib.hid (BN.out.fut k_w3)
  have BR := Lib.hid (show Blk w3 w2.heap.size 24 #[.int .i64 0, .int .i64 0, .int .i64 0] by rw [← hw_w3]; exact Blk.now _ _ _ _ rfl)
  clear k_w3
  have l1 : w.heap.size < w1.heap.size := by rw [← hw_w1]; simp
  have l2 : w1.heap.size < w2.heap.size := by rw [← hw_w2]; simp
  have a2 := BA.out.cell 2
  have n3 := BN.out.cell 3
  have n4 := BN.out.cell 4
  have n5 := BN.out.cell 5
  have n6 := BN.out.cell 6
  go_enter Try.func49, Try.ntmps49
  go_wp2_with (refine wpList_load_row rfl 24 (.tmp 2) rfl w.heap.size rfl _ _ (0, 0) _ BA.out.heap Try.underlying24 rfl (by kernel_rfl) ?_)
  clear hw_w1 hw_w2 hw_w3 a2 n3 n4 n5 n6
  refine (SL.out _).mono ?_
  rintro e w4 ⟨rfl, hb⟩
  replace FR := Lib.hid (FR.out.fut hb)
  replace BA := Lib.hid (BA.out.fut hb)
  replace BN := Lib.hid (BN.out.fut hb)
  replace BR := Lib.hid (BR.out.fut hb)
  clear hb
  have l3 : w2.heap.size < w4.heap.size := BR.out.lt
  obtain ⟨w5, hw_w5⟩ : ∃ nw_, w4.alloc (.cells #[.int .i64 0, .int .i64 0, .int .i64 0] 24) = nw_ := ⟨_, rfl⟩
  have k_w5 : Below w4.heap.size w4 w5 := by rw [← hw_w5]; exact (Below.refl _ _).alloc (Nat.le_refl _) _
  replace FR := Lib.hid (FR.out.fut k_w5)
  replace BA := Lib.hid (BA.out.fut k_w5)
  replace BN := Lib.hid (BN.out.fut k_w5)
  replace BR := Lib.hid (BR.out.fut k_w5)
  have BT := Lib.hid (show Blk w5 w4.heap.size 24 #[.int .i64 0, .int .i64 0, .int .i64 0] by rw [← hw_w5]; exact Blk.now _ _ _ _ rfl)
  clear k_w5
  clear SL
  by_cases hxe : xe = 0
  rotate_left
  · have tx : (xe != 0) = true := by simpa using hxe
    have R := Lib.hid (show r = noS xe by rw [VV.out, if_pos hxe])
    clear hxe VV OK
    go_wp2_with (first
      | (refine wpList_store_all rfl 24 (.tmp 6) (.tmp 19) rfl w4.heap.size #[.int .i64 x1, .int .i64 x2, .int .i64 x3] rfl rfl _ _ BT.out rfl (by kernel_rfl) (by simp [Value.oneCell']) ?_; intro w6 BT6 g6; have a2 := (BA.out.away g6 (by omega)).cell 2; have n3 := (BN.out.away g6 (by omega)).cell 3; have n6 := (BN.out.away g6 (by omega)).cell 6; have n9 := (BN.out.away g6 (by omega)).cell 9; have n10 := (BN.out.away g6 (by omega)).cell 10; have BR6 := Lib.hid (BR.out.away g6 (by omega)); have FR6 := Lib.hid (FR.out.away g6 (by omega)))
      | (refine wpList_store_all rfl 24 (.tmp 4) (.tmp 23) rfl w2.heap.size #[.int .i64 0, .int .i64 0, .int .i64 0] rfl rfl _ _ BR6.out rfl (by kernel_rfl) (by simp [Value.oneCell']) ?_; intro w7 BR7 g7))
    refine ret_cell_tmp rfl BR7 rfl Try.underlying24 (by kernel_rfl) rfl ⟨by rw [R.out]; rfl, (FR6.out.away g7 (by omega)).out⟩
  subst hxe
  have tx : ((0 : Int) != 0) = false := rfl
  have ok := OK.out rfl
  obtain ⟨m1, hm1⟩ : ∃ m, d.out * d.k = m := ⟨_, rfl⟩
  have b1 := prod_bd (a := d.out) (b := d.k) (m := 1024) (n := 5) (by omega) (by omega) (by omega) (by omega) (by omega)
  rw [hm1] at b1
  obtain ⟨m2, hm2⟩ : ∃ m, m1 * d.k = m := ⟨_, rfl⟩
  have b2 := prod_bd (a := m1) (b := d.k) (m := 1024 * 5) (n := 5) (by omega) (by omega) (by omega) (by omega) (by omega)
  rw [hm2] at b2
  obtain ⟨m3, hm3⟩ : ∃ m, m2 * c = m := ⟨_, rfl⟩
  have b3 := prod_bd (a := m2) (b := c) (m := 1024 * 5 * 5) (n := 1024) (by omega) (by omega) (by omega) (by omega) (by omega)
  rw [hm3] at b3
  have e1 : IntKind.i64.wrap (d.out * d.k) = m1 := by rw [hm1]; exact IntWalk.i64_in _ (by omega)
  have e2 : IntKind.i64.wrap (m1 * d.k) = m2 := by rw [hm2]; exact IntWalk.i64_in _ (by omega)
  have e3 : IntKind.i64.wrap (m2 * c) = m3 := by rw [hm3]; exact IntWalk.i64_in _ (by omega)
  rw [hm1, hm2, hm3] at VV
  clear hm1 hm2 hm3 b1 b2 b3 ok OK
  have V2 := Lib.hid (show r = (if ¬ (nw : Int) = m3 ∨ 16384 < nw ∨ ¬ (nb : Int) = d.out then noS 9 else ((x1, x2, x3), 0)) from VV.out)
  clear VV
  by_cases p1 : (nw : Int) = m3
  rotate_left
  · have t1 : ((nw : Int) != m3) = true := by simpa using p1
    have R := Lib.hid (show r = noS 9 by rw [V2.out, if_pos (.inl p1)])
    clear V2 p1
    go_wp2_with (first
      | (refine wpList_store_all rfl 24 (.tmp 6) (.tmp 19) rfl w4.heap.size #[.int .i64 x1, .int .i64 x2, .int .i64 x3] rfl rfl _ _ BT.out rfl (by kernel_rfl) (by simp [Value.oneCell']) ?_; intro w6 BT6 g6; have a2 := (BA.out.away g6 (by omega)).cell 2; have n3 := (BN.out.away g6 (by omega)).cell 3; have n6 := (BN.out.away g6 (by omega)).cell 6; have n9 := (BN.out.away g6 (by omega)).cell 9; have n10 := (BN.out.away g6 (by omega)).cell 10; have BR6 := Lib.hid (BR.out.away g6 (by omega)); have FR6 := Lib.hid (FR.out.away g6 (by omega)))
      | (refine wpList_store_all rfl 24 (.tmp 4) (.tmp 54) rfl w2.heap.size #[.int .i64 0, .int .i64 0, .int .i64 0] rfl rfl _ _ BR6.out rfl (by kernel_rfl) (by simp [Value.oneCell']) ?_; intro w7 BR7 g7))
    refine ret_cell_tmp rfl BR7 rfl Try.underlying24 (by kernel_rfl) rfl ⟨by rw [R.out]; rfl, (FR6.out.away g7 (by omega)).out⟩
  have t1 : ((nw : Int) != m3) = false := by simpa using p1
  have P1 := Lib.hid p1
  clear p1
  by_cases p2 : 16384 < nw
  · have t2 : decide (16384 < (nw : Int)) = true := by simp; omega
    have R := Lib.hid (show r = noS 9 by rw [V2.out, if_pos (.inr (.inl p2))])
    clear V2 p2
    go_wp2_with (first
      | (refine wpList_store_all rfl 24 (.tmp 6) (.tmp 19) rfl w4.heap.size #[.int .i64 x1, .int .i64 x2, .int .i64 x3] rfl rfl _ _ BT.out rfl (by kernel_rfl) (by simp [Value.oneCell']) ?_; intro w6 BT6 g6; have a2 := (BA.out.away g6 (by omega)).cell 2; have n3 := (BN.out.away g6 (by omega)).cell 3; have n6 := (BN.out.away g6 (by omega)).cell 6; have n9 := (BN.out.away g6 (by omega)).cell 9; have n10 := (BN.out.away g6 (by omega)).cell 10; have BR6 := Lib.hid (BR.out.away g6 (by omega)); have FR6 := Lib.hid (FR.out.away g6 (by omega)))
      | (refine wpList_store_all rfl 24 (.tmp 4) (.tmp 54) rfl w2.heap.size #[.int .i64 0, .int .i64 0, .int .i64 0] rfl rfl _ _ BR6.out rfl (by kernel_rfl) (by simp [Value.oneCell']) ?_; intro w7 BR7 g7))
    refine ret_cell_tmp rfl BR7 rfl Try.underlying24 (by kernel_rfl) rfl ⟨by rw [R.out]; rfl, (FR6.out.away g7 (by omega)).out⟩
  have t2 : decide (16384 < (nw : Int)) = false := by simp; omega
  have P2 := Lib.hid p2
  clear p2
  by_cases p3 : (nb : Int) = d.out
  rotate_left
  · have t3 : ((nb : Int) != d.out) = true := by simpa using p3
    have R := Lib.hid (show r = noS 9 by rw [V2.out, if_pos (.inr (.inr p3))])
    clear V2 p3
    go_wp2_with (first
      | (refine wpList_store_all rfl 24 (.tmp 6) (.tmp 19) rfl w4.heap.size #[.int .i64 x1, .int .i64 x2, .int .i64 x3] rfl rfl _ _ BT.out rfl (by kernel_rfl) (by simp [Value.oneCell']) ?_; intro w6 BT6 g6; have a2 := (BA.out.away g6 (by omega)).cell 2; have n3 := (BN.out.away g6 (by omega)).cell 3; have n6 := (BN.out.away g6 (by omega)).cell 6; have n9 := (BN.out.away g6 (by omega)).cell 9; have n10 := (BN.out.away g6 (by omega)).cell 10; have BR6 := Lib.hid (BR.out.away g6 (by omega)); have FR6 := Lib.hid (FR.out.away g6 (by omega)))
      | (refine wpList_store_all rfl 24 (.tmp 4) (.tmp 54) rfl w2.heap.size #[.int .i64 0, .int .i64 0, .int .i64 0] rfl rfl _ _ BR6.out rfl (by kernel_rfl) (by simp [Value.oneCell']) ?_; intro w7 BR7 g7))
    refine ret_cell_tmp rfl BR7 rfl Try.underlying24 (by kernel_rfl) rfl ⟨by rw [R.out]; rfl, (FR6.out.away g7 (by omega)).out⟩
  have t3 : ((nb : Int) != d.out) = false := by simpa using p3
  have R := Lib.hid (show r = ((x1, x2, x3), 0) by rw [V2.out, if_neg (by rintro (h | h | h); exact h P1.out; exact P2.out h; exact h p3)])
  clear V2 p3
  go_wp2_with (first
    | (refine wpList_store_all rfl 24 (.tmp 6) (.tmp 19) rfl w4.heap.size #[.int .i64 x1, .int .i64 x2, .int .i64 x3] rfl rfl _ _ BT.out rfl (by kernel_rfl) (by simp [Value.oneCell']) ?_; intro w6 BT6 g6; have a2 := (BA.out.away g6 (by omega)).cell 2; have n3 := (BN.out.away g6 (by omega)).cell 3; have n6 := (BN.out.away g6 (by omega)).cell 6; have n9 := (BN.out.away g6 (by omega)).cell 9; have n10 := (BN.out.away g6 (by omega)).cell 10; have BR6 := Lib.hid (BR.out.away g6 (by omega)); have FR6 := Lib.hid (FR.out.away g6 (by omega)))
    | (refine wpList_load_row rfl 24 (.tmp 6) rfl w4.heap.size rfl _ _ (0, 0) _ BT6.heap Try.underlying24 rfl (by kernel_rfl) ?_)
    | (refine wpList_store_all rfl 24 (.tmp 4) (.tmp 55) rfl w2.heap.size #[.int .i64 x1, .int .i64 x2, .int .i64 x3] rfl rfl _ _ BR6.out rfl (by kernel_rfl) (by simp [Value.oneCell']) ?_; intro w7 BR7 g7))
  refine ret_cell_tmp rfl BR7 rfl Try.underlying24 (by kernel_rfl) rfl ⟨by rw [R.out]; rfl, (FR6.out.away g7 (by omega)).out⟩
end Go.Proofs.Ytlpejbopdmledaa
