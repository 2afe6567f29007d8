/-
  Tensors and points compared (layers 5, 36, 37).
  Conditions: none.
-/
import Derived.Test.YtanglfmolnfjeaaChecked
import Derived.Test.YtanglfmolnfjeaaJ23
import Derived.Test.YtanglfmolnfjeaaJ16
import Derived.Test.YtanglfmolnfjeaaJ12
import Derived.Test.YtanglfmolnfjeaaJ04
namespace Go.Proofs.Ytanglfmolnfjeaa
set_option linter.unusedVariables false
set_option linter.unusedSimpArgs false
open Go.RowKit Go.ChangeShapes Go.WideShapes
set_option maxRecDepth 100000
set_option maxHeartbeats 4000000

/-- '!=' of two aggregates, out of a run of the comparison. -/
theorem wpList_neq_agg {P : Program} {ops : Array Oper} {rest : List Oper} {o : Oper} {a : Act} {w : World} {Q : Exit → Act → World → Prop} (t u : TypeId) (x y : Operand) (ho : o.op = .binOp .neq t x y u) (xs ys : Array Value) (hx : a.eval x = .agg xs) (hy : a.eval y = .agg ys)
    (hw : Region.wanted o (yielded ops a.tmps) = true) (hm : P.eqGuardType P.depth t = false) (b : Bool) (hrun : (Op.equalIn 10000 t (.agg xs) (.agg ys)).run P w = .ok b w) (h : wpList P ops Q rest (a.put o.dst (.bool (!b))) w) : wpList P ops Q (o :: rest) a w := by
  refine BigFrame.wpList_want hw fun K hK => ?_
  unfold Oper.wp execOp
  simp only [ho, hx, hy, Sem.run_bind, fun w => run_eqGuard_agg (P := P) w .neq t x y xs ys hm, run_neq_struct, hrun, Result.andThen_ok, Sem.run_pure]
  exact hK _ _ (by simpa using h)

/-- Tensors that are alike. -/
def likeT (t u : Tensor) : Bool := ([t.h, t.v, t.c] == [u.h, u.v, u.c]) && decide (t.data = u.data)
def tcells (t : Tensor) (A : Option Addr) (n c : Nat) : Array Value := #[.int .i64 t.h, .int .i64 t.v, .int .i64 t.c, .slice A n c]

theorem tensorSame_any (t u : Tensor) (A B : Option Addr) (n c m d : Nat) (w : World) (h : Sl (tInt .i8) w (blo w.heap.size) A n c t.data) (h' : Sl (tInt .i8) w (blo w.heap.size) B m d u.data) :
    Calls Try.prog 19 #[.agg #[.int .i64 t.h, .int .i64 t.v, .int .i64 t.c, .slice A n c], .agg #[.int .i64 u.h, .int .i64 u.v, .int .i64 u.c, .slice B m d]] w fun e w' => e = .returned (.bool (likeT t u)) ∧ Below w.heap.size w w' := by
  obtain ⟨W2, hW2⟩ : ∃ W2, (w.alloc (.cells #[.int .i64 t.h, .int .i64 t.v, .int .i64 t.c, .slice A n c] 26)).alloc (.cells #[.int .i64 u.h, .int .i64 u.v, .int .i64 u.c, .slice B m d] 26) = W2 := ⟨_, rfl⟩
  have g2 : Below w.heap.size w W2 := by rw [← hW2]; exact ((Below.refl _ _).alloc (Nat.le_refl _) _).alloc (by simp) _
  have EQ8 := Lib.hid (equal8_any A B n c m d t.data u.data W2 (h.later g2 (Nat.le_refl _)) (h'.later g2 (Nat.le_refl _)))
  have LV := Lib.hid (show likeT t u = (([t.h, t.v, t.c] == [u.h, u.v, u.c]) && decide (t.data = u.data)) from rfl)
  obtain ⟨h1, v1, c1, l1⟩ := t
  obtain ⟨h2, v2, c2, l2⟩ := u
  simp only at EQ8 LV hW2 ⊢
  have EQ := Lib.hid (fun w => run_eql_st3 (P := Try.prog) (t := 23) (k0 := .i64) (k1 := .i64) (k2 := .i64) w Try.underlying23 (by kernel_rfl) (by decide) ⟨rfl, rfl, rfl⟩ Try.underlying3 Try.underlying3 Try.underlying3 (by kernel_rfl) (by kernel_rfl) (by kernel_rfl) h1 v1 c1 h2 v2 c2)
  obtain ⟨b, hb⟩ : ∃ b, ([h1, v1, c1] == [h2, v2, c2]) = b := ⟨_, rfl⟩
  obtain ⟨b', hb'⟩ : ∃ b, decide (l1 = l2) = b := ⟨_, rfl⟩
  rw [hb, hb'] at LV
  rw [hb] at EQ
  rw [hb'] at EQ8
  rw [LV.out]
  have BA := Lib.hid (show Blk W2 w.heap.size 26 #[.int .i64 h1, .int .i64 v1, .int .i64 c1, .slice A n c] by rw [← hW2]; exact (Blk.now _ _ _ _ rfl).past _)
  have BB := Lib.hid (show Blk W2 (w.heap.size + 1) 26 #[.int .i64 h2, .int .i64 v2, .int .i64 c2, .slice B m d] by rw [← hW2]; exact Blk.now _ _ _ _ (by simp))
  have HW := Lib.hid hW2
  have G2 := Lib.hid g2
  clear hW2 g2 h h' hb hb' LV
  have q0 := BA.out.cell 0
  have q1 := BA.out.cell 1
  have q2 := BA.out.cell 2
  have q3 := BA.out.cell 3
  have r0 := BB.out.cell 0
  have r1 := BB.out.cell 1
  have r2 := BB.out.cell 2
  have r3 := BB.out.cell 3
  go_enter Try.func19, Try.ntmps19
  cases b
  · go_wp2_with (refine wpList_eql_agg 23 _ (.tmp 6) (.tmp 8) rfl _ _ rfl rfl (by kernel_rfl) (by kernel_rfl) _ (EQ.out _) ?_)
    go_ret
    rw [HW.out]
    exact ⟨rfl, G2.out⟩
  · go_wp2_with (refine wpList_eql_agg 23 _ (.tmp 6) (.tmp 8) rfl _ _ rfl rfl (by kernel_rfl) (by kernel_rfl) _ (EQ.out _) ?_)
    rw [HW.out]
    refine EQ8.out.mono ?_
    rintro e w3 ⟨rfl, hb⟩
    have G3 := Lib.hid (below_later hb G2.out)
    clear hb
    cases b'
    all_goals (
      go_wp2_with fail
      go_ret
      exact ⟨rfl, G3.out⟩)

theorem same05_any (t u : Tensor) (A B : Option Addr) (n c m d : Nat) (w : World) (h : Sl (tInt .i8) w (blo w.heap.size) A n c t.data) (h' : Sl (tInt .i8) w (blo w.heap.size) B m d u.data) :
    Calls Try.prog 25 #[.agg #[.int .i64 t.h, .int .i64 t.v, .int .i64 t.c, .slice A n c], .agg #[.int .i64 u.h, .int .i64 u.v, .int .i64 u.c, .slice B m d]] w fun e w' => e = .returned (.bool (likeT t u)) ∧ Below w.heap.size w w' := by
  obtain ⟨W2, hW2⟩ : ∃ W2, (w.alloc (.cells #[.int .i64 t.h, .int .i64 t.v, .int .i64 t.c, .slice A n c] 26)).alloc (.cells #[.int .i64 u.h, .int .i64 u.v, .int .i64 u.c, .slice B m d] 26) = W2 := ⟨_, rfl⟩
  have g2 : Below w.heap.size w W2 := by rw [← hW2]; exact ((Below.refl _ _).alloc (Nat.le_refl _) _).alloc (by simp) _
  have LV := Lib.hid (show likeT t u = (([t.h, t.v, t.c] == [u.h, u.v, u.c]) && decide (t.data = u.data)) from rfl)
  have hm : n ≤ 9223372036854775807 := Nat.le_trans h.cap_le h.max_le
  have hm' : m ≤ 9223372036854775807 := Nat.le_trans h'.cap_le h'.max_le
  obtain ⟨h1, v1, c1, l1⟩ := t
  obtain ⟨h2, v2, c2, l2⟩ := u
  simp only at LV hW2 h h' ⊢
  have EQ := Lib.hid (fun w => run_eql_st3 (P := Try.prog) (t := 23) (k0 := .i64) (k1 := .i64) (k2 := .i64) w Try.underlying23 (by kernel_rfl) (by decide) ⟨rfl, rfl, rfl⟩ Try.underlying3 Try.underlying3 Try.underlying3 (by kernel_rfl) (by kernel_rfl) (by kernel_rfl) h1 v1 c1 h2 v2 c2)
  obtain ⟨b, hb⟩ : ∃ b, ([h1, v1, c1] == [h2, v2, c2]) = b := ⟨_, rfl⟩
  rw [hb] at LV
  rw [hb] at EQ
  rw [LV.out]
  have BA := Lib.hid (show Blk W2 w.heap.size 26 #[.int .i64 h1, .int .i64 v1, .int .i64 c1, .slice A n c] by rw [← hW2]; exact (Blk.now _ _ _ _ rfl).past _)
  have BB := Lib.hid (show Blk W2 (w.heap.size + 1) 26 #[.int .i64 h2, .int .i64 v2, .int .i64 c2, .slice B m d] by rw [← hW2]; exact Blk.now _ _ _ _ (by simp))
  have HW := Lib.hid hW2
  have G2 := Lib.hid g2
  have H := Lib.hid h
  have H' := Lib.hid h'
  clear hW2 g2 h h' hb LV
  have q0 := BA.out.cell 0
  have q1 := BA.out.cell 1
  have q2 := BA.out.cell 2
  have q3 := BA.out.cell 3
  have r0 := BB.out.cell 0
  have r1 := BB.out.cell 1
  have r2 := BB.out.cell 2
  have r3 := BB.out.cell 3
  go_enter Try.func25, Try.ntmps25
  cases b
  · go_wp2_with (refine wpList_neq_agg 23 _ (.tmp 7) (.tmp 9) rfl _ _ rfl rfl (by kernel_rfl) (by kernel_rfl) _ (EQ.out _) ?_)
    go_ret
    rw [HW.out]
    exact ⟨rfl, G2.out⟩
  · by_cases hn : n = m
    rotate_left
    · have d1 : ((n : Int) != (m : Int)) = true := by rw [bne_iff_ne]; omega
      have d2 : decide (l1 = l2) = false := by rw [decide_eq_false_iff_not]; rintro rfl; exact hn (H.out.n_eq.symm.trans H'.out.n_eq)
      rw [d2]
      clear hn
      go_wp2_with (refine wpList_neq_agg 23 _ (.tmp 7) (.tmp 9) rfl _ _ rfl rfl (by kernel_rfl) (by kernel_rfl) _ (EQ.out _) ?_)
      go_ret
      rw [HW.out]
      exact ⟨rfl, G2.out⟩
    subst hn
    have d1 : ((n : Int) != (n : Int)) = false := by simp
    rw [Bool.true_and]
    go_wp2_with (refine wpList_neq_agg 23 _ (.tmp 7) (.tmp 9) rfl _ _ rfl rfl (by kernel_rfl) (by kernel_rfl) _ (EQ.out _) ?_)
    rw [HW.out]
    clear HW q0 q1 q2 q3 r0 r1 r2 r3 EQ
    go_loopw [5] (fun i wr => ∃ k : Nat, k ≤ n ∧ i = .int .i64 k ∧ Below W2.heap.size W2 wr ∧ ∀ j, j < k → l1.getD j 0 = l2.getD j 0) (fun i _ => n - (intOf i).toNat)
    case atStart => exact ⟨0, Nat.zero_le _, rfl, Below.refl _ _, fun j hj => absurd hj (Nat.not_lt_zero _)⟩
    case round =>
      obtain ⟨k, hk, rfl, hb, hq⟩ := hrel
      have HQ := Lib.hid hq
      have HB := Lib.hid hb
      have bA := BA.out.later hb
      have bB := BB.out.later hb
      have a3 : wr.cell? ⟨w.heap.size, 3, none⟩ = some (.slice A n c) := bA.cell 3
      have b3 : wr.cell? ⟨w.heap.size + 1, 3, none⟩ = some (.slice B n d) := bB.cell 3
      have g3 := below_call G2.out hb G2.out.size
      have G3 := Lib.hid g3
      clear hq
      by_cases hlt : k < n
      · have t1 : decide ((k : Int) < (n : Int)) = true := by simp; omega
        obtain ⟨b1, o1, rfl, _, _, e1, _⟩ := (H.out.later g3 (Nat.le_refl _)).int_at k hlt
        obtain ⟨b2, o2, rfl, _, _, e2, _⟩ := (H'.out.later g3 (Nat.le_refl _)).int_at k hlt
        have p0 : (0 : Int) ≤ (k : Int) := by omega
        have p1 : (k : Int) < (n : Int) := by omega
        clear hb bA bB g3 hlt
        by_cases he : l1.getD k 0 = l2.getD k 0
        · rw [← he] at e2
          have HE := Lib.hid he
          obtain ⟨y, hy⟩ : ∃ y, l1.getD k 0 = y := ⟨_, rfl⟩
          rw [hy] at e1 e2
          have ty : (y != y) = false := by simp
          clear he hy
          go_wp2_with fail
          go_quiet (fail)
          have hq : Below W2.heap.size W2 (wr.drewN nq) := below_drewN HB.out nq
          generalize wr.drewN nq = wq at *
          go_wp2_with fail
          refine ⟨⟨k + 1, by omega, by go_num, hq, fun j hj => ?_⟩, by simp [intOf]; omega⟩
          by_cases hjk : j < k
          · exact HQ.out j hjk
          · obtain rfl : j = k := by omega
            exact HE.out
        · have D2 := Lib.hid (show decide (l1 = l2) = false by rw [decide_eq_false_iff_not]; rintro rfl; exact he rfl)
          have ty : (l1.getD k 0 != l2.getD k 0) = true := by rw [bne_iff_ne]; exact he
          clear he
          generalize l1.getD k 0 = y1 at *
          generalize l2.getD k 0 = y2 at *
          go_wp2_with fail
          go_quiet (fail)
          have hq : Below w.heap.size w (wr.drewN nq) := below_drewN G3.out nq
          generalize wr.drewN nq = wq at *
          go_wp2_with fail
          go_ret
          exact ⟨by rw [D2.out]; rfl, hq⟩
      · obtain rfl : k = n := by omega
        have t1 : decide ((k : Int) < (k : Int)) = false := by simp
        clear hb bA bB g3 hlt
        go_wp2_with fail
        go_ret
        exact ⟨by rw [decide_eq_true (list_eq_getD H.out.n_eq H'.out.n_eq HQ.out)]; rfl, G3.out⟩
end Go.Proofs.Ytanglfmolnfjeaa
