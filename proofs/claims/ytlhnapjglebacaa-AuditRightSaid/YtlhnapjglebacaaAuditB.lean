/-
  Walks of audit (layer 47), second part: the program's Right.
  Conditions: none.
-/
import Derived.Test.YtlhnapjglebacaaChecked
import Derived.Test.YtlhnapjglebacaaAuditA
import Derived.StillTailTactics
namespace Go.Proofs.Ytlhnapjglebacaa
set_option linter.unusedVariables false
set_option linter.unusedSimpArgs false
open Go.RowKit Go.ChangeShapes Go.WideShapes
set_option maxRecDepth 100000

theorem placeOf_cases (p : Exit → Bool) (l : List Exit) : (placeOf p l = -1 ∧ l.findIdx? p = none) ∨ ∃ k, k < l.length ∧ placeOf p l = (k : Int) ∧ l.findIdx? p = some k := by
  unfold placeOf
  cases h : l.findIdx? p with
  | none => exact .inl ⟨rfl, rfl⟩
  | some k =>
    rw [List.findIdx?_eq_some_iff_getElem] at h
    obtain ⟨hk, _, _⟩ := h
    exact .inr ⟨k, hk, rfl, rfl⟩

set_option maxHeartbeats 3200000 in
theorem right_any (A : Option Addr) (n cap : Nat) (l : List Exit) (a : Ans) (M : Option Addr) (nm cm : Nat) (w : World) (h : Sl tExit w (blo w.heap.size) A n cap l) (ha : Sl (tInt .i32) w (blo w.heap.size) M nm cm a.logits) :
    Calls Try.prog 23 #[.slice A n cap, .agg #[.int .i64 a.id, .int .i64 a.model, .int .i64 a.block, .int .i64 a.cls, .int .i64 a.margin, .slice M nm cm, .int .i64 a.spent, .int .i64 a.why, .int .i64 a.tick]] w
      fun e w' => e = .returned (.int .i64 (faultOf l a)) ∧ Below w.heap.size w w' := by
  have hm : n ≤ 9223372036854775807 := Nat.le_trans h.cap_le h.max_le
  have H := Lib.hid h
  have HA := Lib.hid ha
  have HN := Lib.hid h.n_eq
  clear h ha
  have bA := Blk.now w w.heap.size 38 #[.int .i64 a.id, .int .i64 a.model, .int .i64 a.block, .int .i64 a.cls, .int .i64 a.margin, .slice M nm cm, .int .i64 a.spent, .int .i64 a.why, .int .i64 a.tick] rfl
  have g0 : Below w.heap.size w (w.alloc (.cells #[.int .i64 a.id, .int .i64 a.model, .int .i64 a.block, .int .i64 a.cls, .int .i64 a.margin, .slice M nm cm, .int .i64 a.spent, .int .i64 a.why, .int .i64 a.tick] 38)) := (Below.refl _ _).alloc (Nat.le_refl _) _
  have BA := Lib.hid bA
  have G0 := Lib.hid g0
  clear bA g0
  go_enter Try.func23, Try.ntmps23
  go_wp2_with (refine wpList_load_row rfl 38 (.tmp 3) rfl w.heap.size rfl _ _ (0, 0) _ BA.out.heap Try.underlying38 rfl (by kernel_rfl) ?_)
  refine (place_any A n cap l a M nm cm _ (H.out.later G0.out (Nat.le_refl _))).mono ?_
  rintro e w1 ⟨rfl, hb⟩
  have G1 := Lib.hid (below_call G0.out hb (by simp))
  have BA := Lib.hid (BA.out.later hb)
  clear hb
  rcases placeOf_cases (hits a) l with ⟨e, f⟩ | ⟨k, hk, e, f⟩
  · rw [e]
    have F := Lib.hid (show faultOf l a = 1 by unfold faultOf; rw [f])
    clear e f
    go_wp2_with fail
    go_ret
    exact ⟨by rw [F.out]; rfl, G1.out⟩
  rw [e]
  rw [HN.out] at hk
  have SL := Lib.hid (H.out.later G1.out (Nat.le_refl _))
  obtain ⟨d, L, nl, cl, b, off, hx, rfl, hS, hbs, hd, hs, c0, c1, c2, c3, c4, c5, c6, c7⟩ := SL.out.exit_at k hk
  have F := Lib.hid (show faultOf l a = faultAt l a k d by unfold faultOf; rw [f]; dsimp only; rw [hx])
  have HS := Lib.hid hs
  have HD := Lib.hid hd
  clear e f hs hd hx hS
  have z1 : w.heap.size < w1.heap.size := BA.out.lt
  have a3 : w1.cell? ⟨w.heap.size, 3, none⟩ = some (.int .i64 a.cls) := BA.out.cell 3
  have a4 : w1.cell? ⟨w.heap.size, 4, none⟩ = some (.int .i64 a.margin) := BA.out.cell 4
  have a5 : w1.cell? ⟨w.heap.size, 5, none⟩ = some (.slice M nm cm) := BA.out.cell 5
  have a6 : w1.cell? ⟨w.heap.size, 6, none⟩ = some (.int .i64 a.spent) := BA.out.cell 6
  have k1 : Below w1.heap.size w1 ((w1.alloc (.cells #[.int .i64 d.model, .int .i64 d.block, .int .i64 d.steps, .int .i64 d.spent, .int .i64 d.v.cls, .int .i64 d.v.margin, .slice L nl cl, .bool d.v.enough] 43)).alloc
    (.cells #[.int .i64 d.v.cls, .int .i64 d.v.margin, .slice L nl cl, .bool d.v.enough] 41)) := ((Below.refl _ _).alloc (Nat.le_refl _) _).alloc (by simp) _
  have K1 := Lib.hid k1
  have BX := Lib.hid ((Blk.now w1 w1.heap.size 43 #[.int .i64 d.model, .int .i64 d.block, .int .i64 d.steps, .int .i64 d.spent, .int .i64 d.v.cls, .int .i64 d.v.margin, .slice L nl cl, .bool d.v.enough] rfl).past
    (.cells #[.int .i64 d.v.cls, .int .i64 d.v.margin, .slice L nl cl, .bool d.v.enough] 41))
  have BV := Lib.hid (Blk.now (w1.alloc (.cells #[.int .i64 d.model, .int .i64 d.block, .int .i64 d.steps, .int .i64 d.spent, .int .i64 d.v.cls, .int .i64 d.v.margin, .slice L nl cl, .bool d.v.enough] 43)) (w1.heap.size + 1) 41 #[.int .i64 d.v.cls, .int .i64 d.v.margin, .slice L nl cl, .bool d.v.enough] (by simp))
  clear k1
  by_cases q1 : d.v.cls = a.cls
  rotate_left
  · have t1 : (d.v.cls != a.cls) = true := by rw [bne_iff_ne]; exact q1
    have F2 := Lib.hid (F.out.trans (show faultAt l a k d = 2 by unfold faultAt; rw [if_pos (.inl q1)]))
    clear q1
    go_wp2_with fail
    go_ret
    exact ⟨by rw [F2.out]; rfl, below_call G1.out K1.out G1.out.size⟩
  have t1 : (d.v.cls != a.cls) = false := by rw [q1]; simp
  by_cases q2 : d.v.margin = a.margin
  rotate_left
  · have t2 : (d.v.margin != a.margin) = true := by rw [bne_iff_ne]; exact q2
    have F2 := Lib.hid (F.out.trans (show faultAt l a k d = 2 by unfold faultAt; rw [if_pos (.inr (.inl q2))]))
    clear q1 q2
    go_wp2_with fail
    go_ret
    exact ⟨by rw [F2.out]; rfl, below_call G1.out K1.out G1.out.size⟩
  have t2 : (d.v.margin != a.margin) = false := by rw [q2]; simp
  have Q1 := Lib.hid q1
  have Q2 := Lib.hid q2
  clear q1 q2
  go_wp2_with fail
  have g2 := below_call G1.out K1.out G1.out.size
  refine (equal32_any L M nl cl nm cm _ _ _ (HS.out.later K1.out (Nat.le_refl _)) (HA.out.later g2 (Nat.le_refl _))).mono ?_
  rintro e w3 ⟨rfl, hb⟩
  have G3 := Lib.hid (below_call g2 hb g2.size)
  have kb := K1.out.trans (hb.mono (by simp; omega))
  have BA := Lib.hid ((BA.out.later K1.out).later hb)
  have BX := Lib.hid (BX.out.later hb)
  have BV := Lib.hid (BV.out.later hb)
  have KB := Lib.hid kb
  clear hb kb g2 a3 a4 a5 a6 c0 c1 c2 c3 c4 c5 c6 c7
  by_cases q3 : d.v.logits = a.logits
  rotate_left
  · have F2 := Lib.hid (F.out.trans (show faultAt l a k d = 2 by unfold faultAt; rw [if_pos (.inr (.inr q3))]))
    rw [decide_eq_false q3]
    clear q3
    go_wp2_with fail
    go_ret
    exact ⟨by rw [F2.out]; rfl, G3.out⟩
  rw [decide_eq_true q3]
  have a6 : w3.cell? ⟨w.heap.size, 6, none⟩ = some (.int .i64 a.spent) := BA.out.cell 6
  have x3 : w3.cell? ⟨w1.heap.size, 3, none⟩ = some (.int .i64 d.spent) := BX.out.cell 3
  have e3 : faultAt l a k d = if d.spent ≠ a.spent then 3 else if (l.take k).any (fun e => e.v.enough) = true then 4 else if a.why ≠ whyOf d.v.enough ((k : Int) == (l.length : Int) - 1) true then 5 else 0 := by
    unfold faultAt; rw [if_neg]; rintro (h | h | h)
    · exact h Q1.out
    · exact h Q2.out
    · exact h q3
  have F := Lib.hid (F.out.trans e3)
  clear q3 e3
  by_cases q4 : d.spent = a.spent
  rotate_left
  · have t4 : (d.spent != a.spent) = true := by rw [bne_iff_ne]; exact q4
    have F2 := Lib.hid (F.out.trans (if_pos q4))
    clear q4
    go_wp2_with fail
    go_ret
    exact ⟨by rw [F2.out]; rfl, G3.out⟩
  have t4 : (d.spent != a.spent) = false := by rw [q4]; simp
  have F := Lib.hid (F.out.trans (if_neg (fun h => h q4)))
  clear q4
  have hcap : n ≤ cap := H.out.cap_le
  go_wp2_with fail
  have S4 := Lib.hid ((H.out.later G3.out (Nat.le_refl _)).sub 0 k 0 cap (by simp) (by omega) (by omega) (Nat.le_refl _))
  refine (enough_any _ _ _ _ _ (S4.out)).mono ?_
  rintro e w4 ⟨rfl, hb⟩
  have G4 := Lib.hid (below_call G3.out hb G3.out.size)
  have BA := Lib.hid (BA.out.later hb)
  have BV := Lib.hid (BV.out.later hb)
  clear hb a6 x3
  rw [List.drop_zero]
  cases q5 : (l.take k).any (fun e => e.v.enough)
  rotate_left
  · have F2 := Lib.hid (F.out.trans (if_pos q5))
    clear q5
    go_wp2_with fail
    go_ret
    exact ⟨by rw [F2.out]; rfl, G4.out⟩
  have F := Lib.hid (F.out.trans (if_neg (by rw [q5]; simp)))
  clear q5
  go_wp2_with fail
  have a7 : ∀ x : Ext w4, x.1.cell? ⟨w.heap.size, 7, none⟩ = some (.int .i64 a.why) := fun x => (BA.out.ext x).cell 7
  have v0 : ∀ x : Ext w4, x.1.cell? ⟨w1.heap.size + 1, 0, none⟩ = some (.int .i64 d.v.cls) := fun x => (BV.out.ext x).cell 0
  have v1 : ∀ x : Ext w4, x.1.cell? ⟨w1.heap.size + 1, 1, none⟩ = some (.int .i64 d.v.margin) := fun x => (BV.out.ext x).cell 1
  have v2 : ∀ x : Ext w4, x.1.cell? ⟨w1.heap.size + 1, 2, none⟩ = some (.slice L nl cl) := fun x => (BV.out.ext x).cell 2
  have v3 : ∀ x : Ext w4, x.1.cell? ⟨w1.heap.size + 1, 3, none⟩ = some (.bool d.v.enough) := fun x => (BV.out.ext x).cell 3
  have E1 := Lib.hid (fun x : Ext w4 => calls_ext x (pathWhy_any d.v L nl cl ((k : Int) == (n : Int) - 1) true x.1))
  have F := Lib.hid (F.out.trans (show (if a.why ≠ whyOf d.v.enough ((k : Int) == (l.length : Int) - 1) true then (5 : Int) else 0) = if a.why ≠ whyOf d.v.enough ((k : Int) == (n : Int) - 1) true then 5 else 0 by rw [HN.out]))
  refine wp_region_ext w4 (by kernel_rfl) (by kernel_rfl) (Below.refl _ _) ?_
  repeat (go_big_quiet_step ((exact E1.out _)))
  refine wpQuiet_nil ?_
  rintro _ ⟨⟨w5, hB⟩, rfl⟩
  have G5 := Lib.hid (below_call G4.out hB G4.out.size)
  clear hB
  generalize hy : whyOf d.v.enough ((k : Int) == (n : Int) - 1) true = y at *
  have HY := Lib.hid hy
  clear hy
  by_cases q6 : a.why = y
  · have t6 : (a.why != y) = false := by rw [q6]; simp
    have F2 := Lib.hid (F.out.trans (if_neg (fun h => h q6)))
    clear q6
    go_wp2_with fail
    go_ret
    exact ⟨by rw [F2.out]; rfl, G5.out⟩
  · have t6 : (a.why != y) = true := by rw [bne_iff_ne]; exact q6
    have F2 := Lib.hid (F.out.trans (if_pos q6))
    clear q6
    go_wp2_with fail
    go_ret
    exact ⟨by rw [F2.out]; rfl, G5.out⟩
end Go.Proofs.Ytlhnapjglebacaa
