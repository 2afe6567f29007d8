/-
  Walks of audit (layer 47), third part: the document's Right, the faults' names, known.
  Conditions: none.
-/
import Derived.Test.YtlhnapjglebacaaChecked
import Derived.Test.YtlhnapjglebacaaAuditB
namespace Go.Proofs.Ytlhnapjglebacaa
set_option linter.unusedVariables false
set_option linter.unusedSimpArgs false
open Go.RowKit Go.ChangeShapes Go.WideShapes
set_option maxRecDepth 100000

theorem any_snoc (l : List Exit) (k : Nat) (d : Exit) (h : l[k]? = some d) (p : Exit → Bool) : (l.take (k + 1)).any p = ((l.take k).any p || p d) := by
  rw [take_snoc l k d h]; simp

set_option maxHeartbeats 3200000 in
theorem refRight_any (A : Option Addr) (n cap : Nat) (l : List Exit) (a : Ans) (M : Option Addr) (nm cm : Nat) (w : World) (h : Sl tExit w (blo w.heap.size) A n cap l) (ha : Sl (tInt .i32) w (blo w.heap.size) M nm cm a.logits) :
    Calls Try.prog 24 #[.slice A n cap, .agg #[.int .i64 a.id, .int .i64 a.model, .int .i64 a.block, .int .i64 a.cls, .int .i64 a.margin, .slice M nm cm, .int .i64 a.spent, .int .i64 a.why, .int .i64 a.tick]] w
      fun e w' => e = .returned (.int .i64 (faultOf l a)) ∧ Below w.heap.size w w' := by
  have hm : n ≤ 9223372036854775807 := Nat.le_trans h.cap_le h.max_le
  have H := Lib.hid h
  have HA := Lib.hid ha
  have HN := Lib.hid h.n_eq
  clear h ha
  have bA := Blk.now w w.heap.size 38 #[.int .i64 a.id, .int .i64 a.model, .int .i64 a.block, .int .i64 a.cls, .int .i64 a.margin, .slice M nm cm, .int .i64 a.spent, .int .i64 a.why, .int .i64 a.tick] rfl
  have g0 : Below w.heap.size w (w.alloc (.cells #[.int .i64 a.id, .int .i64 a.model, .int .i64 a.block, .int .i64 a.cls, .int .i64 a.margin, .slice M nm cm, .int .i64 a.spent, .int .i64 a.why, .int .i64 a.tick] 38)) := (Below.refl _ _).alloc (Nat.le_refl _) _
  have BA := Lib.hid bA
  have G0 := Lib.hid g0
  clear bA g0
  go_enter Try.func24, Try.ntmps24
  go_wp2_with fail
  go_loopw [5, 6] (fun s i wr => ∃ k : Nat, k ≤ n ∧ i = .int .i64 k ∧ s = .bool ((l.take k).any fun e => e.v.enough) ∧ Below w.heap.size w wr ∧
    Blk wr w.heap.size 38 #[.int .i64 a.id, .int .i64 a.model, .int .i64 a.block, .int .i64 a.cls, .int .i64 a.margin, .slice M nm cm, .int .i64 a.spent, .int .i64 a.why, .int .i64 a.tick] ∧ ∀ j, j < k → ∀ y, l[j]? = some y → hits a y = false) (fun _ i _ => n - (intOf i).toNat)
  case atStart => exact ⟨0, Nat.zero_le _, rfl, by simp, G0.out, BA.out, fun j hj => absurd hj (Nat.not_lt_zero _)⟩
  case round =>
    clear BA
    obtain ⟨k, hk, rfl, rfl, hb, hB, hq⟩ := hrel
    have HQ := Lib.hid hq
    have G1 := Lib.hid hb
    have BA := Lib.hid hB
    clear hq hb hB
    by_cases hlt : k < n
    rotate_left
    · obtain rfl : k = n := by omega
      have F := Lib.hid (show faultOf l a = 1 by unfold faultOf; rw [find_none (by rw [HN.out]; exact HQ.out)])
      generalize List.any (List.take k l) (fun e => e.v.enough) = pas at *
      go_wp2_with fail
      go_ret
      exact ⟨by rw [F.out]; rfl, G1.out⟩
    have SL := Lib.hid (H.out.below G1.out (fun _ h => h))
    obtain ⟨d, L, nl, cl, b, off, hx, rfl, hS, hbs, hd, hs, c0, c1, c2, c3, c4, c5, c6, c7⟩ := SL.out.exit_at k hlt
    have HX := Lib.hid hx
    have HS := Lib.hid (hs.more (blo_more G1.out.size))
    have AN := Lib.hid (any_snoc l k d hx (fun e => e.v.enough))
    clear hs hx hS hd
    have z1 : w.heap.size < wr.heap.size := BA.out.lt
    have a1 : wr.cell? ⟨w.heap.size, 1, none⟩ = some (.int .i64 a.model) := BA.out.cell 1
    have a2 : wr.cell? ⟨w.heap.size, 2, none⟩ = some (.int .i64 a.block) := BA.out.cell 2
    have a3 : wr.cell? ⟨w.heap.size, 3, none⟩ = some (.int .i64 a.cls) := BA.out.cell 3
    have a4 : wr.cell? ⟨w.heap.size, 4, none⟩ = some (.int .i64 a.margin) := BA.out.cell 4
    have a5 : wr.cell? ⟨w.heap.size, 5, none⟩ = some (.slice M nm cm) := BA.out.cell 5
    have a6 : wr.cell? ⟨w.heap.size, 6, none⟩ = some (.int .i64 a.spent) := BA.out.cell 6
    have K1 := Lib.hid (show Below wr.heap.size wr (wr.alloc (.cells #[.int .i64 d.model, .int .i64 d.block, .int .i64 d.steps, .int .i64 d.spent, .int .i64 d.v.cls, .int .i64 d.v.margin, .slice L nl cl, .bool d.v.enough] 46)) from (Below.refl _ _).alloc (Nat.le_refl _) _)
    have BX := Lib.hid (Blk.now wr wr.heap.size 46 #[.int .i64 d.model, .int .i64 d.block, .int .i64 d.steps, .int .i64 d.spent, .int .i64 d.v.cls, .int .i64 d.v.margin, .slice L nl cl, .bool d.v.enough] rfl)
    have G2 := Lib.hid (below_call G1.out K1.out G1.out.size)
    by_cases hh : hits a d = true
    rotate_left
    · -- not the answer's exit
      have hh2 : hits a d = false := by simpa using hh
      have nx : ∀ j, j < k + 1 → ∀ y, l[j]? = some y → hits a y = false := by
        intro j hj y hy
        by_cases hjk : j < k
        · exact HQ.out j hjk y hy
        · obtain rfl : j = k := by omega
          rw [HX.out] at hy
          cases hy
          exact hh2
      have NX := Lib.hid nx
      have test : (d.model != a.model) = true ∨ (d.model != a.model) = false ∧ (d.block != a.block) = true := by
        unfold hits at hh2
        by_cases q : d.model = a.model
        · exact .inr ⟨by rw [q]; simp, by rw [q] at hh2; simp at hh2; rw [bne_iff_ne]; exact hh2⟩
        · exact .inl (by rw [bne_iff_ne]; exact q)
      clear hh hh2 nx
      generalize hp0 : List.any (List.take k l) (fun e => e.v.enough) = pas at *
      have HP := Lib.hid hp0
      clear hp0
      rcases test with t1 | ⟨t1, t2⟩
      all_goals
        cases pas
        all_goals
          go_wp2_with fail
          exact ⟨⟨k + 1, by omega, by go_num, by rw [AN.out]; simp, G2.out, BA.out.later K1.out, NX.out⟩, by simp [intOf]; omega⟩
    -- the answer's exit
    have hf : l.findIdx? (hits a) = some k := find_some HQ.out HX.out hh
    have F := Lib.hid (show faultOf l a = faultAt l a k d by unfold faultOf; rw [hf]; dsimp only; rw [HX.out])
    have s1 : (d.model != a.model) = false := by
      unfold hits at hh; simp at hh; rw [hh.1]; simp
    have s2 : (d.block != a.block) = false := by
      unfold hits at hh; simp at hh; rw [hh.2]; simp
    clear hh hf
    have e0 : faultAt l a k d = if d.v.cls ≠ a.cls ∨ d.v.margin ≠ a.margin ∨ d.v.logits ≠ a.logits then 2 else if d.spent ≠ a.spent then 3 else if (l.take k).any (fun e => e.v.enough) = true then 4 else if a.why ≠ whyOf d.v.enough ((k : Int) == (n : Int) - 1) true then 5 else 0 := by
      unfold faultAt; rw [HN.out]
    have F := Lib.hid (F.out.trans e0)
    clear e0 AN HQ
    generalize List.any (List.take k l) (fun e => e.v.enough) = pas at *
    by_cases q1 : d.v.cls = a.cls
    rotate_left
    · have t1 : (d.v.cls != a.cls) = true := by rw [bne_iff_ne]; exact q1
      have F2 := Lib.hid (F.out.trans (if_pos (.inl q1)))
      clear q1
      go_wp2_with fail
      go_ret
      exact ⟨by rw [F2.out]; rfl, G2.out⟩
    have t1 : (d.v.cls != a.cls) = false := by rw [q1]; simp
    by_cases q2 : d.v.margin = a.margin
    rotate_left
    · have t2 : (d.v.margin != a.margin) = true := by rw [bne_iff_ne]; exact q2
      have F2 := Lib.hid (F.out.trans (if_pos (.inr (.inl q2))))
      clear q1 q2
      go_wp2_with fail
      go_ret
      exact ⟨by rw [F2.out]; rfl, G2.out⟩
    have t2 : (d.v.margin != a.margin) = false := by rw [q2]; simp
    have Q1 := Lib.hid q1
    have Q2 := Lib.hid q2
    clear q1 q2
    go_wp2_with fail
    refine (same32_all L M nl cl nm cm _ _ _ ((HS.out.keep (fun b hb => ?_)).more (fun b hb => ?_)) (HA.out.later G2.out (Nat.le_refl _))).mono ?_
    · exact K1.out.block b hb
    · exact Nat.lt_of_lt_of_le hb K1.out.size
    rintro e w3 ⟨rfl, hb⟩
    have G3 := Lib.hid (below_call G2.out hb G2.out.size)
    have BA := Lib.hid ((BA.out.later K1.out).later hb)
    have BX := Lib.hid (BX.out.later hb)
    clear hb a1 a2 a3 a4 a5 a6 c0 c1 c2 c3 c4 c5 c6 c7
    by_cases q3 : d.v.logits = a.logits
    rotate_left
    · have F2 := Lib.hid (F.out.trans (if_pos (.inr (.inr q3))))
      rw [decide_eq_false q3]
      clear q3
      go_wp2_with fail
      go_ret
      exact ⟨by rw [F2.out]; rfl, G3.out⟩
    rw [decide_eq_true q3]
    have F := Lib.hid (F.out.trans (if_neg (by rintro (h | h | h); exact h Q1.out; exact h Q2.out; exact h q3)))
    have a6 : w3.cell? ⟨w.heap.size, 6, none⟩ = some (.int .i64 a.spent) := BA.out.cell 6
    have x3 : w3.cell? ⟨wr.heap.size, 3, none⟩ = some (.int .i64 d.spent) := BX.out.cell 3
    clear q3
    by_cases q4 : d.spent = a.spent
    rotate_left
    · have t4 : (d.spent != a.spent) = true := by rw [bne_iff_ne]; exact q4
      have F2 := Lib.hid (F.out.trans (if_pos q4))
      clear q4
      go_wp2_with fail
      go_ret
      exact ⟨by rw [F2.out]; rfl, G3.out⟩
    have t4 : (d.spent != a.spent) = false := by rw [q4]; simp
    have F := Lib.hid (F.out.trans (if_neg (fun h => h q4)))
    clear q4
    cases pas
    rotate_left
    · have F2 := Lib.hid (F.out.trans (if_pos rfl))
      go_wp2_with fail
      go_ret
      exact ⟨by rw [F2.out]; rfl, G3.out⟩
    have F := Lib.hid (F.out.trans (if_neg (by simp)))
    go_wp2_with fail
    have a7 : ∀ x : Ext w3, x.1.cell? ⟨w.heap.size, 7, none⟩ = some (.int .i64 a.why) := fun x => (BA.out.ext x).cell 7
    have x7 : ∀ x : Ext w3, x.1.cell? ⟨wr.heap.size, 7, none⟩ = some (.bool d.v.enough) := fun x => (BX.out.ext x).cell 7
    have E1 := Lib.hid (fun x : Ext w3 => calls_ext x (refWhy_any d.v.enough ((k : Int) == (n : Int) - 1) true x.1))
    refine wp_region_ext w3 (by kernel_rfl) (by kernel_rfl) (Below.refl _ _) ?_
    repeat (go_big_quiet_step ((exact E1.out _)))
    refine wpQuiet_nil ?_
    rintro _ ⟨⟨w5, hB⟩, rfl⟩
    have G5 := Lib.hid (below_call G3.out hB G3.out.size)
    clear hB
    generalize hy : whyOf d.v.enough ((k : Int) == (n : Int) - 1) true = y at *
    have HY := Lib.hid hy
    clear hy
    by_cases q6 : a.why = y
    · have t6 : (a.why != y) = false := by rw [q6]; simp
      have F2 := Lib.hid (F.out.trans (if_neg (fun h => h q6)))
      clear q6
      go_wp2_with fail
      go_ret
      exact ⟨by rw [F2.out]; rfl, G5.out⟩
    · have t6 : (a.why != y) = true := by rw [bne_iff_ne]; exact q6
      have F2 := Lib.hid (F.out.trans (if_pos q6))
      clear q6
      go_wp2_with fail
      go_ret
      exact ⟨by rw [F2.out]; rfl, G5.out⟩
end Go.Proofs.Ytlhnapjglebacaa
