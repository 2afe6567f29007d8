/-
  rank.Order, Margin, Top (layer 22), the document's Order; the law's fixed calls.
  Conditions: at most 2^40 numbers.
-/
import Derived.Test.YtlbijkafcododaaChecked
import Derived.Test.YtlbijkafcododaaRankC
import Derived.Test.YtlbijkafcododaaInts
namespace Go.Proofs.Ytlbijkafcododaa
set_option linter.unusedVariables false
set_option linter.unusedSimpArgs false
open Go.RowKit Go.ChangeShapes Go.WideShapes Go.Proofs.Ytlbijkafcododaa.Rk
set_option maxRecDepth 100000

theorem ordI_len (l : List Int) : (ordI l).length = l.length := by
  unfold ordI; rw [List.length_map, (refOrder_is l).len]
theorem ordI_at (l : List Int) (m : Nat) (h : m < l.length) : (ordI l).getD m 0 = (((refOrder l).getD m 0 : Nat) : Int) ∧ (refOrder l).getD m 0 < l.length := by
  obtain ⟨h1, h2⟩ := (refOrder_is l).getD m h
  refine ⟨?_, h1⟩
  unfold ordI
  simp only [List.getD_eq_getElem?_getD, List.getElem?_map]
  rw [List.getElem?_eq_getElem (by rw [(refOrder_is l).len]; exact h)]
  rfl

theorem cells_of_own {w : World} {base n g c : Nat} {l : List Int} {E : TypeId} (h : Own (tInt .i64) w (fun _ => False) base E (.slice (some ⟨g, 0, none⟩) n c) n l) (i : Nat) (hi : i < n) :
    w.cell? ⟨g, 0 + i, none⟩ = some (.int .i64 (l.getD i 0)) ∧ w.frozen? ⟨g, 0 + i, none⟩ = false := by
  obtain ⟨x, u, hx, ⟨hu, _⟩, hc, hf, _⟩ := h.cell rfl i hi
  rw [Nat.zero_add, hc, hf]
  have : l.getD i 0 = x := by rw [List.getD_eq_getElem?_getD, hx]; rfl
  rw [this]
  injection hu with hu _
  rw [hu]
  exact ⟨rfl, rfl⟩

set_option maxHeartbeats 2000000 in
theorem sortNone_any (F : Value) (w : World) : Calls Try.prog 84 #[.slice none 0 0, F] w fun e w' => e = .returned (.tuple #[]) ∧ w = w' := by
  have ins : ∀ w, Calls Try.prog 164 #[.slice none 0 0, .int .i64 0, .int .i64 0, F] w fun e w' => e = .returned (.tuple #[]) ∧ w = w' := by
    intro w
    go_enter Try.func164, Try.ntmps164
    go_wp2_with fail
    refine wp_loop_rounds 1 ?_
    rw [rounds_succ]
    go_wp2_with fail
    refine bodyPost_end (results_none rfl _ _ _) rfl ?_
    exact ⟨rfl, rfl⟩
  have st : ∀ w, Calls Try.prog 129 #[.slice none 0 0, .int .i64 0, F] w fun e w' => e = .returned (.tuple #[]) ∧ w = w' := by
    intro w
    go_enter Try.func129, Try.ntmps129
    go_wp2_with fail
    refine wp_loop_rounds 1 ?_
    rw [rounds_succ]
    go_wp2_with fail
    refine (ins w).mono ?_
    rintro e w1 ⟨rfl, rfl⟩
    go_wp2_with fail
    refine wp_loop_rounds 1 ?_
    rw [rounds_succ]
    go_wp2_with fail
    refine bodyPost_end (results_none rfl _ _ _) rfl ?_
    exact ⟨rfl, rfl⟩
  clear ins
  go_enter Try.func84, Try.ntmps84
  go_wp2_with fail
  refine (st w).mono ?_
  rintro e w1 ⟨rfl, rfl⟩
  go_wp2_with fail
  refine bodyPost_end (results_none rfl _ _ _) rfl ?_
  exact ⟨rfl, rfl⟩

set_option maxHeartbeats 2000000 in
theorem rankOrder_any (A : Option Addr) (n cap : Nat) (l : List Int) (w : World) (h : Sl (tInt .i32) w (blo w.heap.size) A n cap l) (hn : n ≤ 1099511627776) :
    Calls Try.prog 39 #[.slice A n cap] w (RetSl (tInt .i64) w (ordI l)) := by
  have hl := Lib.hid h.n_eq
  have H := Lib.hid h
  clear h
  obtain ⟨w0, hw0⟩ : ∃ w0, w.alloc (.cells #[.slice A n cap] 43) = w0 := ⟨_, rfl⟩
  have sz : w0.heap.size = w.heap.size + 1 := by rw [← hw0]; simp
  have cw : w0.cell? ⟨w.heap.size, 0, none⟩ = some (.slice A n cap) := by rw [← hw0]; simp
  have hB : Below w.heap.size w w0 := by rw [← hw0]; exact (Below.refl _ _).alloc (Nat.le_refl _) _
  have HB := Lib.hid hB
  have SZ := Lib.hid sz
  have sz1 : w0.heap.size ≤ w.heap.size + 1 := by omega
  have sz2 : w.heap.size + 1 ≤ w0.heap.size := by omega
  have CW := Lib.hid cw
  clear hB sz
  go_enter Try.func39, Try.ntmps39
  go_wp2_with fail
  have HW0 := Lib.hid hw0
  clear hw0 cw
  go_loopw [3, 7] (fun v i wr => ∃ k : Nat, k ≤ n ∧ i = .int .i64 k ∧ Hid (k = 0 → v = .slice none 0 0) ∧ Below w0.heap.size w0 wr ∧ Own (tInt .i64) wr (fun _ => False) w0.heap.size 3 v k ((List.range k).map fun i : Nat => (i : Int))) (fun _ i _ => n - (intOf i).toNat)
  case atStart => exact ⟨0, Nat.zero_le _, rfl, Lib.hid (fun _ => rfl), Below.refl _ _, Own.nil _ _ _ _ _⟩
  case round =>
    obtain ⟨k, hk, rfl, HZ, hb, hown⟩ := hrel
    by_cases hlt : k < n
    · have t1 : decide ((k : Int) < (n : Int)) = true := by simp; omega
      have HO := Lib.hid hown
      have hbs := hb.size
      clear hown
      go_wp2_with (at_builtin; refine wpList_push (t := tInt .i64) rfl _ _ rfl ei_int (v := u3) rfl HO.out 1 rfl _ ⟨rfl, by rw [inK_i64]; omega⟩ (by unfold maxLen; omega) (by omega) (by omega) (fun _ h => h.elim) ?_; intro v' w3 ho3 hg3 _)
      refine ⟨⟨k + 1, by omega, by go_num, Lib.hid (fun h => by omega), hb.grown hg3 hbs (fun k h => (HO.out.lt k h).1), ?_⟩, by simp [intOf]; omega⟩
      rw [List.range_succ, List.map_append]
      simpa using ho3
    · obtain rfl : k = n := by omega
      have t1 : decide ((k : Int) < (k : Int)) = false := by simp
      have hbs := hb.size
      have HO := Lib.hid hown
      have HB2 := Lib.hid hb
      have own2 := hown
      clear hown hb
      have hlt := HO.out.lt
      obtain ⟨vs, o1, o2⟩ := own2.out
      rcases o1.2 with ⟨rfl, rfl⟩ | ⟨g, cp, cur, rfl, hg, hh, k1, k2, k3, k4⟩
      · have hk0 := own2.length (by decide)
        have hr := o2.len
        simp [tInt] at hr
        subst hr
        have hl0 : l = [] := List.length_eq_zero_iff.1 hl.out
        have HL0 := Lib.hid hl0
        clear o1 o2 hk0 own2 hlt hl0 HZ
        go_wp2_with fail
        refine (sortNone_any _ wr).mono ?_
        rintro e w1 ⟨rfl, rfl⟩
        go_wp2_with fail
        go_ret
        refine ⟨none, 0, 0, rfl, ?_, ?_⟩
        · rw [HL0.out]; exact Sl.nil _ _ _
        · exact HB.out.trans (HB2.out.mono (by omega))
      · have hg3 := hlt g rfl
        have h0 : 0 < k := by
          rcases Nat.eq_zero_or_pos k with h | h
          · have := HZ.out h
            simp at this
          · exact h
        have S := Lib.hid (sortPlaces_any A k cap l w.heap.size g cp wr ((H.out.below HB.out (fun _ h => h)).below HB2.out (fun b hb => by have : b < w.heap.size := hb; omega)) h0 (by omega) (by omega) hg3.2 hn k1 k2 (by rw [HB2.out.cell (p := ⟨w.heap.size, 0, none⟩) (by show w.heap.size < _; omega)]; exact CW.out)
          (fun i hi => by
            have := cells_of_own HO.out i hi
            rw [this.1, this.2]
            refine ⟨?_, rfl⟩
            congr 2
            rw [List.getD_eq_getElem?_getD, List.getElem?_map, List.getElem?_range hi]; rfl))
        clear o1 o2 own2 hlt hh k4 hk HZ
        go_wp2_with fail
        refine S.out.mono ?_
        rintro e w1 ⟨rfl, g1, s1⟩
        have G1 := Lib.hid g1
        have S1 := Lib.hid s1
        have gs := g1.size
        clear g1 s1 S
        go_wp2_with fail
        go_ret
        refine ⟨_, _, _, rfl, S1.out.more (fun b hb => ⟨by omega, by omega⟩), ?_⟩
        exact (HB.out.trans (HB2.out.mono (by omega))).grown G1.out (by omega) (fun k h => by have := Option.some.inj h; omega)

theorem rankMargin_any (A : Option Addr) (n cap : Nat) (l : List Int) (w : World) (h : Sl (tInt .i32) w (blo w.heap.size) A n cap l) (hn : n ≤ 1099511627776) :
    Calls Try.prog 38 #[.slice A n cap] w fun e w' => e = .returned (.int .i64 (marginI l)) ∧ Below w.heap.size w w' := by
  have hm : n ≤ 9223372036854775807 := Nat.le_trans h.cap_le h.max_le
  have hl := Lib.hid h.n_eq
  have H := Lib.hid h
  clear h
  by_cases h2 : n < 2
  · have y1 : decide ((n : Int) < 2) = true := by simp; omega
    have HN := Lib.hid (show (0 : Int) = marginI l by unfold marginI; rw [if_pos (by rw [hl.out]; exact h2)])
    go_enter Try.func38, Try.ntmps38
    go_wp2_with fail
    go_ret
    exact ⟨ret_int HN.out, Below.refl _ _⟩
  · have y1 : decide ((n : Int) < 2) = false := by simp; omega
    have HG := Lib.hid (show l.getD ((refOrder l).getD 0 0) 0 - l.getD ((refOrder l).getD 1 0) 0 = marginI l by unfold marginI; rw [if_neg (by rw [hl.out]; exact h2)])
    have hol := ordI_len l
    obtain ⟨e0, l0⟩ := ordI_at l 0 (by rw [hl.out]; omega)
    obtain ⟨e1, l1⟩ := ordI_at l 1 (by rw [hl.out]; omega)
    rw [hl.out] at l0 l1 hol
    have E := Lib.hid (And.intro e0 e1)
    have OR := Lib.hid (rankOrder_any A n cap l w H.out hn)
    have HOL := Lib.hid hol
    clear e0 e1 hol
    generalize (refOrder l).getD 0 0 = p0 at *
    generalize (refOrder l).getD 1 0 = p1 at *
    go_enter Try.func38, Try.ntmps38
    go_wp2_with fail
    refine OR.out.mono ?_
    rintro e w1 ⟨A1, n1, c1, rfl, s1, hb⟩
    obtain rfl : n1 = n := s1.n_eq.symm.trans HOL.out
    obtain ⟨b, off, rfl, _, _, q0, _⟩ := s1.int_at 0 (by omega)
    obtain ⟨b', off', hA, _, _, q1, _⟩ := s1.int_at 1 (by omega)
    cases hA
    rw [E.out.1] at q0
    rw [E.out.2] at q1
    rw [Nat.add_zero] at q0
    obtain ⟨b2, off2, rfl, _, _, q2, i2⟩ := (H.out.later hb (Nat.le_refl _)).int_at p0 l0
    obtain ⟨b3, off3, hA, _, _, q3, i3⟩ := (H.out.later hb (Nat.le_refl _)).int_at p1 l1
    cases hA
    rw [inK_i32] at i2 i3
    generalize l.getD p0 0 = x at *
    generalize l.getD p1 0 = y at *
    have HB := Lib.hid hb
    have w1e : IntKind.i64.wrap (x - y) = x - y := IntWalk.i64_in _ (by omega)
    have z0 : (0 : Int) < (n1 : Int) := by omega
    have z1 : (1 : Int) < (n1 : Int) := by omega
    have z2 : (p0 : Int) < (n1 : Int) := by omega
    have z3 : (p1 : Int) < (n1 : Int) := by omega
    clear s1 hb E OR
    go_wp2_with fail
    go_quiet (fail)
    go_wp2_with fail
    go_ret
    exact ⟨ret_int HG.out, below_drewN HB.out _⟩
end Go.Proofs.Ytlbijkafcododaa
