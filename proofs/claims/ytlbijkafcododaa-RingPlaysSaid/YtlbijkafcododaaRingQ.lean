/-
  The document's rows: With, Without (layer 40).
  Conditions: at most 2^39 numbers.
-/
import Derived.Test.YtlbijkafcododaaChecked
import Derived.Test.YtlbijkafcododaaRingP
namespace Go.Proofs.Ytlbijkafcododaa
set_option linter.unusedVariables false
set_option linter.unusedSimpArgs false
open Go.RowKit Go.ChangeShapes Go.WideShapes
set_option maxRecDepth 100000

theorem Own.fresh {k : IntKind} {W : World} {E : TypeId} {base : Nat} (hb : base ≤ W.heap.size) : Own (tInt k) (W.alloc (.cells #[] E)) (fun _ => False) base E (.slice (some ⟨W.heap.size, 0, none⟩) 0 0) 0 [] :=
  ⟨[], ⟨rfl, .inr ⟨_, 0, #[], rfl, hb, heap_alloc_new _ _, Nat.le_refl _, by decide, rfl, rfl⟩⟩, rfl⟩

theorem with_any (A : Option Addr) (n c : Nat) (l : List Int) (y : Int) (w : World) (h : Sl (tInt .i64) w (blo w.heap.size) A n c l) (hy : InK .i64 y) (hn : n ≤ 549755813888) :
    Calls Try.prog 19 #[.slice A n c, .int .i64 y] w (RetSl (tInt .i64) w (l ++ [y])) := by
  have H := Lib.hid h
  clear h
  go_enter Try.func19, Try.ntmps19
  have o0 := Own.fresh (k := .i64) (W := w) (E := 3) (base := w.heap.size) (Nat.le_refl _)
  have k0 : Below w.heap.size w (w.alloc (.cells #[] 3)) := (Below.refl _ _).alloc (Nat.le_refl _) _
  have s0 := H.out.later k0 (Nat.le_refl _)
  go_wp2_with (first
    | (at_builtin; refine wpList_extend rfl (.tmp 6) (.tmp 7) rfl ei_int rfl o0 rfl s0 (by unfold maxLen; omega) (by omega) k0.size ?_; intro v1 w1 o1 g1 a1; rw [Nat.zero_add, List.nil_append] at o1; have b1 := k0.grown g1 k0.size (fun k h => (o0.lt k h).1))
    | (at_builtin; refine wpList_push (t := tInt .i64) rfl (.tmp 9) (.tmp 11) rfl ei_int rfl o1 1 rfl y ⟨rfl, hy⟩ (by unfold maxLen; omega) (by omega) b1.size (fun _ h => h.elim) ?_; intro v2 w2 o2 g2 a2))
  go_ret
  exact o2.ret (by decide) (b1.grown g2 b1.size (fun k h => (o1.lt k h).1)) (fun b h => h.elim)

theorem without_any (A : Option Addr) (n c : Nat) (l : List Int) (y : Int) (w : World) (h : Sl (tInt .i64) w (blo w.heap.size) A n c l) (hn : n ≤ 549755813888) :
    Calls Try.prog 83 #[.slice A n c, .int .i64 y] w (RetSl (tInt .i64) w (l.filter (fun x => x != y))) := by
  have H := Lib.hid h
  clear h
  go_enter Try.func83, Try.ntmps83
  go_wp2_with fail
  go_loopw [5, 6] (fun v i wr => ∃ (k q : Nat), k ≤ n ∧ i = .int .i64 k ∧ q ≤ k ∧ Own (tInt .i64) wr (fun _ => False) w.heap.size 3 v q ((l.take k).filter (fun x => x != y)) ∧ Below w.heap.size w wr) (fun _ i _ => n - (intOf i).toNat)
  case atStart => exact ⟨0, 0, Nat.zero_le _, rfl, Nat.le_refl _, Own.nil _ _ _ _ _, Below.refl _ _⟩
  case round =>
    obtain ⟨k, q, hk, rfl, hq, ho, hb⟩ := hrel
    have HO := Lib.hid ho
    have HB := Lib.hid hb
    by_cases hlt : k < n
    · have t1 : decide ((k : Int) < (n : Int)) = true := by simp; omega
      obtain ⟨b, off, rfl, _, _, cc, hc⟩ := (H.out.later hb (Nat.le_refl _)).int_at k hlt
      have hx : l[k]? = some (l.getD k 0) := by rw [List.getD_eq_getElem?_getD, List.getElem?_eq_getElem (by rw [H.out.n_eq]; exact hlt)]; rfl
      have e := Lib.hid (take_snoc l k _ hx)
      generalize l.getD k 0 = x at *
      have p1 : (k : Int) < (n : Int) := by omega
      clear ho hb hx hlt
      by_cases hxy : x = y
      · have t2 : (x != y) = false := by simp [hxy]
        have HX := Lib.hid t2
        clear hxy
        go_wp2_with fail
        refine ⟨⟨k + 1, q, by omega, by go_num, by omega, ?_, HB.out⟩, by simp [intOf]; omega⟩
        rw [e.out, List.filter_append]
        simpa [HX.out] using HO.out
      · have t2 : (x != y) = true := by simp [hxy]
        have HX := Lib.hid t2
        clear hxy
        have zb := HB.out.size
        go_wp2_with (at_builtin; refine wpList_push (t := tInt .i64) rfl (.tmp 19) (.tmp 24) rfl ei_int (v := u5) rfl HO.out 1 rfl x ⟨rfl, hc⟩ (by unfold maxLen; omega) (by omega) zb (fun _ h => h.elim) ?_; intro v2 w2 o2 g2 a2)
        refine ⟨⟨k + 1, q + 1, by omega, by go_num, by omega, ?_, HB.out.grown g2 zb (fun k h => (HO.out.lt k h).1)⟩, by simp [intOf]; omega⟩
        rw [e.out, List.filter_append]
        simpa [HX.out] using o2
    · obtain rfl : k = n := by omega
      have t1 : decide ((k : Int) < (k : Int)) = false := by simp
      rw [List.take_of_length_le (Nat.le_of_eq H.out.n_eq)] at ho
      have HO := Lib.hid ho
      clear ho hb hlt
      go_wp2_with fail
      go_ret
      exact HO.out.ret (by decide) HB.out (fun b h => h.elim)
end Go.Proofs.Ytlbijkafcododaa
