/-
  slices.Concat of two rows of whole numbers, and ring.joined.
  Conditions: at most 2^40 numbers in all.
-/
import Derived.Test.YtcppkpcbfadapaaGreatChecked
import Derived.Test.YtcppkpcbfadapaaGreatRingB
import Derived.Test.YtcppkpcbfadapaaGreatExtend
import Derived.Deep.DeepFit
namespace Go.Proofs.YtcppkpcbfadapaaGreat
set_option linter.unusedVariables false
set_option linter.unusedSimpArgs false
open Go.RowKit Go.ChangeShapes Go.WideShapes
set_option maxRecDepth 100000

theorem Own.base {α : Type} {t : Ty α} {w : World} {S : Nat → Prop} {base base' : Nat} {E : TypeId} {v : Value} {n : Nat} {l : List α} (h : Own t w S base E v n l) (hb : base' ≤ base) : Own t w S base' E v n l := by
  obtain ⟨vs, ⟨h1, h2⟩, h3⟩ := h.out
  refine ⟨vs, ⟨h1, ?_⟩, h3⟩
  rcases h2 with h2 | ⟨g, cap, cur, e1, e2, e3⟩
  · exact .inl h2
  · exact .inr ⟨g, cap, cur, e1, Nat.le_trans hb e2, e3⟩

theorem concat_any (A A' : Option Addr) (n cap n' cap' g : Nat) (l l' : List Int) (w : World) (h : Sl (tInt .i64) w (blo w.heap.size) A n cap l) (h' : Sl (tInt .i64) w (blo w.heap.size) A' n' cap' l')
    (c0 : w.cell? ⟨g, 0, none⟩ = some (.slice A n cap)) (c1 : w.cell? ⟨g, 1, none⟩ = some (.slice A' n' cap')) (hn : n + n' ≤ 1099511627776) :
    Calls Tryz.prog 113 #[.slice (some ⟨g, 0, none⟩) 2 2] w (RetSl (tInt .i64) w (l ++ l')) := by
  have H := Lib.hid h
  have H' := Lib.hid h'
  have C0 := Lib.hid c0
  have C1 := Lib.hid c1
  clear h h' c0 c1
  go_enter Tryz.func113, Tryz.ntmps113
  go_wp2_with fail
  go_loopw [3, 11] (fun s i wr => Below w.heap.size w wr ∧ ((i = .int .i64 0 ∧ s = .int .i64 0) ∨ (i = .int .i64 1 ∧ s = .int .i64 n) ∨ (i = .int .i64 2 ∧ s = .int .i64 ((n : Int) + n')))) (fun _ i _ => 2 - (intOf i).toNat)
  case atStart => exact ⟨Below.refl _ _, .inl ⟨rfl, rfl⟩⟩
  case round =>
    obtain ⟨hb, hi⟩ := hrel
    have d0 := cell_later hb C0.out
    have d1 := cell_later hb C1.out
    rcases hi with ⟨rfl, rfl⟩ | ⟨rfl, rfl⟩ | ⟨rfl, rfl⟩
    · go_wp2_with fail
      exact ⟨⟨hb, .inr (.inl ⟨by go_num, by go_num⟩)⟩, by simp [intOf]⟩
    · go_wp2_with fail
      exact ⟨⟨hb, .inr (.inr ⟨by go_num, by go_num⟩)⟩, by simp [intOf]⟩
    · have hc : ((n : Int) + n') = ((n + n' : Nat) : Int) := by simp
      rw [hc]
      clear d0 d1 hc
      go_wp2_with fail
      refine (grow_any (n + n') wr hn).mono ?_
      rintro e w1 ⟨v, rfl, ho, hb1⟩
      have z0 := hb.size
      have G1 := Lib.hid (below_call hb hb1 hb.size)
      have HO := Lib.hid (ho.base z0)
      clear ho hb1 hb
      go_wp2_with fail
      go_loopw [6, 27] (fun s i wr2 => Below w.heap.size w wr2 ∧ ((i = .int .i64 0 ∧ Own (tInt .i64) wr2 (fun _ => False) w.heap.size 3 s 0 []) ∨ (i = .int .i64 1 ∧ Own (tInt .i64) wr2 (fun _ => False) w.heap.size 3 s n l) ∨
        (i = .int .i64 2 ∧ Own (tInt .i64) wr2 (fun _ => False) w.heap.size 3 s (n + n') (l ++ l')))) (fun _ i _ => 2 - (intOf i).toNat)
      case atStart => exact ⟨G1.out, .inl ⟨rfl, HO.out⟩⟩
      case round =>
        obtain ⟨hb, hi⟩ := hrel
        have d0 := cell_later hb C0.out
        have d1 := cell_later hb C1.out
        have z1 := hb.size
        have HB := Lib.hid hb
        clear hb
        rcases hi with ⟨rfl, ho⟩ | ⟨rfl, ho⟩ | ⟨rfl, ho⟩
        · have HO := Lib.hid ho
          clear ho
          go_wp2_with (at_builtin; refine wpList_extend (k := .i64) rfl (.tmp 31) (.tmp 32) rfl ei_int rfl HO.out rfl (H.out.below HB.out (fun _ h => h)) (by unfold maxLen; omega) (by omega) z1 ?_; intro v1 w2 own1 g1 at1)
          rw [Nat.zero_add, List.nil_append] at own1
          exact ⟨⟨HB.out.grown g1 z1 (fun k h => (HO.out.lt k h).1), .inr (.inl ⟨by go_num, own1⟩)⟩, by simp [intOf]⟩
        · have HO := Lib.hid ho
          clear ho
          go_wp2_with (at_builtin; refine wpList_extend (k := .i64) rfl (.tmp 31) (.tmp 32) rfl ei_int rfl HO.out rfl (H'.out.below HB.out (fun _ h => h)) (by unfold maxLen; omega) (by omega) z1 ?_; intro v1 w2 own1 g1 at1)
          exact ⟨⟨HB.out.grown g1 z1 (fun k h => (HO.out.lt k h).1), .inr (.inr ⟨by go_num, own1⟩)⟩, by simp [intOf]⟩
        · have HO := Lib.hid ho
          clear ho d0 d1
          go_wp2_with fail
          go_ret
          exact HO.out.ret (by decide) HB.out (fun _ h => h.elim)

theorem joined_any (A A' : Option Addr) (n cap n' cap' g : Nat) (l l' : List Int) (w : World) (h : Sl (tInt .i64) w (blo w.heap.size) A n cap l) (h' : Sl (tInt .i64) w (blo w.heap.size) A' n' cap' l')
    (c0 : w.cell? ⟨g, 0, none⟩ = some (.slice A n cap)) (c1 : w.cell? ⟨g, 1, none⟩ = some (.slice A' n' cap')) (hn : n + n' ≤ 1099511627776) :
    Calls Tryz.prog 84 #[.slice (some ⟨g, 0, none⟩) 2 2] w (RetSl (tInt .i64) w (l ++ l')) := by
  have H := Lib.hid h
  have H' := Lib.hid h'
  have C0 := Lib.hid c0
  have C1 := Lib.hid c1
  clear h h' c0 c1
  go_enter Tryz.func84, Tryz.ntmps84
  go_wp2_with fail
  refine (concat_any A A' n cap n' cap' g l l' w H.out H'.out C0.out C1.out hn).mono ?_
  rintro e w1 ⟨B, m, c, rfl, hs, hb⟩
  go_wp2_with fail
  go_ret
  exact ⟨B, m, c, rfl, hs, hb⟩
end Go.Proofs.YtcppkpcbfadapaaGreat
