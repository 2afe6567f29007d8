/-
  slices.Clone of []int8.
  Conditions: at most 140737488351232 numbers.
-/
import Derived.Test.YtcppkpcbfadapaaGreatChecked
import Derived.Test.YtcppkpcbfadapaaGreatCl0
namespace Go.Proofs.YtcppkpcbfadapaaGreat
set_option linter.unusedVariables false
set_option linter.unusedSimpArgs false
open Go.RowKit Go.ChangeShapes Go.WideShapes
set_option maxRecDepth 100000

theorem ei_i8' : EI Tryz.prog 28 71 (.int .i8 0) 1 1 := ⟨Tryz.underlying28, by kernel_rfl, rfl, by decide⟩

theorem clone8_any (A : Option Addr) (n c : Nat) (l : List Int) (w : World) (h : Sl (tInt .i8) w (blo w.heap.size) A n c l) (hn : n ≤ 140737488351232) :
    Calls Tryz.prog 49 #[.slice A n c] w (RetSl (tInt .i8) w l) := by
  cases A with
  | none =>
    have hc := h.nil_ rfl
    have hm := h.cap_le
    obtain rfl : c = 0 := hc
    obtain rfl : n = 0 := by omega
    obtain rfl : l = [] := List.length_eq_zero_iff.1 h.n_eq
    clear h
    have q0 := fun w => Lib.run_eql_slice_nil (P := Tryz.prog) w 28 71 none 0 0 0 0 Tryz.underlying28
    simp only [Option.isNone_none] at q0
    go_enter Tryz.func49, Tryz.ntmps49
    go_wp2_with fail
    go_ret
    exact ⟨none, 0, 0, rfl, Sl.nil _ _ _, Below.refl _ _⟩
  | some ad =>
    have H := Lib.hid h
    clear h
    have q0 := fun w => Lib.run_eql_slice_nil (P := Tryz.prog) w 28 71 (some ad) n c 0 0 Tryz.underlying28
    simp only [Option.isNone_some] at q0
    go_enter Tryz.func49, Tryz.ntmps49
    have o0 := Own.lit0 (W := w) (k := .i8) (E := 71) (base := w.heap.size) (Nat.le_refl _)
    have k0 : Below w.heap.size w (w.alloc (.cells #[] 71)) := (Below.refl _ _).alloc (Nat.le_refl _) _
    have s0 := H.out.later k0 (Nat.le_refl _)
    go_wp2_with (at_builtin; refine wpList_extend rfl _ _ rfl ei_i8' rfl o0 rfl s0 (by unfold maxLen; omega) (by omega) k0.size ?_; intro v' w' o' g' a')
    go_ret
    refine o'.ret (by decide) (k0.grown g' k0.size (fun k h => (o0.lt k h).1)) (fun b h => h.elim)

end Go.Proofs.YtcppkpcbfadapaaGreat
