/-
  Tensors that may be (layer 5).
  Conditions: none.
-/
import Derived.Test.YtbdanfbfohikdaaChecked
import Derived.Test.YtbdanfbfohikdaaShapeZ
namespace Go.Proofs.Ytbdanfbfohikdaa
open Go.RowKit Go.ChangeShapes Go.WideShapes
set_option maxRecDepth 100000
set_option linter.unusedVariables false
set_option linter.unusedSimpArgs false

theorem tensorRight_any (h v c : Int) (A : Option Addr) (n cap : Nat) (w : World) (h0 : InK .i64 h) (h1 : InK .i64 v) (h2 : InK .i64 c) (hn : n ≤ maxLen) :
    Calls Try.prog 15 #[.agg #[.int .i64 h, .int .i64 v, .int .i64 c, .slice A n cap]] w fun e w' => e = .returned (.bool (decide (0 < elems h v c ∧ elems h v c = n))) ∧ Below w.heap.size w w' := by
  have H0 := Lib.hid h0
  have H1 := Lib.hid h1
  have H2 := Lib.hid h2
  unfold maxLen at hn
  clear h0 h1 h2
  go_enter Try.func15, Try.ntmps15
  go_wp2_with fail
  refine (elems_any h c v _ H0.out H1.out H2.out).mono ?_
  rintro e w' ⟨rfl, hb⟩
  have hc := cell_below hb (p := ⟨w.heap.size, 3, none⟩) (v := .slice A n cap) (by simp [go_sem]) (by simp)
  generalize he : elems h v c = m at *
  have HE := Lib.hid he
  clear he
  by_cases hm : 0 < m
  · go_wp2_with fail
    go_ret
    exact ⟨ret_bool (by rw [HE.out, Bool.eq_iff_iff]; simp [hm]), ((Below.refl _ _).alloc (Nat.le_refl _) _).trans (hb.mono (by simp))⟩
  · go_wp2_with fail
    go_ret
    exact ⟨ret_bool (by rw [HE.out, Bool.eq_iff_iff]; simp; omega), ((Below.refl _ _).alloc (Nat.le_refl _) _).trans (hb.mono (by simp))⟩

theorem rtensorRight_any (h v c : Int) (A : Option Addr) (n cap : Nat) (w : World) (h0 : InK .i64 h) (h1 : InK .i64 v) (h2 : InK .i64 c) (hn : n ≤ maxLen) :
    Calls Try.prog 9 #[.agg #[.int .i64 h, .int .i64 v, .int .i64 c, .slice A n cap]] w fun e w' => e = .returned (.bool (decide (0 < elems h v c ∧ elems h v c = n))) ∧ Below w.heap.size w w' := by
  have H0 := Lib.hid h0
  have H1 := Lib.hid h1
  have H2 := Lib.hid h2
  unfold maxLen at hn
  clear h0 h1 h2
  go_enter Try.func9, Try.ntmps9
  go_wp2_with fail
  have g1 : Below w.heap.size w (w.alloc (.cells #[.int .i64 h, .int .i64 v, .int .i64 c, .slice A n cap] 26)) := by go_grown
  have bA := Blk.now w w.heap.size 26 #[.int .i64 h, .int .i64 v, .int .i64 c, .slice A n cap] rfl
  generalize w.alloc (.cells #[.int .i64 h, .int .i64 v, .int .i64 c, .slice A n cap] 26) = w0 at *
  have BA := Lib.hid bA
  have cA : ∀ (x : Ext w0) (i : Nat), x.1.cell? ⟨w.heap.size, i, none⟩ = (#[.int .i64 h, .int .i64 v, .int .i64 c, .slice A n cap] : Array Value)[i]? := fun x i => (BA.out.ext x).cell i
  clear bA
  have e1 : ∀ x : Ext w0, Calls Try.prog 20 #[.agg #[.int .i64 h, .int .i64 v, .int .i64 c]] x.1 fun e w'' => e = .returned (.int .i64 (elems h v c)) ∧ ∃ y : Ext w0, w'' = y.1 :=
    fun x => calls_ext x (relems_any h c v _ H0.out H1.out H2.out)
  generalize hm : elems h v c = m at *
  have E1 := Lib.hid e1
  have HM := Lib.hid hm
  clear hm e1
  by_cases hm : 0 < m
  · refine wp_region_ext w0 (by kernel_rfl) (by kernel_rfl) (Below.refl _ _) ?_
    repeat (go_big_quiet_step ((exact E1.out _)))
    refine wpQuiet_nil ?_
    rintro _ ⟨⟨w3, hb⟩, rfl⟩
    go_wp2_with fail
    go_ret
    exact ⟨ret_bool (by rw [HM.out, Bool.eq_iff_iff]; simp [hm]), below_call g1 hb g1.size⟩
  · have hd : decide (0 < m) = false := by simp; omega
    refine wp_region_ext w0 (by kernel_rfl) (by kernel_rfl) (Below.refl _ _) ?_
    repeat (go_big_quiet_step ((exact E1.out _)))
    refine wpQuiet_nil ?_
    rintro _ ⟨⟨w3, hb⟩, rfl⟩
    go_wp2_with fail
    go_ret
    exact ⟨ret_bool (by rw [HM.out, Bool.eq_iff_iff]; simp; omega), below_call g1 hb g1.size⟩

end Go.Proofs.Ytbdanfbfohikdaa
