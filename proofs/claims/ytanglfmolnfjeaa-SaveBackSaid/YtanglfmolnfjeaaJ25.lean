/-
  Points as Lean data; arguments of that type opened.
  Conditions: none.
  An empty row of a call's own.
  Conditions: none.
  slices.Clone of []int8.
  Conditions: at most 140737488351232 numbers.
-/
import Derived.Test.YtanglfmolnfjeaaChecked
import Derived.Test.YtanglfmolnfjeaaJ12
import Derived.Test.YtanglfmolnfjeaaJ09
import Derived.WalkSpells
import Derived.Lib.SliceRun
namespace Go.Proofs.Ytanglfmolnfjeaa
set_option linter.unusedVariables false
set_option linter.unusedSimpArgs false
open Go.RowKit Go.ChangeShapes Go.WideShapes
set_option maxRecDepth 100000

structure Pt where
  model : Int
  block : Int
  spent : Int
  input : Tensor
  value : Tensor

structure PtIn (p : Pt) : Prop where
  model : InK .i64 p.model
  block : InK .i64 p.block
  spent : InK .i64 p.spent
  input : TensorIn p.input
  value : TensorIn p.value

def tPoint : Ty Pt := tMap (fun (x : Int × Int × Int × Tensor × Tensor) => ⟨x.1, x.2.1, x.2.2.1, x.2.2.2.1, x.2.2.2.2⟩) (tPair (tInt .i64) (tPair (tInt .i64) (tPair (tInt .i64) (tPair tTensor tTensor))))
theorem tPoint_size : tPoint.size = 11 := rfl

theorem point_open {w : World} {S : Nat → Prop} {cs : List Value} {p : Pt} (h : tPoint.rep w S cs p) :
    ∃ A n c B m d, cs = [.int .i64 p.model, .int .i64 p.block, .int .i64 p.spent, .int .i64 p.input.h, .int .i64 p.input.v, .int .i64 p.input.c, .slice A n c, .int .i64 p.value.h, .int .i64 p.value.v, .int .i64 p.value.c, .slice B m d] ∧
      PtIn p ∧ Sl (tInt .i8) w S A n c p.input.data ∧ Sl (tInt .i8) w S B m d p.value.data := by
  obtain ⟨⟨a, b, c, t, u⟩, rfl, _, _, rfl, ⟨rfl, h1⟩, _, _, rfl, ⟨rfl, h2⟩, _, _, rfl, ⟨rfl, h3⟩, _, _, rfl, ht, hu⟩ := h
  obtain ⟨A, n, cap, rfl, h4, hs⟩ := tensor_open ht
  obtain ⟨B, m, d, rfl, h5, hs'⟩ := tensor_open hu
  exact ⟨A, n, cap, B, m, d, rfl, ⟨h1, h2, h3, h4, h5⟩, hs, hs'⟩

theorem tensor_rep {k : IntKind} {w : World} {S : Nat → Prop} {t : Tensor} {A : Option Addr} {n c : Nat} (h : TensorIn t) (hs : Sl (tInt k) w S A n c t.data) :
    (tensorOf k).rep w S [.int .i64 t.h, .int .i64 t.v, .int .i64 t.c, .slice A n c] t :=
  ⟨((t.h, t.v, t.c), t.data), rfl, _, _, rfl, ⟨_, _, rfl, ⟨rfl, h.h⟩, _, _, rfl, ⟨rfl, h.v⟩, rfl, h.c⟩, hs.rep⟩

theorem point_rep {w : World} {S : Nat → Prop} {p : Pt} {A B : Option Addr} {n c m d : Nat} (h : PtIn p) (hs : Sl (tInt .i8) w S A n c p.input.data) (hs' : Sl (tInt .i8) w S B m d p.value.data) :
    tPoint.rep w S [.int .i64 p.model, .int .i64 p.block, .int .i64 p.spent, .int .i64 p.input.h, .int .i64 p.input.v, .int .i64 p.input.c, .slice A n c, .int .i64 p.value.h, .int .i64 p.value.v, .int .i64 p.value.c, .slice B m d] p :=
  ⟨(p.model, p.block, p.spent, p.input, p.value), rfl, _, _, rfl, ⟨rfl, h.model⟩, _, _, rfl, ⟨rfl, h.block⟩, _, _, rfl, ⟨rfl, h.spent⟩, _, _, rfl, tensor_rep h.input hs, tensor_rep h.value hs'⟩

def noPoint : Pt := ⟨0, 0, 0, noTensor, noTensor⟩

theorem opens_point : Opens Try.prog 28 tPoint := opens_map _ (opens_struct Try.underlying28 (by kernel_rfl) (opensFrom_cons rfl opens_i64 (opensFrom_cons rfl opens_i64 (opensFrom_cons rfl opens_i64 (opensFrom_cons rfl opens_tensor (opensFrom_last rfl opens_tensor))))))

def ptCells (p : Pt) (A : Option Addr) (n c : Nat) (B : Option Addr) (m d : Nat) : Array Value :=
  #[.int .i64 p.model, .int .i64 p.block, .int .i64 p.spent, .int .i64 p.input.h, .int .i64 p.input.v, .int .i64 p.input.c, .slice A n c, .int .i64 p.value.h, .int .i64 p.value.v, .int .i64 p.value.c, .slice B m d]

end Go.Proofs.Ytanglfmolnfjeaa
namespace Go.Proofs.Ytanglfmolnfjeaa
set_option linter.unusedVariables false
set_option linter.unusedSimpArgs false
open Go.RowKit Go.ChangeShapes Go.WideShapes
set_option maxRecDepth 100000

theorem Own.lit0 {W : World} {k : IntKind} {E : TypeId} {base : Nat} (hb : base ≤ W.heap.size) : Own (tInt k) (W.alloc (.cells #[] E)) (fun _ => False) base E (.slice (some ⟨W.heap.size, 0, none⟩) 0 0) 0 [] :=
  ⟨[], ⟨rfl, .inr ⟨_, 0, #[], rfl, hb, heap_alloc_new _ _, Nat.le_refl _, by decide, rfl, rfl⟩⟩, rfl⟩

end Go.Proofs.Ytanglfmolnfjeaa
namespace Go.Proofs.Ytanglfmolnfjeaa
set_option linter.unusedVariables false
set_option linter.unusedSimpArgs false
open Go.RowKit Go.ChangeShapes Go.WideShapes
set_option maxRecDepth 100000

theorem ei_i8' : EI Try.prog 24 47 (.int .i8 0) 1 1 := ⟨Try.underlying24, by kernel_rfl, rfl, by decide⟩

theorem clone8_any (A : Option Addr) (n c : Nat) (l : List Int) (w : World) (h : Sl (tInt .i8) w (blo w.heap.size) A n c l) (hn : n ≤ 140737488351232) :
    Calls Try.prog 46 #[.slice A n c] w (RetSl (tInt .i8) w l) := by
  cases A with
  | none =>
    have hc := h.nil_ rfl
    have hm := h.cap_le
    obtain rfl : c = 0 := hc
    obtain rfl : n = 0 := by omega
    obtain rfl : l = [] := List.length_eq_zero_iff.1 h.n_eq
    clear h
    have q0 := fun w => Lib.run_eql_slice_nil (P := Try.prog) w 24 47 none 0 0 0 0 Try.underlying24
    simp only [Option.isNone_none] at q0
    go_enter Try.func46, Try.ntmps46
    go_wp2_with fail
    go_ret
    exact ⟨none, 0, 0, rfl, Sl.nil _ _ _, Below.refl _ _⟩
  | some ad =>
    have H := Lib.hid h
    clear h
    have q0 := fun w => Lib.run_eql_slice_nil (P := Try.prog) w 24 47 (some ad) n c 0 0 Try.underlying24
    simp only [Option.isNone_some] at q0
    go_enter Try.func46, Try.ntmps46
    have o0 := Own.lit0 (W := w) (k := .i8) (E := 47) (base := w.heap.size) (Nat.le_refl _)
    have k0 : Below w.heap.size w (w.alloc (.cells #[] 47)) := (Below.refl _ _).alloc (Nat.le_refl _) _
    have s0 := H.out.later k0 (Nat.le_refl _)
    go_wp2_with (at_builtin; refine wpList_extend rfl _ _ rfl ei_i8' rfl o0 rfl s0 (by unfold maxLen; omega) (by omega) k0.size ?_; intro v' w' o' g' a')
    go_ret
    refine o'.ret (by decide) (k0.grown g' k0.size (fun k h => (o0.lt k h).1)) (fun b h => h.elim)

end Go.Proofs.Ytanglfmolnfjeaa
