/-
  Points as Lean data; arguments of that type opened.
  Conditions: none.
-/
import Derived.Test.YtcppkpcbfadapaaGreatChecked
import Derived.Test.YtcppkpcbfadapaaGreatNode
namespace Go.Proofs.YtcppkpcbfadapaaGreat
set_option linter.unusedVariables false
set_option linter.unusedSimpArgs false
open Go.RowKit Go.ChangeShapes Go.WideShapes
set_option maxRecDepth 100000

structure Pt where
  model : Int
  block : Int
  spent : Int
  input : Tensor
  value : Tensor

structure PtIn (p : Pt) : Prop where
  model : InK .i64 p.model
  block : InK .i64 p.block
  spent : InK .i64 p.spent
  input : TensorIn p.input
  value : TensorIn p.value

def tPoint : Ty Pt := tMap (fun (x : Int × Int × Int × Tensor × Tensor) => ⟨x.1, x.2.1, x.2.2.1, x.2.2.2.1, x.2.2.2.2⟩) (tPair (tInt .i64) (tPair (tInt .i64) (tPair (tInt .i64) (tPair tTensor tTensor))))
theorem tPoint_size : tPoint.size = 11 := rfl

theorem point_open {w : World} {S : Nat → Prop} {cs : List Value} {p : Pt} (h : tPoint.rep w S cs p) :
    ∃ A n c B m d, cs = [.int .i64 p.model, .int .i64 p.block, .int .i64 p.spent, .int .i64 p.input.h, .int .i64 p.input.v, .int .i64 p.input.c, .slice A n c, .int .i64 p.value.h, .int .i64 p.value.v, .int .i64 p.value.c, .slice B m d] ∧
      PtIn p ∧ Sl (tInt .i8) w S A n c p.input.data ∧ Sl (tInt .i8) w S B m d p.value.data := by
  obtain ⟨⟨a, b, c, t, u⟩, rfl, _, _, rfl, ⟨rfl, h1⟩, _, _, rfl, ⟨rfl, h2⟩, _, _, rfl, ⟨rfl, h3⟩, _, _, rfl, ht, hu⟩ := h
  obtain ⟨A, n, cap, rfl, h4, hs⟩ := tensor_open ht
  obtain ⟨B, m, d, rfl, h5, hs'⟩ := tensor_open hu
  exact ⟨A, n, cap, B, m, d, rfl, ⟨h1, h2, h3, h4, h5⟩, hs, hs'⟩

theorem tensor_rep {k : IntKind} {w : World} {S : Nat → Prop} {t : Tensor} {A : Option Addr} {n c : Nat} (h : TensorIn t) (hs : Sl (tInt k) w S A n c t.data) :
    (tensorOf k).rep w S [.int .i64 t.h, .int .i64 t.v, .int .i64 t.c, .slice A n c] t :=
  ⟨((t.h, t.v, t.c), t.data), rfl, _, _, rfl, ⟨_, _, rfl, ⟨rfl, h.h⟩, _, _, rfl, ⟨rfl, h.v⟩, rfl, h.c⟩, hs.rep⟩

theorem point_rep {w : World} {S : Nat → Prop} {p : Pt} {A B : Option Addr} {n c m d : Nat} (h : PtIn p) (hs : Sl (tInt .i8) w S A n c p.input.data) (hs' : Sl (tInt .i8) w S B m d p.value.data) :
    tPoint.rep w S [.int .i64 p.model, .int .i64 p.block, .int .i64 p.spent, .int .i64 p.input.h, .int .i64 p.input.v, .int .i64 p.input.c, .slice A n c, .int .i64 p.value.h, .int .i64 p.value.v, .int .i64 p.value.c, .slice B m d] p :=
  ⟨(p.model, p.block, p.spent, p.input, p.value), rfl, _, _, rfl, ⟨rfl, h.model⟩, _, _, rfl, ⟨rfl, h.block⟩, _, _, rfl, ⟨rfl, h.spent⟩, _, _, rfl, tensor_rep h.input hs, tensor_rep h.value hs'⟩

def noPoint : Pt := ⟨0, 0, 0, noTensor, noTensor⟩

theorem opens_point : Opens Tryz.prog 67 tPoint := opens_map _ (opens_struct Tryz.underlying67 (by kernel_rfl) (opensFrom_cons rfl opens_i64 (opensFrom_cons rfl opens_i64 (opensFrom_cons rfl opens_i64 (opensFrom_cons rfl opens_tensor (opensFrom_last rfl opens_tensor))))))

def ptCells (p : Pt) (A : Option Addr) (n c : Nat) (B : Option Addr) (m d : Nat) : Array Value :=
  #[.int .i64 p.model, .int .i64 p.block, .int .i64 p.spent, .int .i64 p.input.h, .int .i64 p.input.v, .int .i64 p.input.c, .slice A n c, .int .i64 p.value.h, .int .i64 p.value.v, .int .i64 p.value.c, .slice B m d]

end Go.Proofs.YtcppkpcbfadapaaGreat
