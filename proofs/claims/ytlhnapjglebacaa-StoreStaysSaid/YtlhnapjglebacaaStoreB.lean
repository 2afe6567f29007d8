/-
  Points, requests and operations of a store as Lean data; arguments of these types opened; clones of rows.
  Conditions: none.
-/
import Derived.Test.YtlhnapjglebacaaChecked
import Derived.Test.YtlhnapjglebacaaExits
import Derived.Test.YtlhnapjglebacaaExtend
import Derived.Test.YtlhnapjglebacaaCl8
import Derived.Test.YtlhnapjglebacaaCl32
import Derived.Test.YtlhnapjglebacaaExt
import Derived.WalkSpells
import Derived.Lib.SliceRun
namespace Go.Proofs.Ytlhnapjglebacaa
set_option linter.unusedVariables false
set_option linter.unusedSimpArgs false
open Go.RowKit Go.ChangeShapes Go.WideShapes
set_option maxRecDepth 100000

structure Pt where
  model : Int
  block : Int
  spent : Int
  input : Tensor
  value : Tensor

structure PtIn (p : Pt) : Prop where
  model : InK .i64 p.model
  block : InK .i64 p.block
  spent : InK .i64 p.spent
  input : TensorIn p.input
  value : TensorIn p.value

def tPoint : Ty Pt := tMap (fun (x : Int × Int × Int × Tensor × Tensor) => ⟨x.1, x.2.1, x.2.2.1, x.2.2.2.1, x.2.2.2.2⟩) (tPair tI (tPair tI (tPair tI (tPair tTensor tTensor))))
theorem tPoint_size : tPoint.size = 11 := rfl

theorem point_open {w : World} {S : Nat → Prop} {cs : List Value} {p : Pt} (h : tPoint.rep w S cs p) :
    ∃ A n c B m d, cs = [.int .i64 p.model, .int .i64 p.block, .int .i64 p.spent, .int .i64 p.input.h, .int .i64 p.input.v, .int .i64 p.input.c, .slice A n c, .int .i64 p.value.h, .int .i64 p.value.v, .int .i64 p.value.c, .slice B m d] ∧
      PtIn p ∧ Sl (tInt .i8) w S A n c p.input.data ∧ Sl (tInt .i8) w S B m d p.value.data := by
  obtain ⟨⟨a, b, c, t, u⟩, rfl, _, _, rfl, ⟨rfl, h1⟩, _, _, rfl, ⟨rfl, h2⟩, _, _, rfl, ⟨rfl, h3⟩, _, _, rfl, ht, hu⟩ := h
  obtain ⟨A, n, cap, rfl, h4, hs⟩ := tensor_open ht
  obtain ⟨B, m, d, rfl, h5, hs'⟩ := tensor_open hu
  exact ⟨A, n, cap, B, m, d, rfl, ⟨h1, h2, h3, h4, h5⟩, hs, hs'⟩

theorem tensor_rep {k : IntKind} {w : World} {S : Nat → Prop} {t : Tensor} {A : Option Addr} {n c : Nat} (h : TensorIn t) (hs : Sl (tInt k) w S A n c t.data) :
    (tensorOf k).rep w S [.int .i64 t.h, .int .i64 t.v, .int .i64 t.c, .slice A n c] t :=
  ⟨((t.h, t.v, t.c), t.data), rfl, _, _, rfl, ⟨_, _, rfl, ⟨rfl, h.h⟩, _, _, rfl, ⟨rfl, h.v⟩, rfl, h.c⟩, hs.rep⟩

theorem point_rep {w : World} {S : Nat → Prop} {p : Pt} {A B : Option Addr} {n c m d : Nat} (h : PtIn p) (hs : Sl (tInt .i8) w S A n c p.input.data) (hs' : Sl (tInt .i8) w S B m d p.value.data) :
    tPoint.rep w S [.int .i64 p.model, .int .i64 p.block, .int .i64 p.spent, .int .i64 p.input.h, .int .i64 p.input.v, .int .i64 p.input.c, .slice A n c, .int .i64 p.value.h, .int .i64 p.value.v, .int .i64 p.value.c, .slice B m d] p :=
  ⟨(p.model, p.block, p.spent, p.input, p.value), rfl, _, _, rfl, ⟨rfl, h.model⟩, _, _, rfl, ⟨rfl, h.block⟩, _, _, rfl, ⟨rfl, h.spent⟩, _, _, rfl, tensor_rep h.input hs, tensor_rep h.value hs'⟩

def noPoint : Pt := ⟨0, 0, 0, noTensor, noTensor⟩

theorem opens_point : Opens Try.prog 101 tPoint := opens_map _ (opens_struct Try.underlying101 (by kernel_rfl) (opensFrom_cons rfl opens_i64 (opensFrom_cons rfl opens_i64 (opensFrom_cons rfl opens_i64 (opensFrom_cons rfl opens_tensor (opensFrom_last rfl opens_tensor))))))

/-- Something that is done to a store. -/
structure Do where
  kind : Int
  id : Int
  due : Int
  p : Pt
  a : Ans

structure DoIn (o : Do) : Prop where
  kind : InK .u8 o.kind
  id : InK .i64 o.id
  due : InK .i64 o.due
  p : PtIn o.p
  a : AnsIn o.a

def tDo : Ty Do := tMap (fun (x : Int × Int × Int × Pt × Ans) => ⟨x.1, x.2.1, x.2.2.1, x.2.2.2.1, x.2.2.2.2⟩) (tPair (tInt .u8) (tPair tI (tPair tI (tPair tPoint tAns))))
theorem tDo_size : tDo.size = 23 := rfl

theorem do_open {w : World} {S : Nat → Prop} {cs : List Value} {o : Do} (h : tDo.rep w S cs o) :
    ∃ A n c B m d L nl cl, cs = [.int .u8 o.kind, .int .i64 o.id, .int .i64 o.due, .int .i64 o.p.model, .int .i64 o.p.block, .int .i64 o.p.spent, .int .i64 o.p.input.h, .int .i64 o.p.input.v, .int .i64 o.p.input.c, .slice A n c, .int .i64 o.p.value.h, .int .i64 o.p.value.v, .int .i64 o.p.value.c, .slice B m d,
      .int .i64 o.a.id, .int .i64 o.a.model, .int .i64 o.a.block, .int .i64 o.a.cls, .int .i64 o.a.margin, .slice L nl cl, .int .i64 o.a.spent, .int .i64 o.a.why, .int .i64 o.a.tick] ∧
      DoIn o ∧ Sl (tInt .i8) w S A n c o.p.input.data ∧ Sl (tInt .i8) w S B m d o.p.value.data ∧ Sl (tInt .i32) w S L nl cl o.a.logits := by
  obtain ⟨⟨a, b, c, t, u⟩, rfl, _, _, rfl, ⟨rfl, h1⟩, _, _, rfl, ⟨rfl, h2⟩, _, _, rfl, ⟨rfl, h3⟩, _, _, rfl, ht, hu⟩ := h
  obtain ⟨A, n, cap, B, m, d, rfl, h4, hs, hs'⟩ := point_open ht
  obtain ⟨L, nl, cl, rfl, h5, hl⟩ := ans_open hu
  exact ⟨A, n, cap, B, m, d, L, nl, cl, rfl, ⟨h1, h2, h3, h4, h5⟩, hs, hs', hl⟩

theorem opens_do : Opens Try.prog 103 tDo := opens_map _ (opens_struct Try.underlying103 (by kernel_rfl) (opensFrom_cons rfl (opens_int Try.underlying5 (by kernel_rfl)) (opensFrom_cons rfl opens_i64 (opensFrom_cons rfl opens_i64 (opensFrom_cons rfl opens_point (opensFrom_last rfl opens_answer))))))

end Go.Proofs.Ytlhnapjglebacaa
