/-
  Points, requests and operations of a store as Lean data; arguments of these types opened; clones of rows.
  Conditions: none.
-/
import Derived.Test.YtcppkpcbfadapaaGreatChecked
import Derived.Test.YtcppkpcbfadapaaGreatExits
import Derived.Test.YtcppkpcbfadapaaGreatExtend
import Derived.Test.YtcppkpcbfadapaaGreatCl8
import Derived.Test.YtcppkpcbfadapaaGreatCl32
import Derived.Test.YtcppkpcbfadapaaGreatExt
import Derived.Test.YtcppkpcbfadapaaGreatPt
import Derived.WalkSpells
import Derived.Lib.SliceRun
namespace Go.Proofs.YtcppkpcbfadapaaGreat
set_option linter.unusedVariables false
set_option linter.unusedSimpArgs false
open Go.RowKit Go.ChangeShapes Go.WideShapes
set_option maxRecDepth 100000

/-- Something that is done to a store. -/
structure Do where
  kind : Int
  id : Int
  due : Int
  p : Pt
  a : Ans

structure DoIn (o : Do) : Prop where
  kind : InK .u8 o.kind
  id : InK .i64 o.id
  due : InK .i64 o.due
  p : PtIn o.p
  a : AnsIn o.a

def tDo : Ty Do := tMap (fun (x : Int × Int × Int × Pt × Ans) => ⟨x.1, x.2.1, x.2.2.1, x.2.2.2.1, x.2.2.2.2⟩) (tPair (tInt .u8) (tPair tI (tPair tI (tPair tPoint tAns))))
theorem tDo_size : tDo.size = 23 := rfl

theorem do_open {w : World} {S : Nat → Prop} {cs : List Value} {o : Do} (h : tDo.rep w S cs o) :
    ∃ A n c B m d L nl cl, cs = [.int .u8 o.kind, .int .i64 o.id, .int .i64 o.due, .int .i64 o.p.model, .int .i64 o.p.block, .int .i64 o.p.spent, .int .i64 o.p.input.h, .int .i64 o.p.input.v, .int .i64 o.p.input.c, .slice A n c, .int .i64 o.p.value.h, .int .i64 o.p.value.v, .int .i64 o.p.value.c, .slice B m d,
      .int .i64 o.a.id, .int .i64 o.a.model, .int .i64 o.a.block, .int .i64 o.a.cls, .int .i64 o.a.margin, .slice L nl cl, .int .i64 o.a.spent, .int .i64 o.a.why, .int .i64 o.a.tick] ∧
      DoIn o ∧ Sl (tInt .i8) w S A n c o.p.input.data ∧ Sl (tInt .i8) w S B m d o.p.value.data ∧ Sl (tInt .i32) w S L nl cl o.a.logits := by
  obtain ⟨⟨a, b, c, t, u⟩, rfl, _, _, rfl, ⟨rfl, h1⟩, _, _, rfl, ⟨rfl, h2⟩, _, _, rfl, ⟨rfl, h3⟩, _, _, rfl, ht, hu⟩ := h
  obtain ⟨A, n, cap, B, m, d, rfl, h4, hs, hs'⟩ := point_open ht
  obtain ⟨L, nl, cl, rfl, h5, hl⟩ := ans_open hu
  exact ⟨A, n, cap, B, m, d, L, nl, cl, rfl, ⟨h1, h2, h3, h4, h5⟩, hs, hs', hl⟩


end Go.Proofs.YtcppkpcbfadapaaGreat
