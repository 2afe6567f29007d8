/-
  The walk of the law AuditRight, its arguments opened.
  Conditions: none.
-/
import Derived.Test.YtlhnapjglebacaaChecked
import Derived.Test.YtlhnapjglebacaaAuditE
namespace Go.Proofs.Ytlhnapjglebacaa
set_option linter.unusedVariables false
set_option linter.unusedSimpArgs false
open Go.RowKit Go.ChangeShapes Go.WideShapes

theorem auditRight_walk (A : Option Addr) (n cap : Nat) (l : List Exit) {W : World} (h : Sl tExit W (blo W.heap.size) A n cap l) (cs : Array Value) (a : Ans) (ha : tAns.rep W (blo W.heap.size) cs.toList a) (f : Int) (hf : InK .i64 f) (w : World) (e : W = w) :
    Calls Try.prog 6 #[.slice A n cap, .agg cs, .int .i64 f] w fun e w' => e = .returned (.bool true) ∧ Below w.heap.size w w' := by
  subst e
  obtain ⟨M, nm, cm, hcs, _, hs⟩ := ans_open ha
  obtain rfl : cs = #[.int .i64 a.id, .int .i64 a.model, .int .i64 a.block, .int .i64 a.cls, .int .i64 a.margin, .slice M nm cm, .int .i64 a.spent, .int .i64 a.why, .int .i64 a.tick] := by cases cs; simp_all
  exact auditRight_any A n cap l a M nm cm f W h hs hf
end Go.Proofs.Ytlhnapjglebacaa
