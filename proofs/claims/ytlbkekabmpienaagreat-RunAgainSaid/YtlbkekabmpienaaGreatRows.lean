/-
  No cell of these rows narrows 'for every input' (looked for: loops, veiled, ifaces, maps, wideKeys, modest, calm, conditions, laid).
  DERIVED. THE GIVEN ROWS OF THIS SEAT. 3 by the template 'for every input the law returns true; each argument reads behind the call as it read before'; 0 by the template 'total and deterministic' (their statements: YtlbkekabmpienaaGreatTotals.lean).
  GIVEN WITH THE SEED: the statements are not yours to turn. If you find one false, say at which input.
  Laid BY PROGRAM, IN A SANDBOX (cutbox-rows.mjs): the forced cells as the released guide's own fill.sh prints them over the translation 6aa1b7664c12022d… (all of the seat's roots in one cut). By AI agents, Wed Nov 11 2026. No macro, syntax, notation, axiom, sorry.
-/
import Derived.Test.YtlbkekabmpienaaGreatChecked
import GoSem.Claim
import GoSem.ClaimJoined
import GoSem.ClaimMapViews
import Derived.JoinedTies
import Derived.KernelRfl
namespace Go.Proofs.YtlbkekabmpienaaGreat
/- THE CELL 'sum', in the pinned program and in every row, IS THE sha256 OF THE DUMP (.gsa) THAT YtlbkekabmpienaaGreatProg.lean LOADS. Nothing in Lean hashes anything: it is a label: what it is worth is what the hold of that sum in a sandbox is worth. -/
noncomputable def Tryz.pinned : Pinned := { name := "ytlbkekabmpienaagreat", sum := "6aa1b7664c12022d6a786b44f96745633e47740c1f89728e8c99fb264e5024ad", checked := Tryz.checked }
namespace Rows
def none {H : Type} : Left H := { results := [], args := [] }

/-- 'stepwelllaw26.RunNodes': WHATEVER THE INPUT: true; the input reads as it did. -/
def runNodesSpec : ChangeSpec := { name := "runNodes", fn := fun _ => fun
  | [d1, d2, d3] => { results := [.lit (.bool true)], args := [d1, d2, d3] }
  | _ => none }
def runNodesRow : OpenClaim := { program := "ytlbkekabmpienaagreat", sum := "6aa1b7664c12022d6a786b44f96745633e47740c1f89728e8c99fb264e5024ad", func := "stepwell/stepwelllaw26.RunNodes", spec := "runNodes", unfollowed := true, recurses := true, apart := false }
def RunNodesSaid : Prop := runNodesRow.holds Tryz.pinned (OpenSpec.ofChange runNodesSpec)

/-- ITS FALSE NEIGHBOUR: 'it returns false'. Refute it at one input. -/
def runNodesWrong : ChangeSpec := { name := "runNodes", fn := fun _ => fun
  | [d1, d2, d3] => { results := [.lit (.bool false)], args := [d1, d2, d3] }
  | _ => none }
def RunNodesWrongFalsely : Prop := runNodesRow.holds Tryz.pinned (OpenSpec.ofChange runNodesWrong)

/-- 'stepwelllaw26.RunShapes': WHATEVER THE INPUT: true; the input reads as it did. -/
def runShapesSpec : ChangeSpec := { name := "runShapes", fn := fun _ => fun
  | [d1, d2, d3] => { results := [.lit (.bool true)], args := [d1, d2, d3] }
  | _ => none }
def runShapesRow : OpenClaim := { program := "ytlbkekabmpienaagreat", sum := "6aa1b7664c12022d6a786b44f96745633e47740c1f89728e8c99fb264e5024ad", func := "stepwell/stepwelllaw26.RunShapes", spec := "runShapes", unfollowed := true, recurses := true, apart := false }
def RunShapesSaid : Prop := runShapesRow.holds Tryz.pinned (OpenSpec.ofChange runShapesSpec)

/-- ITS FALSE NEIGHBOUR: 'it returns false'. Refute it at one input. -/
def runShapesWrong : ChangeSpec := { name := "runShapes", fn := fun _ => fun
  | [d1, d2, d3] => { results := [.lit (.bool false)], args := [d1, d2, d3] }
  | _ => none }
def RunShapesWrongFalsely : Prop := runShapesRow.holds Tryz.pinned (OpenSpec.ofChange runShapesWrong)

/-- 'stepwelllaw26.RunAgain': WHATEVER THE INPUT: true; the input reads as it did. -/
def runAgainSpec : ChangeSpec := { name := "runAgain", fn := fun _ => fun
  | [d1, d2, d3] => { results := [.lit (.bool true)], args := [d1, d2, d3] }
  | _ => none }
def runAgainRow : OpenClaim := { program := "ytlbkekabmpienaagreat", sum := "6aa1b7664c12022d6a786b44f96745633e47740c1f89728e8c99fb264e5024ad", func := "stepwell/stepwelllaw26.RunAgain", spec := "runAgain", unfollowed := true, recurses := true, apart := false }
def RunAgainSaid : Prop := runAgainRow.holds Tryz.pinned (OpenSpec.ofChange runAgainSpec)

/-- ITS FALSE NEIGHBOUR: 'it returns false'. Refute it at one input. -/
def runAgainWrong : ChangeSpec := { name := "runAgain", fn := fun _ => fun
  | [d1, d2, d3] => { results := [.lit (.bool false)], args := [d1, d2, d3] }
  | _ => none }
def RunAgainWrongFalsely : Prop := runAgainRow.holds Tryz.pinned (OpenSpec.ofChange runAgainWrong)

/- THE SECOND FORM. 'bulk': how many values and letters a reading holds, each counted each time it is reached (what is shared counts as often as it is met; a slice's spare places count too). A statement '..UptoSaid' is the law's where the arguments, and the package variables that the reading takes, are together of bulk at most 1048576: NARROWER than '..Said'. Prove '..Said' where nothing that the law and all that it calls make is longer than what came in: it says more and counts as full. Else prove '..UptoSaid'. A law counts once. -/
mutual
def uptoBulk {H : Type} : DataW H → Nat
  | .lit (.string bytes) => bytes.length + 1
  | .lit _ => 1
  | .nil => 1
  | .ptr d => uptoBulk d + 1
  | .slice elems spare => uptoBulkAll elems + uptoBulkAll spare + 1
  | .agg parts => uptoBulkAll parts + 1
  | .iface _ d => uptoBulk d + 1
  | .map entries => uptoBulkEntries entries + 1
  | .held _ => 1
def uptoBulkAll {H : Type} : List (DataW H) → Nat
  | [] => 0
  | d :: r => uptoBulk d + uptoBulkAll r
def uptoBulkEntries {H : Type} : List (Lit × DataW H) → Nat
  | [] => 0
  | x :: r => uptoBulkEntry x + uptoBulkEntries r
def uptoBulkEntry {H : Type} : Lit × DataW H → Nat
  | (.string bytes, d) => bytes.length + uptoBulk d + 1
  | (_, d) => uptoBulk d + 1
 end
def uptoSmall : (H : Type) → List (DataW H) → Bool := fun _ ds => decide (uptoBulkAll ds ≤ 1048576)
def OpenSpec.upto (s : _root_.Go.ChangeSpec) : _root_.Go.OpenSpec := { _root_.Go.OpenSpec.ofChange s with cond := some uptoSmall }

/-- 'stepwelllaw26.RunNodes', WHERE WHAT IT READS IS OF BULK AT MOST 1048576: true; the input reads as it did. -/
def runNodesUptoRow : OpenClaim := { program := "ytlbkekabmpienaagreat", sum := "6aa1b7664c12022d6a786b44f96745633e47740c1f89728e8c99fb264e5024ad", func := "stepwell/stepwelllaw26.RunNodes", spec := "runNodes", unfollowed := true, recurses := true, apart := false, narrowed := true }
def RunNodesUptoSaid : Prop := runNodesUptoRow.holds Tryz.pinned (OpenSpec.upto runNodesSpec)

/-- 'stepwelllaw26.RunShapes', WHERE WHAT IT READS IS OF BULK AT MOST 1048576: true; the input reads as it did. -/
def runShapesUptoRow : OpenClaim := { program := "ytlbkekabmpienaagreat", sum := "6aa1b7664c12022d6a786b44f96745633e47740c1f89728e8c99fb264e5024ad", func := "stepwell/stepwelllaw26.RunShapes", spec := "runShapes", unfollowed := true, recurses := true, apart := false, narrowed := true }
def RunShapesUptoSaid : Prop := runShapesUptoRow.holds Tryz.pinned (OpenSpec.upto runShapesSpec)

/-- 'stepwelllaw26.RunAgain', WHERE WHAT IT READS IS OF BULK AT MOST 1048576: true; the input reads as it did. -/
def runAgainUptoRow : OpenClaim := { program := "ytlbkekabmpienaagreat", sum := "6aa1b7664c12022d6a786b44f96745633e47740c1f89728e8c99fb264e5024ad", func := "stepwell/stepwelllaw26.RunAgain", spec := "runAgain", unfollowed := true, recurses := true, apart := false, narrowed := true }
def RunAgainUptoSaid : Prop := runAgainUptoRow.holds Tryz.pinned (OpenSpec.upto runAgainSpec)

end Rows
end Go.Proofs.YtlbkekabmpienaaGreat
