/-
  No cell of these rows narrows 'for every input' (looked for: loops, veiled, ifaces, maps, wideKeys, modest, calm, conditions, laid).
  DERIVED. THE GIVEN ROWS OF THIS SEAT. 2 by the template 'for every input the law returns true; each argument reads behind the call as it read before'; 0 by the template 'total and deterministic' (their statements: YtanglfmolnfjeaaTotals.lean).
  GIVEN WITH THE SEED: the statements are not yours to turn. If you find one false, say at which input.
  Laid BY PROGRAM, IN A SANDBOX (cutbox-rows.mjs): the forced cells as the released guide's own fill.sh prints them over the translation 5fd25f8d76c61dfd… (all of the seat's roots in one cut). By AI agents, Wed Nov 11 2026. No macro, syntax, notation, axiom, sorry.
-/
import Derived.Test.YtanglfmolnfjeaaChecked
import GoSem.Claim
import GoSem.ClaimJoined
import GoSem.ClaimMapViews
import Derived.JoinedTies
import Derived.KernelRfl
namespace Go.Proofs.Ytanglfmolnfjeaa
/- THE CELL 'sum', in the pinned program and in every row, IS THE sha256 OF THE DUMP (.gsa) THAT YtanglfmolnfjeaaProg.lean LOADS. Nothing in Lean hashes anything: it is a label: what it is worth is what the hold of that sum in a sandbox is worth. -/
noncomputable def Try.pinned : Pinned := { name := "ytanglfmolnfjeaa", sum := "5fd25f8d76c61dfdf3f3a1bd97f674a66861a58ca942fd0204c591d3737f00e4", checked := Try.checked }
namespace Rows
def none {H : Type} : Left H := { results := [], args := [] }

/-- 'stepwelllaw37.SavePuts': WHATEVER THE INPUT: true; the input reads as it did. -/
def savePutsSpec : ChangeSpec := { name := "savePuts", fn := fun _ => fun
  | [d1, d2] => { results := [.lit (.bool true)], args := [d1, d2] }
  | _ => none }
def savePutsRow : OpenClaim := { program := "ytanglfmolnfjeaa", sum := "5fd25f8d76c61dfdf3f3a1bd97f674a66861a58ca942fd0204c591d3737f00e4", func := "stepwell/stepwelllaw37.SavePuts", spec := "savePuts", unfollowed := true, recurses := true, apart := false }
def SavePutsSaid : Prop := savePutsRow.holds Try.pinned (OpenSpec.ofChange savePutsSpec)

/-- ITS FALSE NEIGHBOUR: 'it returns false'. Refute it at one input. -/
def savePutsWrong : ChangeSpec := { name := "savePuts", fn := fun _ => fun
  | [d1, d2] => { results := [.lit (.bool false)], args := [d1, d2] }
  | _ => none }
def SavePutsWrongFalsely : Prop := savePutsRow.holds Try.pinned (OpenSpec.ofChange savePutsWrong)

/-- 'stepwelllaw37.SaveBack': WHATEVER THE INPUT: true; the input reads as it did. -/
def saveBackSpec : ChangeSpec := { name := "saveBack", fn := fun _ => fun
  | [d1, d2] => { results := [.lit (.bool true)], args := [d1, d2] }
  | _ => none }
def saveBackRow : OpenClaim := { program := "ytanglfmolnfjeaa", sum := "5fd25f8d76c61dfdf3f3a1bd97f674a66861a58ca942fd0204c591d3737f00e4", func := "stepwell/stepwelllaw37.SaveBack", spec := "saveBack", unfollowed := true, recurses := true, apart := false }
def SaveBackSaid : Prop := saveBackRow.holds Try.pinned (OpenSpec.ofChange saveBackSpec)

/-- ITS FALSE NEIGHBOUR: 'it returns false'. Refute it at one input. -/
def saveBackWrong : ChangeSpec := { name := "saveBack", fn := fun _ => fun
  | [d1, d2] => { results := [.lit (.bool false)], args := [d1, d2] }
  | _ => none }
def SaveBackWrongFalsely : Prop := saveBackRow.holds Try.pinned (OpenSpec.ofChange saveBackWrong)

/- THE SECOND FORM. 'bulk': how many values and letters a reading holds, each counted each time it is reached (what is shared counts as often as it is met; a slice's spare places count too). A statement '..UptoSaid' is the law's where the arguments, and the package variables that the reading takes, are together of bulk at most 1048576: NARROWER than '..Said'. Prove '..Said' where nothing that the law and all that it calls make is longer than what came in: it says more and counts as full. Else prove '..UptoSaid'. A law counts once. -/
mutual
def uptoBulk {H : Type} : DataW H → Nat
  | .lit (.string bytes) => bytes.length + 1
  | .lit _ => 1
  | .nil => 1
  | .ptr d => uptoBulk d + 1
  | .slice elems spare => uptoBulkAll elems + uptoBulkAll spare + 1
  | .agg parts => uptoBulkAll parts + 1
  | .iface _ d => uptoBulk d + 1
  | .map entries => uptoBulkEntries entries + 1
  | .held _ => 1
def uptoBulkAll {H : Type} : List (DataW H) → Nat
  | [] => 0
  | d :: r => uptoBulk d + uptoBulkAll r
def uptoBulkEntries {H : Type} : List (Lit × DataW H) → Nat
  | [] => 0
  | x :: r => uptoBulkEntry x + uptoBulkEntries r
def uptoBulkEntry {H : Type} : Lit × DataW H → Nat
  | (.string bytes, d) => bytes.length + uptoBulk d + 1
  | (_, d) => uptoBulk d + 1
 end
def uptoSmall : (H : Type) → List (DataW H) → Bool := fun _ ds => decide (uptoBulkAll ds ≤ 1048576)
def OpenSpec.upto (s : _root_.Go.ChangeSpec) : _root_.Go.OpenSpec := { _root_.Go.OpenSpec.ofChange s with cond := some uptoSmall }

/-- 'stepwelllaw37.SavePuts', WHERE WHAT IT READS IS OF BULK AT MOST 1048576: true; the input reads as it did. -/
def savePutsUptoRow : OpenClaim := { program := "ytanglfmolnfjeaa", sum := "5fd25f8d76c61dfdf3f3a1bd97f674a66861a58ca942fd0204c591d3737f00e4", func := "stepwell/stepwelllaw37.SavePuts", spec := "savePuts", unfollowed := true, recurses := true, apart := false, narrowed := true }
def SavePutsUptoSaid : Prop := savePutsUptoRow.holds Try.pinned (OpenSpec.upto savePutsSpec)

/-- 'stepwelllaw37.SaveBack', WHERE WHAT IT READS IS OF BULK AT MOST 1048576: true; the input reads as it did. -/
def saveBackUptoRow : OpenClaim := { program := "ytanglfmolnfjeaa", sum := "5fd25f8d76c61dfdf3f3a1bd97f674a66861a58ca942fd0204c591d3737f00e4", func := "stepwell/stepwelllaw37.SaveBack", spec := "saveBack", unfollowed := true, recurses := true, apart := false, narrowed := true }
def SaveBackUptoSaid : Prop := saveBackUptoRow.holds Try.pinned (OpenSpec.upto saveBackSpec)

end Rows
end Go.Proofs.Ytanglfmolnfjeaa
