/-
  No cell of these rows narrows 'for every input' (looked for: loops, veiled, ifaces, maps, wideKeys, modest, calm, conditions, laid).
  DERIVED. THE GIVEN ROWS OF THIS SEAT. 3 by the template 'for every input the law returns true; each argument reads behind the call as it read before'; 0 by the template 'total and deterministic' (their statements: YtbecbfpoahhpnaaGreatTotals.lean).
  GIVEN WITH THE SEED: the statements are not yours to turn. If you find one false, say at which input.
  Laid BY PROGRAM, IN A SANDBOX (cutbox-rows.mjs): the forced cells as the released guide's own fill.sh prints them over the translation 49197e89acbce7c6… (all of the seat's roots in one cut). By AI agents, Wed Nov 11 2026. No macro, syntax, notation, axiom, sorry.
-/
import Derived.Test.YtbecbfpoahhpnaaGreatChecked
import GoSem.Claim
import GoSem.ClaimJoined
import GoSem.ClaimMapViews
import Derived.JoinedTies
import Derived.KernelRfl
namespace Go.Proofs.YtbecbfpoahhpnaaGreat
/- THE CELL 'sum', in the pinned program and in every row, IS THE sha256 OF THE DUMP (.gsa) THAT YtbecbfpoahhpnaaGreatProg.lean LOADS. Nothing in Lean hashes anything: it is a label: what it is worth is what the hold of that sum in a sandbox is worth. -/
noncomputable def Tryz.pinned : Pinned := { name := "ytbecbfpoahhpnaagreat", sum := "49197e89acbce7c6cd23f1e5da1022592e24f2465e2ed77d72be7631147eba9f", checked := Tryz.checked }
namespace Rows
def none {H : Type} : Left H := { results := [], args := [] }

/-- 'stepwelllaw36.WalkEnds': WHATEVER THE INPUT: true; the input reads as it did. -/
def walkEndsSpec : ChangeSpec := { name := "walkEnds", fn := fun _ => fun
  | [d1, d2] => { results := [.lit (.bool true)], args := [d1, d2] }
  | _ => none }
def walkEndsRow : OpenClaim := { program := "ytbecbfpoahhpnaagreat", sum := "49197e89acbce7c6cd23f1e5da1022592e24f2465e2ed77d72be7631147eba9f", func := "stepwell/stepwelllaw36.WalkEnds", spec := "walkEnds", unfollowed := true, recurses := true, apart := false }
def WalkEndsSaid : Prop := walkEndsRow.holds Tryz.pinned (OpenSpec.ofChange walkEndsSpec)

/-- ITS FALSE NEIGHBOUR: 'it returns false'. Refute it at one input. -/
def walkEndsWrong : ChangeSpec := { name := "walkEnds", fn := fun _ => fun
  | [d1, d2] => { results := [.lit (.bool false)], args := [d1, d2] }
  | _ => none }
def WalkEndsWrongFalsely : Prop := walkEndsRow.holds Tryz.pinned (OpenSpec.ofChange walkEndsWrong)

/-- 'stepwelllaw38.PathAnswers': WHATEVER THE INPUT: true; the input reads as it did. -/
def pathAnswersSpec : ChangeSpec := { name := "pathAnswers", fn := fun _ => fun
  | [d1, d2, d3] => { results := [.lit (.bool true)], args := [d1, d2, d3] }
  | _ => none }
def pathAnswersRow : OpenClaim := { program := "ytbecbfpoahhpnaagreat", sum := "49197e89acbce7c6cd23f1e5da1022592e24f2465e2ed77d72be7631147eba9f", func := "stepwell/stepwelllaw38.PathAnswers", spec := "pathAnswers", unfollowed := true, recurses := true, apart := false }
def PathAnswersSaid : Prop := pathAnswersRow.holds Tryz.pinned (OpenSpec.ofChange pathAnswersSpec)

/-- ITS FALSE NEIGHBOUR: 'it returns false'. Refute it at one input. -/
def pathAnswersWrong : ChangeSpec := { name := "pathAnswers", fn := fun _ => fun
  | [d1, d2, d3] => { results := [.lit (.bool false)], args := [d1, d2, d3] }
  | _ => none }
def PathAnswersWrongFalsely : Prop := pathAnswersRow.holds Tryz.pinned (OpenSpec.ofChange pathAnswersWrong)

/-- 'stepwelllaw54.RoundsEnd': WHATEVER THE INPUT: true; the input reads as it did. -/
def roundsEndSpec : ChangeSpec := { name := "roundsEnd", fn := fun _ => fun
  | [d1, d2] => { results := [.lit (.bool true)], args := [d1, d2] }
  | _ => none }
def roundsEndRow : OpenClaim := { program := "ytbecbfpoahhpnaagreat", sum := "49197e89acbce7c6cd23f1e5da1022592e24f2465e2ed77d72be7631147eba9f", func := "stepwell/stepwelllaw54.RoundsEnd", spec := "roundsEnd", unfollowed := true, recurses := true, apart := false }
def RoundsEndSaid : Prop := roundsEndRow.holds Tryz.pinned (OpenSpec.ofChange roundsEndSpec)

/-- ITS FALSE NEIGHBOUR: 'it returns false'. Refute it at one input. -/
def roundsEndWrong : ChangeSpec := { name := "roundsEnd", fn := fun _ => fun
  | [d1, d2] => { results := [.lit (.bool false)], args := [d1, d2] }
  | _ => none }
def RoundsEndWrongFalsely : Prop := roundsEndRow.holds Tryz.pinned (OpenSpec.ofChange roundsEndWrong)

/- THE SECOND FORM. 'bulk': how many values and letters a reading holds, each counted each time it is reached (what is shared counts as often as it is met; a slice's spare places count too). A statement '..UptoSaid' is the law's where the arguments, and the package variables that the reading takes, are together of bulk at most 1048576: NARROWER than '..Said'. Prove '..Said' where nothing that the law and all that it calls make is longer than what came in: it says more and counts as full. Else prove '..UptoSaid'. A law counts once. -/
mutual
def uptoBulk {H : Type} : DataW H → Nat
  | .lit (.string bytes) => bytes.length + 1
  | .lit _ => 1
  | .nil => 1
  | .ptr d => uptoBulk d + 1
  | .slice elems spare => uptoBulkAll elems + uptoBulkAll spare + 1
  | .agg parts => uptoBulkAll parts + 1
  | .iface _ d => uptoBulk d + 1
  | .map entries => uptoBulkEntries entries + 1
  | .held _ => 1
def uptoBulkAll {H : Type} : List (DataW H) → Nat
  | [] => 0
  | d :: r => uptoBulk d + uptoBulkAll r
def uptoBulkEntries {H : Type} : List (Lit × DataW H) → Nat
  | [] => 0
  | x :: r => uptoBulkEntry x + uptoBulkEntries r
def uptoBulkEntry {H : Type} : Lit × DataW H → Nat
  | (.string bytes, d) => bytes.length + uptoBulk d + 1
  | (_, d) => uptoBulk d + 1
 end
def uptoSmall : (H : Type) → List (DataW H) → Bool := fun _ ds => decide (uptoBulkAll ds ≤ 1048576)
def OpenSpec.upto (s : _root_.Go.ChangeSpec) : _root_.Go.OpenSpec := { _root_.Go.OpenSpec.ofChange s with cond := some uptoSmall }

/-- 'stepwelllaw36.WalkEnds', WHERE WHAT IT READS IS OF BULK AT MOST 1048576: true; the input reads as it did. -/
def walkEndsUptoRow : OpenClaim := { program := "ytbecbfpoahhpnaagreat", sum := "49197e89acbce7c6cd23f1e5da1022592e24f2465e2ed77d72be7631147eba9f", func := "stepwell/stepwelllaw36.WalkEnds", spec := "walkEnds", unfollowed := true, recurses := true, apart := false, narrowed := true }
def WalkEndsUptoSaid : Prop := walkEndsUptoRow.holds Tryz.pinned (OpenSpec.upto walkEndsSpec)

/-- 'stepwelllaw38.PathAnswers', WHERE WHAT IT READS IS OF BULK AT MOST 1048576: true; the input reads as it did. -/
def pathAnswersUptoRow : OpenClaim := { program := "ytbecbfpoahhpnaagreat", sum := "49197e89acbce7c6cd23f1e5da1022592e24f2465e2ed77d72be7631147eba9f", func := "stepwell/stepwelllaw38.PathAnswers", spec := "pathAnswers", unfollowed := true, recurses := true, apart := false, narrowed := true }
def PathAnswersUptoSaid : Prop := pathAnswersUptoRow.holds Tryz.pinned (OpenSpec.upto pathAnswersSpec)

/-- 'stepwelllaw54.RoundsEnd', WHERE WHAT IT READS IS OF BULK AT MOST 1048576: true; the input reads as it did. -/
def roundsEndUptoRow : OpenClaim := { program := "ytbecbfpoahhpnaagreat", sum := "49197e89acbce7c6cd23f1e5da1022592e24f2465e2ed77d72be7631147eba9f", func := "stepwell/stepwelllaw54.RoundsEnd", spec := "roundsEnd", unfollowed := true, recurses := true, apart := false, narrowed := true }
def RoundsEndUptoSaid : Prop := roundsEndUptoRow.holds Tryz.pinned (OpenSpec.upto roundsEndSpec)

end Rows
end Go.Proofs.YtbecbfpoahhpnaaGreat
