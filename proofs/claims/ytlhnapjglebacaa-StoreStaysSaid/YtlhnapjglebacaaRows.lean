/-
  No cell of these rows narrows 'for every input' (looked for: loops, veiled, ifaces, maps, wideKeys, modest, calm, conditions, laid).
  DERIVED. THE GIVEN ROWS OF THIS SEAT. 12 by the template 'for every input the law returns true; each argument reads behind the call as it read before'; 0 by the template 'total and deterministic' (their statements: YtlhnapjglebacaaTotals.lean).
  GIVEN WITH THE SEED: the statements are not yours to turn. If you find one false, say at which input.
  Laid BY PROGRAM, IN A SANDBOX (cutbox-rows.mjs): the forced cells as the released guide's own fill.sh prints them over the translation cb1efcf333f38b91… (all of the seat's roots in one cut). By AI agents, Wed Nov 11 2026. No macro, syntax, notation, axiom, sorry.
-/
import Derived.Test.YtlhnapjglebacaaChecked
import GoSem.Claim
import GoSem.ClaimJoined
import GoSem.ClaimMapViews
import Derived.JoinedTies
import Derived.KernelRfl
namespace Go.Proofs.Ytlhnapjglebacaa
/- THE CELL 'sum', in the pinned program and in every row, IS THE sha256 OF THE DUMP (.gsa) THAT YtlhnapjglebacaaProg.lean LOADS. Nothing in Lean hashes anything: it is a label: what it is worth is what the hold of that sum in a sandbox is worth. -/
noncomputable def Try.pinned : Pinned := { name := "ytlhnapjglebacaa", sum := "cb1efcf333f38b910f9d75ca52f92aeb5f0c3789ccf93ea00658fc23e56b2a4e", checked := Try.checked }
namespace Rows
def none {H : Type} : Left H := { results := [], args := [] }

/-- 'stepwelllaw53.TuneLeast': WHATEVER THE INPUT: true; the input reads as it did. -/
def tuneLeastSpec : ChangeSpec := { name := "tuneLeast", fn := fun _ => fun
  | [d] => { results := [.lit (.bool true)], args := [d] }
  | _ => none }
def tuneLeastRow : OpenClaim := { program := "ytlhnapjglebacaa", sum := "cb1efcf333f38b910f9d75ca52f92aeb5f0c3789ccf93ea00658fc23e56b2a4e", func := "stepwell/stepwelllaw53.TuneLeast", spec := "tuneLeast", unfollowed := true, recurses := true, apart := false }
def TuneLeastSaid : Prop := tuneLeastRow.holds Try.pinned (OpenSpec.ofChange tuneLeastSpec)

/-- ITS FALSE NEIGHBOUR: 'it returns false'. Refute it at one input. -/
def tuneLeastWrong : ChangeSpec := { name := "tuneLeast", fn := fun _ => fun
  | [d] => { results := [.lit (.bool false)], args := [d] }
  | _ => none }
def TuneLeastWrongFalsely : Prop := tuneLeastRow.holds Try.pinned (OpenSpec.ofChange tuneLeastWrong)

/-- 'stepwelllaw18.DenseLine': WHATEVER THE INPUT: true; the input reads as it did. -/
def denseLineSpec : ChangeSpec := { name := "denseLine", fn := fun _ => fun
  | [d1, d2, d3, d4] => { results := [.lit (.bool true)], args := [d1, d2, d3, d4] }
  | _ => none }
def denseLineRow : OpenClaim := { program := "ytlhnapjglebacaa", sum := "cb1efcf333f38b910f9d75ca52f92aeb5f0c3789ccf93ea00658fc23e56b2a4e", func := "stepwell/stepwelllaw18.DenseLine", spec := "denseLine", unfollowed := true, recurses := true, apart := false }
def DenseLineSaid : Prop := denseLineRow.holds Try.pinned (OpenSpec.ofChange denseLineSpec)

/-- ITS FALSE NEIGHBOUR: 'it returns false'. Refute it at one input. -/
def denseLineWrong : ChangeSpec := { name := "denseLine", fn := fun _ => fun
  | [d1, d2, d3, d4] => { results := [.lit (.bool false)], args := [d1, d2, d3, d4] }
  | _ => none }
def DenseLineWrongFalsely : Prop := denseLineRow.holds Try.pinned (OpenSpec.ofChange denseLineWrong)

/-- 'stepwelllaw18.DensePlus': WHATEVER THE INPUT: true; the input reads as it did. -/
def densePlusSpec : ChangeSpec := { name := "densePlus", fn := fun _ => fun
  | [d1, d2, d3, d4, d5] => { results := [.lit (.bool true)], args := [d1, d2, d3, d4, d5] }
  | _ => none }
def densePlusRow : OpenClaim := { program := "ytlhnapjglebacaa", sum := "cb1efcf333f38b910f9d75ca52f92aeb5f0c3789ccf93ea00658fc23e56b2a4e", func := "stepwell/stepwelllaw18.DensePlus", spec := "densePlus", unfollowed := true, recurses := true, apart := false }
def DensePlusSaid : Prop := densePlusRow.holds Try.pinned (OpenSpec.ofChange densePlusSpec)

/-- ITS FALSE NEIGHBOUR: 'it returns false'. Refute it at one input. -/
def densePlusWrong : ChangeSpec := { name := "densePlus", fn := fun _ => fun
  | [d1, d2, d3, d4, d5] => { results := [.lit (.bool false)], args := [d1, d2, d3, d4, d5] }
  | _ => none }
def DensePlusWrongFalsely : Prop := densePlusRow.holds Try.pinned (OpenSpec.ofChange densePlusWrong)

/-- 'stepwelllaw47.AuditRight': WHATEVER THE INPUT: true; the input reads as it did. -/
def auditRightSpec : ChangeSpec := { name := "auditRight", fn := fun _ => fun
  | [d1, d2, d3] => { results := [.lit (.bool true)], args := [d1, d2, d3] }
  | _ => none }
def auditRightRow : OpenClaim := { program := "ytlhnapjglebacaa", sum := "cb1efcf333f38b910f9d75ca52f92aeb5f0c3789ccf93ea00658fc23e56b2a4e", func := "stepwell/stepwelllaw47.AuditRight", spec := "auditRight", unfollowed := true, recurses := true, apart := false }
def AuditRightSaid : Prop := auditRightRow.holds Try.pinned (OpenSpec.ofChange auditRightSpec)

/-- ITS FALSE NEIGHBOUR: 'it returns false'. Refute it at one input. -/
def auditRightWrong : ChangeSpec := { name := "auditRight", fn := fun _ => fun
  | [d1, d2, d3] => { results := [.lit (.bool false)], args := [d1, d2, d3] }
  | _ => none }
def AuditRightWrongFalsely : Prop := auditRightRow.holds Try.pinned (OpenSpec.ofChange auditRightWrong)

/-- 'stepwelllaw23.TurnTensors': WHATEVER THE INPUT: true; the input reads as it did. -/
def turnTensorsSpec : ChangeSpec := { name := "turnTensors", fn := fun _ => fun
  | [d1, d2] => { results := [.lit (.bool true)], args := [d1, d2] }
  | _ => none }
def turnTensorsRow : OpenClaim := { program := "ytlhnapjglebacaa", sum := "cb1efcf333f38b910f9d75ca52f92aeb5f0c3789ccf93ea00658fc23e56b2a4e", func := "stepwell/stepwelllaw23.TurnTensors", spec := "turnTensors", unfollowed := true, recurses := true, apart := false }
def TurnTensorsSaid : Prop := turnTensorsRow.holds Try.pinned (OpenSpec.ofChange turnTensorsSpec)

/-- ITS FALSE NEIGHBOUR: 'it returns false'. Refute it at one input. -/
def turnTensorsWrong : ChangeSpec := { name := "turnTensors", fn := fun _ => fun
  | [d1, d2] => { results := [.lit (.bool false)], args := [d1, d2] }
  | _ => none }
def TurnTensorsWrongFalsely : Prop := turnTensorsRow.holds Try.pinned (OpenSpec.ofChange turnTensorsWrong)

/-- 'stepwelllaw23.TurnAgain': WHATEVER THE INPUT: true; the input reads as it did. -/
def turnAgainSpec : ChangeSpec := { name := "turnAgain", fn := fun _ => fun
  | [d1, d2, d3] => { results := [.lit (.bool true)], args := [d1, d2, d3] }
  | _ => none }
def turnAgainRow : OpenClaim := { program := "ytlhnapjglebacaa", sum := "cb1efcf333f38b910f9d75ca52f92aeb5f0c3789ccf93ea00658fc23e56b2a4e", func := "stepwell/stepwelllaw23.TurnAgain", spec := "turnAgain", unfollowed := true, recurses := true, apart := false }
def TurnAgainSaid : Prop := turnAgainRow.holds Try.pinned (OpenSpec.ofChange turnAgainSpec)

/-- ITS FALSE NEIGHBOUR: 'it returns false'. Refute it at one input. -/
def turnAgainWrong : ChangeSpec := { name := "turnAgain", fn := fun _ => fun
  | [d1, d2, d3] => { results := [.lit (.bool false)], args := [d1, d2, d3] }
  | _ => none }
def TurnAgainWrongFalsely : Prop := turnAgainRow.holds Try.pinned (OpenSpec.ofChange turnAgainWrong)

/-- 'stepwelllaw18.DenseSums': WHATEVER THE INPUT: true; the input reads as it did. -/
def denseSumsSpec : ChangeSpec := { name := "denseSums", fn := fun _ => fun
  | [d1, d2] => { results := [.lit (.bool true)], args := [d1, d2] }
  | _ => none }
def denseSumsRow : OpenClaim := { program := "ytlhnapjglebacaa", sum := "cb1efcf333f38b910f9d75ca52f92aeb5f0c3789ccf93ea00658fc23e56b2a4e", func := "stepwell/stepwelllaw18.DenseSums", spec := "denseSums", unfollowed := true, recurses := true, apart := false }
def DenseSumsSaid : Prop := denseSumsRow.holds Try.pinned (OpenSpec.ofChange denseSumsSpec)

/-- ITS FALSE NEIGHBOUR: 'it returns false'. Refute it at one input. -/
def denseSumsWrong : ChangeSpec := { name := "denseSums", fn := fun _ => fun
  | [d1, d2] => { results := [.lit (.bool false)], args := [d1, d2] }
  | _ => none }
def DenseSumsWrongFalsely : Prop := denseSumsRow.holds Try.pinned (OpenSpec.ofChange denseSumsWrong)

/-- 'stepwelllaw41.RingFair': WHATEVER THE INPUT: true; the input reads as it did. -/
def ringFairSpec : ChangeSpec := { name := "ringFair", fn := fun _ => fun
  | [d1, d2] => { results := [.lit (.bool true)], args := [d1, d2] }
  | _ => none }
def ringFairRow : OpenClaim := { program := "ytlhnapjglebacaa", sum := "cb1efcf333f38b910f9d75ca52f92aeb5f0c3789ccf93ea00658fc23e56b2a4e", func := "stepwell/stepwelllaw41.RingFair", spec := "ringFair", apart := false }
def RingFairSaid : Prop := ringFairRow.holds Try.pinned (OpenSpec.ofChange ringFairSpec)

/-- ITS FALSE NEIGHBOUR: 'it returns false'. Refute it at one input. -/
def ringFairWrong : ChangeSpec := { name := "ringFair", fn := fun _ => fun
  | [d1, d2] => { results := [.lit (.bool false)], args := [d1, d2] }
  | _ => none }
def RingFairWrongFalsely : Prop := ringFairRow.holds Try.pinned (OpenSpec.ofChange ringFairWrong)

/-- 'stepwelllaw42.StorePlays': WHATEVER THE INPUT: true; the input reads as it did. -/
def storePlaysSpec : ChangeSpec := { name := "storePlays", fn := fun _ => fun
  | [d1, d2] => { results := [.lit (.bool true)], args := [d1, d2] }
  | _ => none }
def storePlaysRow : OpenClaim := { program := "ytlhnapjglebacaa", sum := "cb1efcf333f38b910f9d75ca52f92aeb5f0c3789ccf93ea00658fc23e56b2a4e", func := "stepwell/stepwelllaw42.StorePlays", spec := "storePlays", apart := false }
def StorePlaysSaid : Prop := storePlaysRow.holds Try.pinned (OpenSpec.ofChange storePlaysSpec)

/-- ITS FALSE NEIGHBOUR: 'it returns false'. Refute it at one input. -/
def storePlaysWrong : ChangeSpec := { name := "storePlays", fn := fun _ => fun
  | [d1, d2] => { results := [.lit (.bool false)], args := [d1, d2] }
  | _ => none }
def StorePlaysWrongFalsely : Prop := storePlaysRow.holds Try.pinned (OpenSpec.ofChange storePlaysWrong)

/-- 'stepwelllaw42.StoreStays': WHATEVER THE INPUT: true; the input reads as it did. -/
def storeStaysSpec : ChangeSpec := { name := "storeStays", fn := fun _ => fun
  | [d1, d2] => { results := [.lit (.bool true)], args := [d1, d2] }
  | _ => none }
def storeStaysRow : OpenClaim := { program := "ytlhnapjglebacaa", sum := "cb1efcf333f38b910f9d75ca52f92aeb5f0c3789ccf93ea00658fc23e56b2a4e", func := "stepwell/stepwelllaw42.StoreStays", spec := "storeStays", apart := false }
def StoreStaysSaid : Prop := storeStaysRow.holds Try.pinned (OpenSpec.ofChange storeStaysSpec)

/-- ITS FALSE NEIGHBOUR: 'it returns false'. Refute it at one input. -/
def storeStaysWrong : ChangeSpec := { name := "storeStays", fn := fun _ => fun
  | [d1, d2] => { results := [.lit (.bool false)], args := [d1, d2] }
  | _ => none }
def StoreStaysWrongFalsely : Prop := storeStaysRow.holds Try.pinned (OpenSpec.ofChange storeStaysWrong)

/-- 'stepwelllaw42.StoreNone': WHATEVER THE INPUT: true; the input reads as it did. -/
def storeNoneSpec : ChangeSpec := { name := "storeNone", fn := fun _ => fun
  | [d1, d2] => { results := [.lit (.bool true)], args := [d1, d2] }
  | _ => none }
def storeNoneRow : OpenClaim := { program := "ytlhnapjglebacaa", sum := "cb1efcf333f38b910f9d75ca52f92aeb5f0c3789ccf93ea00658fc23e56b2a4e", func := "stepwell/stepwelllaw42.StoreNone", spec := "storeNone", apart := false }
def StoreNoneSaid : Prop := storeNoneRow.holds Try.pinned (OpenSpec.ofChange storeNoneSpec)

/-- ITS FALSE NEIGHBOUR: 'it returns false'. Refute it at one input. -/
def storeNoneWrong : ChangeSpec := { name := "storeNone", fn := fun _ => fun
  | [d1, d2] => { results := [.lit (.bool false)], args := [d1, d2] }
  | _ => none }
def StoreNoneWrongFalsely : Prop := storeNoneRow.holds Try.pinned (OpenSpec.ofChange storeNoneWrong)

/-- 'stepwelllaw23.TurnViews': WHATEVER THE INPUT: true; the input reads as it did. -/
def turnViewsSpec : ChangeSpec := { name := "turnViews", fn := fun _ => fun
  | [d1, d2] => { results := [.lit (.bool true)], args := [d1, d2] }
  | _ => none }
def turnViewsRow : OpenClaim := { program := "ytlhnapjglebacaa", sum := "cb1efcf333f38b910f9d75ca52f92aeb5f0c3789ccf93ea00658fc23e56b2a4e", func := "stepwell/stepwelllaw23.TurnViews", spec := "turnViews", unfollowed := true, recurses := true, apart := false }
def TurnViewsSaid : Prop := turnViewsRow.holds Try.pinned (OpenSpec.ofChange turnViewsSpec)

/-- ITS FALSE NEIGHBOUR: 'it returns false'. Refute it at one input. -/
def turnViewsWrong : ChangeSpec := { name := "turnViews", fn := fun _ => fun
  | [d1, d2] => { results := [.lit (.bool false)], args := [d1, d2] }
  | _ => none }
def TurnViewsWrongFalsely : Prop := turnViewsRow.holds Try.pinned (OpenSpec.ofChange turnViewsWrong)

/- THE SECOND FORM. 'bulk': how many values and letters a reading holds, each counted each time it is reached (what is shared counts as often as it is met; a slice's spare places count too). A statement '..UptoSaid' is the law's where the arguments, and the package variables that the reading takes, are together of bulk at most 1048576: NARROWER than '..Said'. Prove '..Said' where nothing that the law and all that it calls make is longer than what came in: it says more and counts as full. Else prove '..UptoSaid'. A law counts once. -/
mutual
def uptoBulk {H : Type} : DataW H → Nat
  | .lit (.string bytes) => bytes.length + 1
  | .lit _ => 1
  | .nil => 1
  | .ptr d => uptoBulk d + 1
  | .slice elems spare => uptoBulkAll elems + uptoBulkAll spare + 1
  | .agg parts => uptoBulkAll parts + 1
  | .iface _ d => uptoBulk d + 1
  | .map entries => uptoBulkEntries entries + 1
  | .held _ => 1
def uptoBulkAll {H : Type} : List (DataW H) → Nat
  | [] => 0
  | d :: r => uptoBulk d + uptoBulkAll r
def uptoBulkEntries {H : Type} : List (Lit × DataW H) → Nat
  | [] => 0
  | x :: r => uptoBulkEntry x + uptoBulkEntries r
def uptoBulkEntry {H : Type} : Lit × DataW H → Nat
  | (.string bytes, d) => bytes.length + uptoBulk d + 1
  | (_, d) => uptoBulk d + 1
 end
def uptoSmall : (H : Type) → List (DataW H) → Bool := fun _ ds => decide (uptoBulkAll ds ≤ 1048576)
def OpenSpec.upto (s : _root_.Go.ChangeSpec) : _root_.Go.OpenSpec := { _root_.Go.OpenSpec.ofChange s with cond := some uptoSmall }

/-- 'stepwelllaw53.TuneLeast', WHERE WHAT IT READS IS OF BULK AT MOST 1048576: true; the input reads as it did. -/
def tuneLeastUptoRow : OpenClaim := { program := "ytlhnapjglebacaa", sum := "cb1efcf333f38b910f9d75ca52f92aeb5f0c3789ccf93ea00658fc23e56b2a4e", func := "stepwell/stepwelllaw53.TuneLeast", spec := "tuneLeast", unfollowed := true, recurses := true, apart := false, narrowed := true }
def TuneLeastUptoSaid : Prop := tuneLeastUptoRow.holds Try.pinned (OpenSpec.upto tuneLeastSpec)

/-- 'stepwelllaw18.DenseLine', WHERE WHAT IT READS IS OF BULK AT MOST 1048576: true; the input reads as it did. -/
def denseLineUptoRow : OpenClaim := { program := "ytlhnapjglebacaa", sum := "cb1efcf333f38b910f9d75ca52f92aeb5f0c3789ccf93ea00658fc23e56b2a4e", func := "stepwell/stepwelllaw18.DenseLine", spec := "denseLine", unfollowed := true, recurses := true, apart := false, narrowed := true }
def DenseLineUptoSaid : Prop := denseLineUptoRow.holds Try.pinned (OpenSpec.upto denseLineSpec)

/-- 'stepwelllaw18.DensePlus', WHERE WHAT IT READS IS OF BULK AT MOST 1048576: true; the input reads as it did. -/
def densePlusUptoRow : OpenClaim := { program := "ytlhnapjglebacaa", sum := "cb1efcf333f38b910f9d75ca52f92aeb5f0c3789ccf93ea00658fc23e56b2a4e", func := "stepwell/stepwelllaw18.DensePlus", spec := "densePlus", unfollowed := true, recurses := true, apart := false, narrowed := true }
def DensePlusUptoSaid : Prop := densePlusUptoRow.holds Try.pinned (OpenSpec.upto densePlusSpec)

/-- 'stepwelllaw47.AuditRight', WHERE WHAT IT READS IS OF BULK AT MOST 1048576: true; the input reads as it did. -/
def auditRightUptoRow : OpenClaim := { program := "ytlhnapjglebacaa", sum := "cb1efcf333f38b910f9d75ca52f92aeb5f0c3789ccf93ea00658fc23e56b2a4e", func := "stepwell/stepwelllaw47.AuditRight", spec := "auditRight", unfollowed := true, recurses := true, apart := false, narrowed := true }
def AuditRightUptoSaid : Prop := auditRightUptoRow.holds Try.pinned (OpenSpec.upto auditRightSpec)

/-- 'stepwelllaw23.TurnTensors', WHERE WHAT IT READS IS OF BULK AT MOST 1048576: true; the input reads as it did. -/
def turnTensorsUptoRow : OpenClaim := { program := "ytlhnapjglebacaa", sum := "cb1efcf333f38b910f9d75ca52f92aeb5f0c3789ccf93ea00658fc23e56b2a4e", func := "stepwell/stepwelllaw23.TurnTensors", spec := "turnTensors", unfollowed := true, recurses := true, apart := false, narrowed := true }
def TurnTensorsUptoSaid : Prop := turnTensorsUptoRow.holds Try.pinned (OpenSpec.upto turnTensorsSpec)

/-- 'stepwelllaw23.TurnAgain', WHERE WHAT IT READS IS OF BULK AT MOST 1048576: true; the input reads as it did. -/
def turnAgainUptoRow : OpenClaim := { program := "ytlhnapjglebacaa", sum := "cb1efcf333f38b910f9d75ca52f92aeb5f0c3789ccf93ea00658fc23e56b2a4e", func := "stepwell/stepwelllaw23.TurnAgain", spec := "turnAgain", unfollowed := true, recurses := true, apart := false, narrowed := true }
def TurnAgainUptoSaid : Prop := turnAgainUptoRow.holds Try.pinned (OpenSpec.upto turnAgainSpec)

/-- 'stepwelllaw18.DenseSums', WHERE WHAT IT READS IS OF BULK AT MOST 1048576: true; the input reads as it did. -/
def denseSumsUptoRow : OpenClaim := { program := "ytlhnapjglebacaa", sum := "cb1efcf333f38b910f9d75ca52f92aeb5f0c3789ccf93ea00658fc23e56b2a4e", func := "stepwell/stepwelllaw18.DenseSums", spec := "denseSums", unfollowed := true, recurses := true, apart := false, narrowed := true }
def DenseSumsUptoSaid : Prop := denseSumsUptoRow.holds Try.pinned (OpenSpec.upto denseSumsSpec)

/-- 'stepwelllaw41.RingFair', WHERE WHAT IT READS IS OF BULK AT MOST 1048576: true; the input reads as it did. -/
def ringFairUptoRow : OpenClaim := { program := "ytlhnapjglebacaa", sum := "cb1efcf333f38b910f9d75ca52f92aeb5f0c3789ccf93ea00658fc23e56b2a4e", func := "stepwell/stepwelllaw41.RingFair", spec := "ringFair", apart := false, narrowed := true }
def RingFairUptoSaid : Prop := ringFairUptoRow.holds Try.pinned (OpenSpec.upto ringFairSpec)

/-- 'stepwelllaw42.StorePlays', WHERE WHAT IT READS IS OF BULK AT MOST 1048576: true; the input reads as it did. -/
def storePlaysUptoRow : OpenClaim := { program := "ytlhnapjglebacaa", sum := "cb1efcf333f38b910f9d75ca52f92aeb5f0c3789ccf93ea00658fc23e56b2a4e", func := "stepwell/stepwelllaw42.StorePlays", spec := "storePlays", apart := false, narrowed := true }
def StorePlaysUptoSaid : Prop := storePlaysUptoRow.holds Try.pinned (OpenSpec.upto storePlaysSpec)

/-- 'stepwelllaw42.StoreStays', WHERE WHAT IT READS IS OF BULK AT MOST 1048576: true; the input reads as it did. -/
def storeStaysUptoRow : OpenClaim := { program := "ytlhnapjglebacaa", sum := "cb1efcf333f38b910f9d75ca52f92aeb5f0c3789ccf93ea00658fc23e56b2a4e", func := "stepwell/stepwelllaw42.StoreStays", spec := "storeStays", apart := false, narrowed := true }
def StoreStaysUptoSaid : Prop := storeStaysUptoRow.holds Try.pinned (OpenSpec.upto storeStaysSpec)

/-- 'stepwelllaw42.StoreNone', WHERE WHAT IT READS IS OF BULK AT MOST 1048576: true; the input reads as it did. -/
def storeNoneUptoRow : OpenClaim := { program := "ytlhnapjglebacaa", sum := "cb1efcf333f38b910f9d75ca52f92aeb5f0c3789ccf93ea00658fc23e56b2a4e", func := "stepwell/stepwelllaw42.StoreNone", spec := "storeNone", apart := false, narrowed := true }
def StoreNoneUptoSaid : Prop := storeNoneUptoRow.holds Try.pinned (OpenSpec.upto storeNoneSpec)

/-- 'stepwelllaw23.TurnViews', WHERE WHAT IT READS IS OF BULK AT MOST 1048576: true; the input reads as it did. -/
def turnViewsUptoRow : OpenClaim := { program := "ytlhnapjglebacaa", sum := "cb1efcf333f38b910f9d75ca52f92aeb5f0c3789ccf93ea00658fc23e56b2a4e", func := "stepwell/stepwelllaw23.TurnViews", spec := "turnViews", unfollowed := true, recurses := true, apart := false, narrowed := true }
def TurnViewsUptoSaid : Prop := turnViewsUptoRow.holds Try.pinned (OpenSpec.upto turnViewsSpec)

end Rows
end Go.Proofs.Ytlhnapjglebacaa
