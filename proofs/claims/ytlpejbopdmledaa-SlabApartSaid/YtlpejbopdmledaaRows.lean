/-
  No cell of these rows narrows 'for every input' (looked for: loops, veiled, ifaces, maps, wideKeys, modest, calm, conditions, laid).
  DERIVED. THE GIVEN ROWS OF THIS SEAT. 3 by the template 'for every input the law returns true; each argument reads behind the call as it read before'; 0 by the template 'total and deterministic' (their statements: YtlpejbopdmledaaTotals.lean).
  GIVEN WITH THE SEED: the statements are not yours to turn. If you find one false, say at which input.
  Laid BY PROGRAM, IN A SANDBOX (cutbox-rows.mjs): the forced cells as the released guide's own fill.sh prints them over the translation 97afbe9ddf71eb0c… (all of the seat's roots in one cut). By AI agents, Wed Nov 11 2026. No macro, syntax, notation, axiom, sorry.
-/
import Derived.Test.YtlpejbopdmledaaChecked
import GoSem.Claim
import GoSem.ClaimJoined
import GoSem.ClaimMapViews
import Derived.JoinedTies
import Derived.KernelRfl
namespace Go.Proofs.Ytlpejbopdmledaa
/- THE CELL 'sum', in the pinned program and in every row, IS THE sha256 OF THE DUMP (.gsa) THAT YtlpejbopdmledaaProg.lean LOADS. Nothing in Lean hashes anything: it is a label: what it is worth is what the hold of that sum in a sandbox is worth. -/
noncomputable def Try.pinned : Pinned := { name := "ytlpejbopdmledaa", sum := "97afbe9ddf71eb0ca3a905f489fa4757e92406e66f700b7fd7134b9db2de7d67", checked := Try.checked }
namespace Rows
def none {H : Type} : Left H := { results := [], args := [] }

/-- 'stepwelllaw27.GraphShapes': WHATEVER THE INPUT: true; the input reads as it did. -/
def graphShapesSpec : ChangeSpec := { name := "graphShapes", fn := fun _ => fun
  | [d1, d2] => { results := [.lit (.bool true)], args := [d1, d2] }
  | _ => none }
def graphShapesRow : OpenClaim := { program := "ytlpejbopdmledaa", sum := "97afbe9ddf71eb0ca3a905f489fa4757e92406e66f700b7fd7134b9db2de7d67", func := "stepwell/stepwelllaw27.GraphShapes", spec := "graphShapes", apart := false }
def GraphShapesSaid : Prop := graphShapesRow.holds Try.pinned (OpenSpec.ofChange graphShapesSpec)

/-- ITS FALSE NEIGHBOUR: 'it returns false'. Refute it at one input. -/
def graphShapesWrong : ChangeSpec := { name := "graphShapes", fn := fun _ => fun
  | [d1, d2] => { results := [.lit (.bool false)], args := [d1, d2] }
  | _ => none }
def GraphShapesWrongFalsely : Prop := graphShapesRow.holds Try.pinned (OpenSpec.ofChange graphShapesWrong)

/-- 'stepwelllaw29.SlabPlans': WHATEVER THE INPUT: true; the input reads as it did. -/
def slabPlansSpec : ChangeSpec := { name := "slabPlans", fn := fun _ => fun
  | [d1, d2] => { results := [.lit (.bool true)], args := [d1, d2] }
  | _ => none }
def slabPlansRow : OpenClaim := { program := "ytlpejbopdmledaa", sum := "97afbe9ddf71eb0ca3a905f489fa4757e92406e66f700b7fd7134b9db2de7d67", func := "stepwell/stepwelllaw29.SlabPlans", spec := "slabPlans", unfollowed := true, recurses := true, apart := false }
def SlabPlansSaid : Prop := slabPlansRow.holds Try.pinned (OpenSpec.ofChange slabPlansSpec)

/-- ITS FALSE NEIGHBOUR: 'it returns false'. Refute it at one input. -/
def slabPlansWrong : ChangeSpec := { name := "slabPlans", fn := fun _ => fun
  | [d1, d2] => { results := [.lit (.bool false)], args := [d1, d2] }
  | _ => none }
def SlabPlansWrongFalsely : Prop := slabPlansRow.holds Try.pinned (OpenSpec.ofChange slabPlansWrong)

/-- 'stepwelllaw29.SlabApart': WHATEVER THE INPUT: true; the input reads as it did. -/
def slabApartSpec : ChangeSpec := { name := "slabApart", fn := fun _ => fun
  | [d1, d2] => { results := [.lit (.bool true)], args := [d1, d2] }
  | _ => none }
def slabApartRow : OpenClaim := { program := "ytlpejbopdmledaa", sum := "97afbe9ddf71eb0ca3a905f489fa4757e92406e66f700b7fd7134b9db2de7d67", func := "stepwell/stepwelllaw29.SlabApart", spec := "slabApart", unfollowed := true, recurses := true, apart := false }
def SlabApartSaid : Prop := slabApartRow.holds Try.pinned (OpenSpec.ofChange slabApartSpec)

/-- ITS FALSE NEIGHBOUR: 'it returns false'. Refute it at one input. -/
def slabApartWrong : ChangeSpec := { name := "slabApart", fn := fun _ => fun
  | [d1, d2] => { results := [.lit (.bool false)], args := [d1, d2] }
  | _ => none }
def SlabApartWrongFalsely : Prop := slabApartRow.holds Try.pinned (OpenSpec.ofChange slabApartWrong)

/- THE SECOND FORM. 'bulk': how many values and letters a reading holds, each counted each time it is reached (what is shared counts as often as it is met; a slice's spare places count too). A statement '..UptoSaid' is the law's where the arguments, and the package variables that the reading takes, are together of bulk at most 1048576: NARROWER than '..Said'. Prove '..Said' where nothing that the law and all that it calls make is longer than what came in: it says more and counts as full. Else prove '..UptoSaid'. A law counts once. -/
mutual
def uptoBulk {H : Type} : DataW H → Nat
  | .lit (.string bytes) => bytes.length + 1
  | .lit _ => 1
  | .nil => 1
  | .ptr d => uptoBulk d + 1
  | .slice elems spare => uptoBulkAll elems + uptoBulkAll spare + 1
  | .agg parts => uptoBulkAll parts + 1
  | .iface _ d => uptoBulk d + 1
  | .map entries => uptoBulkEntries entries + 1
  | .held _ => 1
def uptoBulkAll {H : Type} : List (DataW H) → Nat
  | [] => 0
  | d :: r => uptoBulk d + uptoBulkAll r
def uptoBulkEntries {H : Type} : List (Lit × DataW H) → Nat
  | [] => 0
  | x :: r => uptoBulkEntry x + uptoBulkEntries r
def uptoBulkEntry {H : Type} : Lit × DataW H → Nat
  | (.string bytes, d) => bytes.length + uptoBulk d + 1
  | (_, d) => uptoBulk d + 1
 end
def uptoSmall : (H : Type) → List (DataW H) → Bool := fun _ ds => decide (uptoBulkAll ds ≤ 1048576)
def OpenSpec.upto (s : _root_.Go.ChangeSpec) : _root_.Go.OpenSpec := { _root_.Go.OpenSpec.ofChange s with cond := some uptoSmall }

/-- 'stepwelllaw27.GraphShapes', WHERE WHAT IT READS IS OF BULK AT MOST 1048576: true; the input reads as it did. -/
def graphShapesUptoRow : OpenClaim := { program := "ytlpejbopdmledaa", sum := "97afbe9ddf71eb0ca3a905f489fa4757e92406e66f700b7fd7134b9db2de7d67", func := "stepwell/stepwelllaw27.GraphShapes", spec := "graphShapes", apart := false, narrowed := true }
def GraphShapesUptoSaid : Prop := graphShapesUptoRow.holds Try.pinned (OpenSpec.upto graphShapesSpec)

/-- 'stepwelllaw29.SlabPlans', WHERE WHAT IT READS IS OF BULK AT MOST 1048576: true; the input reads as it did. -/
def slabPlansUptoRow : OpenClaim := { program := "ytlpejbopdmledaa", sum := "97afbe9ddf71eb0ca3a905f489fa4757e92406e66f700b7fd7134b9db2de7d67", func := "stepwell/stepwelllaw29.SlabPlans", spec := "slabPlans", unfollowed := true, recurses := true, apart := false, narrowed := true }
def SlabPlansUptoSaid : Prop := slabPlansUptoRow.holds Try.pinned (OpenSpec.upto slabPlansSpec)

/-- 'stepwelllaw29.SlabApart', WHERE WHAT IT READS IS OF BULK AT MOST 1048576: true; the input reads as it did. -/
def slabApartUptoRow : OpenClaim := { program := "ytlpejbopdmledaa", sum := "97afbe9ddf71eb0ca3a905f489fa4757e92406e66f700b7fd7134b9db2de7d67", func := "stepwell/stepwelllaw29.SlabApart", spec := "slabApart", unfollowed := true, recurses := true, apart := false, narrowed := true }
def SlabApartUptoSaid : Prop := slabApartUptoRow.holds Try.pinned (OpenSpec.upto slabApartSpec)

end Rows
end Go.Proofs.Ytlpejbopdmledaa
