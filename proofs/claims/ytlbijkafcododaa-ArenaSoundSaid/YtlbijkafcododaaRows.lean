/-
  No cell of these rows narrows 'for every input' (looked for: loops, veiled, ifaces, maps, wideKeys, modest, calm, conditions, laid).
  DERIVED. THE GIVEN ROWS OF THIS SEAT. 12 by the template 'for every input the law returns true; each argument reads behind the call as it read before'; 0 by the template 'total and deterministic' (their statements: YtlbijkafcododaaTotals.lean).
  GIVEN WITH THE SEED: the statements are not yours to turn. If you find one false, say at which input.
  Laid BY PROGRAM, IN A SANDBOX (cutbox-rows.mjs): the forced cells as the released guide's own fill.sh prints them over the translation b274ca4a1c0ce8ae… (all of the seat's roots in one cut). By AI agents, Wed Nov 11 2026. No macro, syntax, notation, axiom, sorry.
-/
import Derived.Test.YtlbijkafcododaaChecked
import GoSem.Claim
import GoSem.ClaimJoined
import GoSem.ClaimMapViews
import Derived.JoinedTies
import Derived.KernelRfl
namespace Go.Proofs.Ytlbijkafcododaa
/- THE CELL 'sum', in the pinned program and in every row, IS THE sha256 OF THE DUMP (.gsa) THAT YtlbijkafcododaaProg.lean LOADS. Nothing in Lean hashes anything: it is a label: what it is worth is what the hold of that sum in a sandbox is worth. -/
noncomputable def Try.pinned : Pinned := { name := "ytlbijkafcododaa", sum := "b274ca4a1c0ce8aeb1200b77d3f6f45c98693197617f234ac5d4a4f42ab9639c", checked := Try.checked }
namespace Rows
def none {H : Type} : Left H := { results := [], args := [] }

/-- 'stepwelllaw41.RingPlays': WHATEVER THE INPUT: true; the input reads as it did. -/
def ringPlaysSpec : ChangeSpec := { name := "ringPlays", fn := fun _ => fun
  | [d1, d2] => { results := [.lit (.bool true)], args := [d1, d2] }
  | _ => none }
def ringPlaysRow : OpenClaim := { program := "ytlbijkafcododaa", sum := "b274ca4a1c0ce8aeb1200b77d3f6f45c98693197617f234ac5d4a4f42ab9639c", func := "stepwell/stepwelllaw41.RingPlays", spec := "ringPlays", unfollowed := true, recurses := true, apart := false }
def RingPlaysSaid : Prop := ringPlaysRow.holds Try.pinned (OpenSpec.ofChange ringPlaysSpec)

/-- ITS FALSE NEIGHBOUR: 'it returns false'. Refute it at one input. -/
def ringPlaysWrong : ChangeSpec := { name := "ringPlays", fn := fun _ => fun
  | [d1, d2] => { results := [.lit (.bool false)], args := [d1, d2] }
  | _ => none }
def RingPlaysWrongFalsely : Prop := ringPlaysRow.holds Try.pinned (OpenSpec.ofChange ringPlaysWrong)

/-- 'stepwelllaw41.RingNone': WHATEVER THE INPUT: true; the input reads as it did. -/
def ringNoneSpec : ChangeSpec := { name := "ringNone", fn := fun _ => fun
  | [d] => { results := [.lit (.bool true)], args := [d] }
  | _ => none }
def ringNoneRow : OpenClaim := { program := "ytlbijkafcododaa", sum := "b274ca4a1c0ce8aeb1200b77d3f6f45c98693197617f234ac5d4a4f42ab9639c", func := "stepwell/stepwelllaw41.RingNone", spec := "ringNone", unfollowed := true, recurses := true, apart := false }
def RingNoneSaid : Prop := ringNoneRow.holds Try.pinned (OpenSpec.ofChange ringNoneSpec)

/-- ITS FALSE NEIGHBOUR: 'it returns false'. Refute it at one input. -/
def ringNoneWrong : ChangeSpec := { name := "ringNone", fn := fun _ => fun
  | [d] => { results := [.lit (.bool false)], args := [d] }
  | _ => none }
def RingNoneWrongFalsely : Prop := ringNoneRow.holds Try.pinned (OpenSpec.ofChange ringNoneWrong)

/-- 'stepwelllaw22.RankGrows': WHATEVER THE INPUT: true; the input reads as it did. -/
def rankGrowsSpec : ChangeSpec := { name := "rankGrows", fn := fun _ => fun
  | [d1, d2] => { results := [.lit (.bool true)], args := [d1, d2] }
  | _ => none }
def rankGrowsRow : OpenClaim := { program := "ytlbijkafcododaa", sum := "b274ca4a1c0ce8aeb1200b77d3f6f45c98693197617f234ac5d4a4f42ab9639c", func := "stepwell/stepwelllaw22.RankGrows", spec := "rankGrows", unfollowed := true, recurses := true, apart := false }
def RankGrowsSaid : Prop := rankGrowsRow.holds Try.pinned (OpenSpec.ofChange rankGrowsSpec)

/-- ITS FALSE NEIGHBOUR: 'it returns false'. Refute it at one input. -/
def rankGrowsWrong : ChangeSpec := { name := "rankGrows", fn := fun _ => fun
  | [d1, d2] => { results := [.lit (.bool false)], args := [d1, d2] }
  | _ => none }
def RankGrowsWrongFalsely : Prop := rankGrowsRow.holds Try.pinned (OpenSpec.ofChange rankGrowsWrong)

/-- 'stepwelllaw22.RankBest': WHATEVER THE INPUT: true; the input reads as it did. -/
def rankBestSpec : ChangeSpec := { name := "rankBest", fn := fun _ => fun
  | [d1, d2] => { results := [.lit (.bool true)], args := [d1, d2] }
  | _ => none }
def rankBestRow : OpenClaim := { program := "ytlbijkafcododaa", sum := "b274ca4a1c0ce8aeb1200b77d3f6f45c98693197617f234ac5d4a4f42ab9639c", func := "stepwell/stepwelllaw22.RankBest", spec := "rankBest", unfollowed := true, recurses := true, apart := false }
def RankBestSaid : Prop := rankBestRow.holds Try.pinned (OpenSpec.ofChange rankBestSpec)

/-- ITS FALSE NEIGHBOUR: 'it returns false'. Refute it at one input. -/
def rankBestWrong : ChangeSpec := { name := "rankBest", fn := fun _ => fun
  | [d1, d2] => { results := [.lit (.bool false)], args := [d1, d2] }
  | _ => none }
def RankBestWrongFalsely : Prop := rankBestRow.holds Try.pinned (OpenSpec.ofChange rankBestWrong)

/-- 'stepwelllaw22.RankOrder': WHATEVER THE INPUT: true; the input reads as it did. -/
def rankOrderSpec : ChangeSpec := { name := "rankOrder", fn := fun _ => fun
  | [d1, d2] => { results := [.lit (.bool true)], args := [d1, d2] }
  | _ => none }
def rankOrderRow : OpenClaim := { program := "ytlbijkafcododaa", sum := "b274ca4a1c0ce8aeb1200b77d3f6f45c98693197617f234ac5d4a4f42ab9639c", func := "stepwell/stepwelllaw22.RankOrder", spec := "rankOrder", unfollowed := true, recurses := true, apart := false }
def RankOrderSaid : Prop := rankOrderRow.holds Try.pinned (OpenSpec.ofChange rankOrderSpec)

/-- ITS FALSE NEIGHBOUR: 'it returns false'. Refute it at one input. -/
def rankOrderWrong : ChangeSpec := { name := "rankOrder", fn := fun _ => fun
  | [d1, d2] => { results := [.lit (.bool false)], args := [d1, d2] }
  | _ => none }
def RankOrderWrongFalsely : Prop := rankOrderRow.holds Try.pinned (OpenSpec.ofChange rankOrderWrong)

/-- 'stepwelllaw37.SavePuts': WHATEVER THE INPUT: true; the input reads as it did. -/
def savePutsSpec : ChangeSpec := { name := "savePuts", fn := fun _ => fun
  | [d1, d2] => { results := [.lit (.bool true)], args := [d1, d2] }
  | _ => none }
def savePutsRow : OpenClaim := { program := "ytlbijkafcododaa", sum := "b274ca4a1c0ce8aeb1200b77d3f6f45c98693197617f234ac5d4a4f42ab9639c", func := "stepwell/stepwelllaw37.SavePuts", spec := "savePuts", unfollowed := true, recurses := true, apart := false }
def SavePutsSaid : Prop := savePutsRow.holds Try.pinned (OpenSpec.ofChange savePutsSpec)

/-- ITS FALSE NEIGHBOUR: 'it returns false'. Refute it at one input. -/
def savePutsWrong : ChangeSpec := { name := "savePuts", fn := fun _ => fun
  | [d1, d2] => { results := [.lit (.bool false)], args := [d1, d2] }
  | _ => none }
def SavePutsWrongFalsely : Prop := savePutsRow.holds Try.pinned (OpenSpec.ofChange savePutsWrong)

/-- 'stepwelllaw37.SaveBack': WHATEVER THE INPUT: true; the input reads as it did. -/
def saveBackSpec : ChangeSpec := { name := "saveBack", fn := fun _ => fun
  | [d1, d2] => { results := [.lit (.bool true)], args := [d1, d2] }
  | _ => none }
def saveBackRow : OpenClaim := { program := "ytlbijkafcododaa", sum := "b274ca4a1c0ce8aeb1200b77d3f6f45c98693197617f234ac5d4a4f42ab9639c", func := "stepwell/stepwelllaw37.SaveBack", spec := "saveBack", unfollowed := true, recurses := true, apart := false }
def SaveBackSaid : Prop := saveBackRow.holds Try.pinned (OpenSpec.ofChange saveBackSpec)

/-- ITS FALSE NEIGHBOUR: 'it returns false'. Refute it at one input. -/
def saveBackWrong : ChangeSpec := { name := "saveBack", fn := fun _ => fun
  | [d1, d2] => { results := [.lit (.bool false)], args := [d1, d2] }
  | _ => none }
def SaveBackWrongFalsely : Prop := saveBackRow.holds Try.pinned (OpenSpec.ofChange saveBackWrong)

/-- 'stepwelllaw27.GraphShapes': WHATEVER THE INPUT: true; the input reads as it did. -/
def graphShapesSpec : ChangeSpec := { name := "graphShapes", fn := fun _ => fun
  | [d1, d2] => { results := [.lit (.bool true)], args := [d1, d2] }
  | _ => none }
def graphShapesRow : OpenClaim := { program := "ytlbijkafcododaa", sum := "b274ca4a1c0ce8aeb1200b77d3f6f45c98693197617f234ac5d4a4f42ab9639c", func := "stepwell/stepwelllaw27.GraphShapes", spec := "graphShapes", apart := false }
def GraphShapesSaid : Prop := graphShapesRow.holds Try.pinned (OpenSpec.ofChange graphShapesSpec)

/-- ITS FALSE NEIGHBOUR: 'it returns false'. Refute it at one input. -/
def graphShapesWrong : ChangeSpec := { name := "graphShapes", fn := fun _ => fun
  | [d1, d2] => { results := [.lit (.bool false)], args := [d1, d2] }
  | _ => none }
def GraphShapesWrongFalsely : Prop := graphShapesRow.holds Try.pinned (OpenSpec.ofChange graphShapesWrong)

/-- 'stepwelllaw30.VerdictLooks': WHATEVER THE INPUT: true; the input reads as it did. -/
def verdictLooksSpec : ChangeSpec := { name := "verdictLooks", fn := fun _ => fun
  | [d1, d2, d3] => { results := [.lit (.bool true)], args := [d1, d2, d3] }
  | _ => none }
def verdictLooksRow : OpenClaim := { program := "ytlbijkafcododaa", sum := "b274ca4a1c0ce8aeb1200b77d3f6f45c98693197617f234ac5d4a4f42ab9639c", func := "stepwell/stepwelllaw30.VerdictLooks", spec := "verdictLooks", unfollowed := true, recurses := true, apart := false }
def VerdictLooksSaid : Prop := verdictLooksRow.holds Try.pinned (OpenSpec.ofChange verdictLooksSpec)

/-- ITS FALSE NEIGHBOUR: 'it returns false'. Refute it at one input. -/
def verdictLooksWrong : ChangeSpec := { name := "verdictLooks", fn := fun _ => fun
  | [d1, d2, d3] => { results := [.lit (.bool false)], args := [d1, d2, d3] }
  | _ => none }
def VerdictLooksWrongFalsely : Prop := verdictLooksRow.holds Try.pinned (OpenSpec.ofChange verdictLooksWrong)

/-- 'stepwelllaw30.VerdictNeed': WHATEVER THE INPUT: true; the input reads as it did. -/
def verdictNeedSpec : ChangeSpec := { name := "verdictNeed", fn := fun _ => fun
  | [d1, d2, d3, d4, d5] => { results := [.lit (.bool true)], args := [d1, d2, d3, d4, d5] }
  | _ => none }
def verdictNeedRow : OpenClaim := { program := "ytlbijkafcododaa", sum := "b274ca4a1c0ce8aeb1200b77d3f6f45c98693197617f234ac5d4a4f42ab9639c", func := "stepwell/stepwelllaw30.VerdictNeed", spec := "verdictNeed", unfollowed := true, recurses := true, apart := false }
def VerdictNeedSaid : Prop := verdictNeedRow.holds Try.pinned (OpenSpec.ofChange verdictNeedSpec)

/-- ITS FALSE NEIGHBOUR: 'it returns false'. Refute it at one input. -/
def verdictNeedWrong : ChangeSpec := { name := "verdictNeed", fn := fun _ => fun
  | [d1, d2, d3, d4, d5] => { results := [.lit (.bool false)], args := [d1, d2, d3, d4, d5] }
  | _ => none }
def VerdictNeedWrongFalsely : Prop := verdictNeedRow.holds Try.pinned (OpenSpec.ofChange verdictNeedWrong)

/-- 'stepwelllaw28.ArenaSound': WHATEVER THE INPUT: true; the input reads as it did. -/
def arenaSoundSpec : ChangeSpec := { name := "arenaSound", fn := fun _ => fun
  | [d1, d2, d3] => { results := [.lit (.bool true)], args := [d1, d2, d3] }
  | _ => none }
def arenaSoundRow : OpenClaim := { program := "ytlbijkafcododaa", sum := "b274ca4a1c0ce8aeb1200b77d3f6f45c98693197617f234ac5d4a4f42ab9639c", func := "stepwell/stepwelllaw28.ArenaSound", spec := "arenaSound", unfollowed := true, recurses := true, apart := false }
def ArenaSoundSaid : Prop := arenaSoundRow.holds Try.pinned (OpenSpec.ofChange arenaSoundSpec)

/-- ITS FALSE NEIGHBOUR: 'it returns false'. Refute it at one input. -/
def arenaSoundWrong : ChangeSpec := { name := "arenaSound", fn := fun _ => fun
  | [d1, d2, d3] => { results := [.lit (.bool false)], args := [d1, d2, d3] }
  | _ => none }
def ArenaSoundWrongFalsely : Prop := arenaSoundRow.holds Try.pinned (OpenSpec.ofChange arenaSoundWrong)

/-- 'stepwelllaw28.ArenaPlaces': WHATEVER THE INPUT: true; the input reads as it did. -/
def arenaPlacesSpec : ChangeSpec := { name := "arenaPlaces", fn := fun _ => fun
  | [d1, d2] => { results := [.lit (.bool true)], args := [d1, d2] }
  | _ => none }
def arenaPlacesRow : OpenClaim := { program := "ytlbijkafcododaa", sum := "b274ca4a1c0ce8aeb1200b77d3f6f45c98693197617f234ac5d4a4f42ab9639c", func := "stepwell/stepwelllaw28.ArenaPlaces", spec := "arenaPlaces", unfollowed := true, recurses := true, apart := false }
def ArenaPlacesSaid : Prop := arenaPlacesRow.holds Try.pinned (OpenSpec.ofChange arenaPlacesSpec)

/-- ITS FALSE NEIGHBOUR: 'it returns false'. Refute it at one input. -/
def arenaPlacesWrong : ChangeSpec := { name := "arenaPlaces", fn := fun _ => fun
  | [d1, d2] => { results := [.lit (.bool false)], args := [d1, d2] }
  | _ => none }
def ArenaPlacesWrongFalsely : Prop := arenaPlacesRow.holds Try.pinned (OpenSpec.ofChange arenaPlacesWrong)

/- THE SECOND FORM. 'bulk': how many values and letters a reading holds, each counted each time it is reached (what is shared counts as often as it is met; a slice's spare places count too). A statement '..UptoSaid' is the law's where the arguments, and the package variables that the reading takes, are together of bulk at most 1048576: NARROWER than '..Said'. Prove '..Said' where nothing that the law and all that it calls make is longer than what came in: it says more and counts as full. Else prove '..UptoSaid'. A law counts once. -/
mutual
def uptoBulk {H : Type} : DataW H → Nat
  | .lit (.string bytes) => bytes.length + 1
  | .lit _ => 1
  | .nil => 1
  | .ptr d => uptoBulk d + 1
  | .slice elems spare => uptoBulkAll elems + uptoBulkAll spare + 1
  | .agg parts => uptoBulkAll parts + 1
  | .iface _ d => uptoBulk d + 1
  | .map entries => uptoBulkEntries entries + 1
  | .held _ => 1
def uptoBulkAll {H : Type} : List (DataW H) → Nat
  | [] => 0
  | d :: r => uptoBulk d + uptoBulkAll r
def uptoBulkEntries {H : Type} : List (Lit × DataW H) → Nat
  | [] => 0
  | x :: r => uptoBulkEntry x + uptoBulkEntries r
def uptoBulkEntry {H : Type} : Lit × DataW H → Nat
  | (.string bytes, d) => bytes.length + uptoBulk d + 1
  | (_, d) => uptoBulk d + 1
 end
def uptoSmall : (H : Type) → List (DataW H) → Bool := fun _ ds => decide (uptoBulkAll ds ≤ 1048576)
def OpenSpec.upto (s : _root_.Go.ChangeSpec) : _root_.Go.OpenSpec := { _root_.Go.OpenSpec.ofChange s with cond := some uptoSmall }

/-- 'stepwelllaw41.RingPlays', WHERE WHAT IT READS IS OF BULK AT MOST 1048576: true; the input reads as it did. -/
def ringPlaysUptoRow : OpenClaim := { program := "ytlbijkafcododaa", sum := "b274ca4a1c0ce8aeb1200b77d3f6f45c98693197617f234ac5d4a4f42ab9639c", func := "stepwell/stepwelllaw41.RingPlays", spec := "ringPlays", unfollowed := true, recurses := true, apart := false, narrowed := true }
def RingPlaysUptoSaid : Prop := ringPlaysUptoRow.holds Try.pinned (OpenSpec.upto ringPlaysSpec)

/-- 'stepwelllaw41.RingNone', WHERE WHAT IT READS IS OF BULK AT MOST 1048576: true; the input reads as it did. -/
def ringNoneUptoRow : OpenClaim := { program := "ytlbijkafcododaa", sum := "b274ca4a1c0ce8aeb1200b77d3f6f45c98693197617f234ac5d4a4f42ab9639c", func := "stepwell/stepwelllaw41.RingNone", spec := "ringNone", unfollowed := true, recurses := true, apart := false, narrowed := true }
def RingNoneUptoSaid : Prop := ringNoneUptoRow.holds Try.pinned (OpenSpec.upto ringNoneSpec)

/-- 'stepwelllaw22.RankGrows', WHERE WHAT IT READS IS OF BULK AT MOST 1048576: true; the input reads as it did. -/
def rankGrowsUptoRow : OpenClaim := { program := "ytlbijkafcododaa", sum := "b274ca4a1c0ce8aeb1200b77d3f6f45c98693197617f234ac5d4a4f42ab9639c", func := "stepwell/stepwelllaw22.RankGrows", spec := "rankGrows", unfollowed := true, recurses := true, apart := false, narrowed := true }
def RankGrowsUptoSaid : Prop := rankGrowsUptoRow.holds Try.pinned (OpenSpec.upto rankGrowsSpec)

/-- 'stepwelllaw22.RankBest', WHERE WHAT IT READS IS OF BULK AT MOST 1048576: true; the input reads as it did. -/
def rankBestUptoRow : OpenClaim := { program := "ytlbijkafcododaa", sum := "b274ca4a1c0ce8aeb1200b77d3f6f45c98693197617f234ac5d4a4f42ab9639c", func := "stepwell/stepwelllaw22.RankBest", spec := "rankBest", unfollowed := true, recurses := true, apart := false, narrowed := true }
def RankBestUptoSaid : Prop := rankBestUptoRow.holds Try.pinned (OpenSpec.upto rankBestSpec)

/-- 'stepwelllaw22.RankOrder', WHERE WHAT IT READS IS OF BULK AT MOST 1048576: true; the input reads as it did. -/
def rankOrderUptoRow : OpenClaim := { program := "ytlbijkafcododaa", sum := "b274ca4a1c0ce8aeb1200b77d3f6f45c98693197617f234ac5d4a4f42ab9639c", func := "stepwell/stepwelllaw22.RankOrder", spec := "rankOrder", unfollowed := true, recurses := true, apart := false, narrowed := true }
def RankOrderUptoSaid : Prop := rankOrderUptoRow.holds Try.pinned (OpenSpec.upto rankOrderSpec)

/-- 'stepwelllaw37.SavePuts', WHERE WHAT IT READS IS OF BULK AT MOST 1048576: true; the input reads as it did. -/
def savePutsUptoRow : OpenClaim := { program := "ytlbijkafcododaa", sum := "b274ca4a1c0ce8aeb1200b77d3f6f45c98693197617f234ac5d4a4f42ab9639c", func := "stepwell/stepwelllaw37.SavePuts", spec := "savePuts", unfollowed := true, recurses := true, apart := false, narrowed := true }
def SavePutsUptoSaid : Prop := savePutsUptoRow.holds Try.pinned (OpenSpec.upto savePutsSpec)

/-- 'stepwelllaw37.SaveBack', WHERE WHAT IT READS IS OF BULK AT MOST 1048576: true; the input reads as it did. -/
def saveBackUptoRow : OpenClaim := { program := "ytlbijkafcododaa", sum := "b274ca4a1c0ce8aeb1200b77d3f6f45c98693197617f234ac5d4a4f42ab9639c", func := "stepwell/stepwelllaw37.SaveBack", spec := "saveBack", unfollowed := true, recurses := true, apart := false, narrowed := true }
def SaveBackUptoSaid : Prop := saveBackUptoRow.holds Try.pinned (OpenSpec.upto saveBackSpec)

/-- 'stepwelllaw27.GraphShapes', WHERE WHAT IT READS IS OF BULK AT MOST 1048576: true; the input reads as it did. -/
def graphShapesUptoRow : OpenClaim := { program := "ytlbijkafcododaa", sum := "b274ca4a1c0ce8aeb1200b77d3f6f45c98693197617f234ac5d4a4f42ab9639c", func := "stepwell/stepwelllaw27.GraphShapes", spec := "graphShapes", apart := false, narrowed := true }
def GraphShapesUptoSaid : Prop := graphShapesUptoRow.holds Try.pinned (OpenSpec.upto graphShapesSpec)

/-- 'stepwelllaw30.VerdictLooks', WHERE WHAT IT READS IS OF BULK AT MOST 1048576: true; the input reads as it did. -/
def verdictLooksUptoRow : OpenClaim := { program := "ytlbijkafcododaa", sum := "b274ca4a1c0ce8aeb1200b77d3f6f45c98693197617f234ac5d4a4f42ab9639c", func := "stepwell/stepwelllaw30.VerdictLooks", spec := "verdictLooks", unfollowed := true, recurses := true, apart := false, narrowed := true }
def VerdictLooksUptoSaid : Prop := verdictLooksUptoRow.holds Try.pinned (OpenSpec.upto verdictLooksSpec)

/-- 'stepwelllaw30.VerdictNeed', WHERE WHAT IT READS IS OF BULK AT MOST 1048576: true; the input reads as it did. -/
def verdictNeedUptoRow : OpenClaim := { program := "ytlbijkafcododaa", sum := "b274ca4a1c0ce8aeb1200b77d3f6f45c98693197617f234ac5d4a4f42ab9639c", func := "stepwell/stepwelllaw30.VerdictNeed", spec := "verdictNeed", unfollowed := true, recurses := true, apart := false, narrowed := true }
def VerdictNeedUptoSaid : Prop := verdictNeedUptoRow.holds Try.pinned (OpenSpec.upto verdictNeedSpec)

/-- 'stepwelllaw28.ArenaSound', WHERE WHAT IT READS IS OF BULK AT MOST 1048576: true; the input reads as it did. -/
def arenaSoundUptoRow : OpenClaim := { program := "ytlbijkafcododaa", sum := "b274ca4a1c0ce8aeb1200b77d3f6f45c98693197617f234ac5d4a4f42ab9639c", func := "stepwell/stepwelllaw28.ArenaSound", spec := "arenaSound", unfollowed := true, recurses := true, apart := false, narrowed := true }
def ArenaSoundUptoSaid : Prop := arenaSoundUptoRow.holds Try.pinned (OpenSpec.upto arenaSoundSpec)

/-- 'stepwelllaw28.ArenaPlaces', WHERE WHAT IT READS IS OF BULK AT MOST 1048576: true; the input reads as it did. -/
def arenaPlacesUptoRow : OpenClaim := { program := "ytlbijkafcododaa", sum := "b274ca4a1c0ce8aeb1200b77d3f6f45c98693197617f234ac5d4a4f42ab9639c", func := "stepwell/stepwelllaw28.ArenaPlaces", spec := "arenaPlaces", unfollowed := true, recurses := true, apart := false, narrowed := true }
def ArenaPlacesUptoSaid : Prop := arenaPlacesUptoRow.holds Try.pinned (OpenSpec.upto arenaPlacesSpec)

end Rows
end Go.Proofs.Ytlbijkafcododaa
