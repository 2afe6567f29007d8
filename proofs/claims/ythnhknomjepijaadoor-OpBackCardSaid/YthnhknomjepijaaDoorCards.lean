/-
  DERIVED. GIVEN WITH THE SEED: THE CARDS: each row of YthnhknomjepijaaDoorRows.lean that lists a variable, with what it lists TIED to the program's text (the seventh form; the later family's looks); each row that meets fmt, with fmt's text TOLD by the authors' own Lean function (tested against real Go, not proved from fmt's source: count such statements apart). THE CARD IS WHAT COUNTS. Prove the row's statement (the work); the ties are given (YthnhknomjepijaaDoorTie.lean); close each card by the builder's one call (the guide's Derived/Test/ToyasCard.lean, 'card_holds'). Laid BY PROGRAM, IN A SANDBOX (cutbox-door.mjs). By AI agents, Wed Nov 11 2026. No macro, syntax, notation, axiom, sorry.
-/
import Derived.Test.YthnhknomjepijaaDoorRows
import GoSem.ClaimSeven
namespace Go.Proofs.YthnhknomjepijaaDoor
namespace Rows

/-- THE TIED CARD OF 'stepwelllaw44.OpLines'. -/
def opLinesCard : Claim7 := { stood := { row := opLinesRow, standIns := [], harness := (true, "d8e83654a79892ff8cba1c8b545ea039640a32cd3c76744579a2c856dd21d2c9"), looks := true }, kinds := [], alts := [], laidByText := true, laidKinds := [.data, .data, .data, .sentinel, .sentinel], laidTests := true, laidLooks := .later }
def OpLinesCardSaid : Prop := Claim7.holds Tryd.pinned (.plain (OpenSpec.ofChange opLinesSpec)) opLinesCard

/-- THE TIED CARD OF 'stepwelllaw44.OpWrites'. -/
def opWritesCard : Claim7 := { stood := { row := opWritesRow, standIns := [], harness := (true, "d8e83654a79892ff8cba1c8b545ea039640a32cd3c76744579a2c856dd21d2c9"), looks := true }, kinds := [], alts := [], laidByText := true, laidKinds := [.data, .data, .data, .sentinel, .sentinel], laidTests := true, laidLooks := .later }
def OpWritesCardSaid : Prop := Claim7.holds Tryd.pinned (.plain (OpenSpec.ofChange opWritesSpec)) opWritesCard

/-- THE TIED CARD OF 'stepwelllaw44.OpScripts'. -/
def opScriptsCard : Claim7 := { stood := { row := opScriptsRow, standIns := [], harness := (true, "d8e83654a79892ff8cba1c8b545ea039640a32cd3c76744579a2c856dd21d2c9"), looks := true }, kinds := [], alts := [], laidByText := true, laidKinds := [.data, .data, .data, .data, .sentinel, .sentinel, .pinned], laidTests := true, laidLooks := .later }
def OpScriptsCardSaid : Prop := Claim7.holds Tryd.pinned (.plain (OpenSpec.ofChange opScriptsSpec)) opScriptsCard

/-- THE TIED CARD OF 'stepwelllaw44.OpBack'. -/
def opBackCard : Claim7 := { stood := { row := opBackRow, standIns := [], harness := (true, "d8e83654a79892ff8cba1c8b545ea039640a32cd3c76744579a2c856dd21d2c9"), looks := true }, kinds := [], alts := [], laidByText := true, laidKinds := [.data, .data, .data, .data, .sentinel, .sentinel, .pinned], laidTests := true, laidLooks := .later }
def OpBackCardSaid : Prop := Claim7.holds Tryd.pinned (.plain (OpenSpec.ofChange opBackSpec)) opBackCard

/-- THE SECOND FORM's CARD OF 'stepwelllaw44.OpLines'. -/
def opLinesUptoCard : Claim7 := { stood := { row := opLinesUptoRow, standIns := [], harness := (true, "d8e83654a79892ff8cba1c8b545ea039640a32cd3c76744579a2c856dd21d2c9"), looks := true }, kinds := [], alts := [], laidByText := true, laidKinds := [.data, .data, .data, .sentinel, .sentinel], laidTests := true, laidLooks := .later }
def OpLinesUptoCardSaid : Prop := Claim7.holds Tryd.pinned (.plain (OpenSpec.upto opLinesSpec)) opLinesUptoCard

/-- THE SECOND FORM's CARD OF 'stepwelllaw44.OpWrites'. -/
def opWritesUptoCard : Claim7 := { stood := { row := opWritesUptoRow, standIns := [], harness := (true, "d8e83654a79892ff8cba1c8b545ea039640a32cd3c76744579a2c856dd21d2c9"), looks := true }, kinds := [], alts := [], laidByText := true, laidKinds := [.data, .data, .data, .sentinel, .sentinel], laidTests := true, laidLooks := .later }
def OpWritesUptoCardSaid : Prop := Claim7.holds Tryd.pinned (.plain (OpenSpec.upto opWritesSpec)) opWritesUptoCard

/-- THE SECOND FORM's CARD OF 'stepwelllaw44.OpScripts'. -/
def opScriptsUptoCard : Claim7 := { stood := { row := opScriptsUptoRow, standIns := [], harness := (true, "d8e83654a79892ff8cba1c8b545ea039640a32cd3c76744579a2c856dd21d2c9"), looks := true }, kinds := [], alts := [], laidByText := true, laidKinds := [.data, .data, .data, .data, .sentinel, .sentinel, .pinned], laidTests := true, laidLooks := .later }
def OpScriptsUptoCardSaid : Prop := Claim7.holds Tryd.pinned (.plain (OpenSpec.upto opScriptsSpec)) opScriptsUptoCard

/-- THE SECOND FORM's CARD OF 'stepwelllaw44.OpBack'. -/
def opBackUptoCard : Claim7 := { stood := { row := opBackUptoRow, standIns := [], harness := (true, "d8e83654a79892ff8cba1c8b545ea039640a32cd3c76744579a2c856dd21d2c9"), looks := true }, kinds := [], alts := [], laidByText := true, laidKinds := [.data, .data, .data, .data, .sentinel, .sentinel, .pinned], laidTests := true, laidLooks := .later }
def OpBackUptoCardSaid : Prop := Claim7.holds Tryd.pinned (.plain (OpenSpec.upto opBackSpec)) opBackUptoCard
end Rows
end Go.Proofs.YthnhknomjepijaaDoor
