/-
  THE TIED CARD OF OpScripts.
  Conditions: none but the given row's own.
-/
import Derived.Test.YthnhknomjepijaaDoorOpScripts
import Derived.Test.YthnhknomjepijaaDoorCards
import Derived.Test.YthnhknomjepijaaDoorTie
import Derived.SevenTiedAt
namespace Go.Proofs.YthnhknomjepijaaDoor
open Go
set_option maxRecDepth 100000
theorem opScripts_card_holds : Rows.OpScriptsCardSaid :=
  Claim7.holds_tied_plain_at .later [] [.data, .data, .data, .data, .sentinel, .sentinel, .pinned] true (true, "d8e83654a79892ff8cba1c8b545ea039640a32cd3c76744579a2c856dd21d2c9") true
    opScripts_holds (fun _ h => by cases h) (by kernel_rfl) (fun _ h => by cases h) opScripts_row_tie rfl ⟨rfl, rfl⟩ (by kernel_rfl) rfl
    (fun f fn hf hfn => by
      obtain rfl : f = 5 := Option.some.inj ((show Tryd.prog.funcNamed "stepwell/stepwelllaw44.OpScripts" = some 5 by kernel_rfl).symm.trans hf) |>.symm
      obtain rfl : fn = Tryd.f5 := (Option.some.inj (Tryd.func5.symm.trans hfn)).symm
      exact ⟨by kernel_rfl, fun j t ht => by
        rw [Tryd.params5] at ht
        have hm : t ∈ [9] := by simpa using Array.mem_of_getElem? ht
        have hall : ([9].all fun u => !Tryd.prog.wantsStandIn u) = true := by kernel_rfl
        exact (show Tryd.prog.wantsStandIn t = false by simpa using List.all_eq_true.1 hall t hm)⟩)
    (by kernel_rfl)
#print axioms opScripts_card_holds
end Go.Proofs.YthnhknomjepijaaDoor
