/-
  THE TIED CARD OF OpBack.
  Conditions: none but the given row's own.
-/
import Derived.Test.YthnhknomjepijaaDoorOpBack
import Derived.Test.YthnhknomjepijaaDoorCards
import Derived.Test.YthnhknomjepijaaDoorTie
import Derived.SevenTiedAt
namespace Go.Proofs.YthnhknomjepijaaDoor
open Go
set_option maxRecDepth 100000
theorem opBack_card_holds : Rows.OpBackCardSaid :=
  Claim7.holds_tied_plain_at .later [] [.data, .data, .data, .data, .sentinel, .sentinel, .pinned] true (true, "d8e83654a79892ff8cba1c8b545ea039640a32cd3c76744579a2c856dd21d2c9") true
    opBack_holds (fun _ h => by cases h) (by kernel_rfl) (fun _ h => by cases h) opBack_row_tie rfl ⟨rfl, rfl⟩ (by kernel_rfl) rfl
    (fun f fn hf hfn => by
      obtain rfl : f = 6 := Option.some.inj ((show Tryd.prog.funcNamed "stepwell/stepwelllaw44.OpBack" = some 6 by kernel_rfl).symm.trans hf) |>.symm
      obtain rfl : fn = Tryd.f6 := (Option.some.inj (Tryd.func6.symm.trans hfn)).symm
      exact ⟨by kernel_rfl, fun j t ht => by
        rw [Tryd.params6] at ht
        have hm : t ∈ [43, 9] := by simpa using Array.mem_of_getElem? ht
        have hall : ([43, 9].all fun u => !Tryd.prog.wantsStandIn u) = true := by kernel_rfl
        exact (show Tryd.prog.wantsStandIn t = false by simpa using List.all_eq_true.1 hall t hm)⟩)
    (by kernel_rfl)
#print axioms opBack_card_holds
end Go.Proofs.YthnhknomjepijaaDoor
