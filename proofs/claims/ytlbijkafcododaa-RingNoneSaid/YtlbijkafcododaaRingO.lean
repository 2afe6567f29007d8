/-
  The walk of the law RingNone.
  Conditions: none.
-/
import Derived.Test.YtlbijkafcododaaChecked
import Derived.Test.YtlbijkafcododaaRingN
namespace Go.Proofs.Ytlbijkafcododaa
set_option linter.unusedVariables false
set_option linter.unusedSimpArgs false
open Go.RowKit Go.ChangeShapes Go.WideShapes
set_option maxRecDepth 100000
set_option maxHeartbeats 1000000

theorem ringNone_walk (x : Int) (hx : InK .i64 x) {W : World} (w : World) (e : W = w) :
    Calls Try.prog 4 #[.int .i64 x] w fun e w' => e = .returned (.bool true) ∧ Below w.heap.size w w' := by
  clear e
  go_enter Try.func4, Try.ntmps4
  go_wp2_with fail
  have c0 : Below w.heap.size w w := Below.refl _ _
  refine (ringBegin_nil w).mono ?_
  rintro e w1 ⟨rfl, b1⟩
  have c1 := below_call c0 b1 c0.size
  clear b1 c0
  go_wp2_with fail
  refine (ringNext_nil w1).mono ?_
  rintro e w2 ⟨rfl, b2⟩
  have c2 := below_call c1 b2 c1.size
  clear b2 c1
  go_wp2_with fail
  refine (ringAdd_nil x w2).mono ?_
  rintro e w3 ⟨rfl, b3⟩
  have c3 := below_call c2 b3 c2.size
  clear b3 c2
  go_wp2_with fail
  refine (ringServed_nil w3).mono ?_
  rintro e w4 ⟨rfl, b4⟩
  have c4 := below_call c3 b4 c3.size
  clear b4 c3
  go_wp2_with fail
  refine (ringDefer_nil w4).mono ?_
  rintro e w5 ⟨rfl, b5⟩
  have c5 := below_call c4 b5 c4.size
  clear b5 c4
  go_wp2_with fail
  refine (ringLeave_nil w5).mono ?_
  rintro e w6 ⟨rfl, b6⟩
  have c6 := below_call c5 b6 c5.size
  clear b6 c5
  go_wp2_with fail
  refine (ringRemove_nil x w6).mono ?_
  rintro e w7 ⟨rfl, b7⟩
  have c7 := below_call c6 b7 c6.size
  clear b7 c6
  go_wp2_with fail
  refine (ringLen_nil w7).mono ?_
  rintro e w8 ⟨rfl, b8⟩
  have c8 := below_call c7 b8 c7.size
  clear b8 c7
  go_wp2_with fail
  refine (ringRoom_nil w8).mono ?_
  rintro e w9 ⟨rfl, b9⟩
  have c9 := below_call c8 b9 c8.size
  clear b9 c8
  go_wp2_with fail
  refine (ringList_nil w9).mono ?_
  rintro e w10 ⟨rfl, b10⟩
  have c10 := below_call c9 b10 c9.size
  clear b10 c9
  go_wp2_with fail
  refine (known41_any w10).mono ?_
  rintro e w11 ⟨rfl, b11⟩
  have c11 := below_call c10 b11 c10.size
  clear b11 c10
  go_wp2_with fail
  go_ret
  exact ⟨rfl, c11⟩
end Go.Proofs.Ytlbijkafcododaa
