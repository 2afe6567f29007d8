/-
  What must come of fixed calls (known, layer 41).
  Conditions: none.
-/
import Derived.Test.YtlbijkafcododaaChecked
import Derived.Test.YtlbijkafcododaaRingJ
namespace Go.Proofs.Ytlbijkafcododaa
set_option linter.unusedVariables false
set_option linter.unusedSimpArgs false
open Go.RowKit Go.ChangeShapes Go.WideShapes
set_option maxRecDepth 100000

theorem below_grown {w w1 w2 : World} (h : Below w.heap.size w w1) (g : w1.grownBy w2 (some w.heap.size)) : Below w.heap.size w w2 :=
  ⟨g.os.trans h.os, g.tape.trans h.tape, g.output.trans h.output, Nat.le_trans h.size g.size, fun k hk => (g.block k (Nat.lt_of_lt_of_le hk h.size) (fun e => by injection e; omega)).trans (h.block k hk)⟩

theorem known41_any (w : World) : Calls Try.prog 16 #[] w fun e w' => e = .returned (.bool true) ∧ Below w.heap.size w w' := by
  go_enter Try.func16, Try.ntmps16
  go_wp2_with fail
  refine (ringNew_any 4 w (by decide) (by decide)).mono ?_
  rintro e w1 ⟨rfl, r1, b1⟩
  have R1 := Lib.hid r1
  clear r1
  go_wp2_with fail
  refine (ringAdd_any w.heap.size [] [] 4 5 w1 R1.out (by decide) (by decide) (by decide) (by decide) (by decide)).mono ?_
  rintro e w2 ⟨rfl, r2, g2⟩
  have b2 := below_grown b1 g2
  have R2 := Lib.hid (show RingAt w2 w.heap.size [] [5] 4 from r2)
  clear r2 g2 b1 R1
  go_wp2_with fail
  refine (ringAdd_any w.heap.size [] [5] 4 7 w2 R2.out (by decide) (by decide) (by decide) (by decide) (by decide)).mono ?_
  rintro e w3 ⟨rfl, r3, g3⟩
  have b3 := below_grown b2 g3
  have R3 := Lib.hid (show RingAt w3 w.heap.size [] [5, 7] 4 from r3)
  clear r3 g3 b2 R2
  go_wp2_with fail
  refine (ringDefer_any w.heap.size [] [5, 7] 4 w3 R3.out (by simp)).mono ?_
  rintro e w4 ⟨rfl, r4, g4⟩
  have b4 := below_grown b3 g4
  have R4 := Lib.hid (show RingAt w4 w.heap.size [5] [7] 4 from r4)
  clear r4 g4 b3 R3
  rw [show decide (0 < ([5, 7] : List Int).length) = true from rfl]
  go_wp2_with fail
  refine (ringNext_any w.heap.size [5] [7] 4 w4 R4.out).mono ?_
  rintro e w5 ⟨rfl, _, b5⟩
  have R5 := Lib.hid (R4.out.later b5)
  have c5 := below_call b4 b5 b4.size
  rw [show ([7] : List Int).getD 0 0 = 7 from rfl, show decide (0 < ([7] : List Int).length) = true from rfl]
  clear b5 b4 R4
  go_wp2_with fail
  refine (ringBegin_any w.heap.size [5] [7] 4 w5 R5.out (by simp)).mono ?_
  rintro e w6 ⟨rfl, r6, g6⟩
  have b6 := below_grown c5 g6
  have R6 := Lib.hid (show RingAt w6 w.heap.size [] [5, 7] 4 from r6)
  clear r6 g6 c5 R5
  go_wp2_with fail
  refine (ringNext_any w.heap.size [] [5, 7] 4 w6 R6.out).mono ?_
  rintro e w7 ⟨rfl, _, b7⟩
  have c7 := below_call b6 b7 b6.size
  rw [show ([5, 7] : List Int).getD 0 0 = 5 from rfl, show decide (0 < ([5, 7] : List Int).length) = true from rfl]
  clear b7 b6 R6
  go_wp2_with fail
  go_ret
  exact ⟨rfl, c7⟩
end Go.Proofs.Ytlbijkafcododaa
