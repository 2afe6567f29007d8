/-
  A new engine (layer 43), of 9 tokens, with room for one who waits and for one who is under way.
  Conditions: the config that the law makes.
-/
import Derived.Test.YtcppkpcbfadapaaGreatChecked
import Derived.Test.YtcppkpcbfadapaaGreatEngA
import Derived.Test.YtcppkpcbfadapaaGreatEngB
import Derived.Test.YtcppkpcbfadapaaGreatRingI
import Derived.Test.YtcppkpcbfadapaaGreatStoreJ
import Derived.Test.YtcppkpcbfadapaaGreatFut
import Derived.Test.YtcppkpcbfadapaaGreatOne
namespace Go.Proofs.YtcppkpcbfadapaaGreat
set_option linter.unusedVariables false
set_option linter.unusedSimpArgs false
open Go.RowKit Go.ChangeShapes Go.WideShapes
set_option maxRecDepth 100000
set_option maxHeartbeats 3200000

def engCells (ga gl gr gs : Nat) (t : Int) : Array Value :=
  #[.pointer (some ⟨ga, 0, none⟩), .pointer (some ⟨gl, 0, none⟩), .pointer (some ⟨gr, 0, none⟩), .pointer (some ⟨gs, 0, none⟩), .pointer none, .int .i64 0, .int .i64 0, .int .i64 0, .int .i64 9, .int .i64 t, .int .i64 0, .int .i64 0, .int .i64 0, .int .i64 0, .int .i64 0, .int .i64 0]

/-- An engine in block ge with nobody in it; its account, line, ring, store in blocks of their own. -/
structure EngAt (w : World) (ge ga gl gr gs gm : Nat) (b g t : Int) : Prop where
  eng : Blk w ge 65 (engCells ga gl gr gs t)
  acc : Blk w ga 119 (accCells b g)
  line : LineNone w gl
  ring : RingAt w gr [] [] 1
  store : StoreAt w gs gm 4096 []
  al : ga < gl
  lr : gl < gr
  rm : gr < gm
  ms : gm < gs
  se : gs < ge

theorem LineNone.later {w w' : World} {g : Nat} (h : LineNone w g) (hb : Below w.heap.size w w') : LineNone w' g := ⟨cell_later hb h.many⟩

theorem EngAt.later {w w' : World} {ge ga gl gr gs gm : Nat} {b g t : Int} (h : EngAt w ge ga gl gr gs gm b g t) (hb : Below w.heap.size w w') : EngAt w' ge ga gl gr gs gm b g t :=
  ⟨h.eng.later hb, h.acc.later hb, h.line.later hb, h.ring.later hb, h.store.later hb, h.al, h.lr, h.rm, h.ms, h.se⟩

theorem engNew_any (w : World) :
    Calls Tryz.prog 15 #[.agg #[.int .i64 9, .int .i64 0, .int .i64 0, .int .i64 1, .int .i64 1]] w fun e w' => ∃ ge ga gl gr gs gm, e = .returned (.tuple #[.pointer (some ⟨ge, 0, none⟩), .int .i64 0]) ∧ EngAt w' ge ga gl gr gs gm 0 0 0 ∧ w.heap.size ≤ ga ∧ Below w.heap.size w w' := by
  have FR := Lib.hid (Far.refl w)
  obtain ⟨w1, hw_w1⟩ : ∃ nw_, w.alloc (.cells #[.int .i64 9, .int .i64 0, .int .i64 0, .int .i64 1, .int .i64 1] 51) = nw_ := ⟨_, rfl⟩
  have k_w1 : Below w.heap.size w w1 := by rw [← hw_w1]; exact (Below.refl _ _).alloc (Nat.le_refl _) _
  replace FR := Lib.hid (FR.out.fut k_w1)
  have BC := Lib.hid (show Blk w1 w.heap.size 51 #[.int .i64 9, .int .i64 0, .int .i64 0, .int .i64 1, .int .i64 1] by rw [← hw_w1]; exact Blk.now _ _ _ _ rfl)
  clear k_w1
  have l1 : w.heap.size < w1.heap.size := by rw [← hw_w1]; simp
  have c0 := BC.out.cell 0
  have c1 := BC.out.cell 1
  have c2 := BC.out.cell 2
  go_enter Tryz.func15, Tryz.ntmps15
  go_wp2_with fail
  refine (accNew_any _).mono ?_
  rintro e w2 ⟨rfl, BA, b2⟩
  have k2 := BA.lt
  replace BA := Lib.hid BA
  replace FR := Lib.hid (FR.out.fut b2)
  replace BC := Lib.hid (BC.out.fut b2)
  clear b2
  have c3 := BC.out.cell 3
  go_wp2_with fail
  refine (lineNew_any _).mono ?_
  rintro e w3 ⟨rfl, LN, k3, b3⟩
  replace LN := Lib.hid LN
  replace FR := Lib.hid (FR.out.fut b3)
  replace BC := Lib.hid (BC.out.fut b3)
  replace BA := Lib.hid (BA.out.fut b3)
  clear b3
  have c4 := BC.out.cell 4
  go_wp2_with fail
  refine (ringNew_any 1 _ (by omega) (by omega)).mono ?_
  rintro e w4 ⟨rfl, RN, b4⟩
  have k4 : w3.heap.size < w4.heap.size := by obtain ⟨_, _, _, _, _, _, h, _, _⟩ := RN.out; exact h.lt
  replace RN := Lib.hid RN
  replace LN := Lib.hid (LN.out.later b4)
  replace FR := Lib.hid (FR.out.fut b4)
  replace BC := Lib.hid (BC.out.fut b4)
  replace BA := Lib.hid (BA.out.fut b4)
  clear b4
  go_wp2_with fail
  refine (storeNew_good 4096 _ (by omega) (by omega)).mono ?_
  rintro e w5 ⟨rfl, SN, b5⟩
  have k5 : w4.heap.size + 1 < w5.heap.size := by obtain ⟨_, _, h⟩ := SN.out; exact h.blk.lt
  replace SN := Lib.hid SN
  replace LN := Lib.hid (LN.out.later b5)
  replace RN := Lib.hid (RN.out.later b5)
  replace FR := Lib.hid (FR.out.fut b5)
  replace BC := Lib.hid (BC.out.fut b5)
  replace BA := Lib.hid (BA.out.fut b5)
  clear b5
  have c0 := BC.out.cell 0
  have c2 := BC.out.cell 2
  go_wp2_with fail
  go_ret2
  have K : Below w5.heap.size w5 (w5.alloc (.cells (engCells w1.heap.size w2.heap.size w3.heap.size (w4.heap.size + 1) 0) 65)) := (Below.refl _ _).alloc (Nat.le_refl _) _
  exact ⟨w5.heap.size, w1.heap.size, w2.heap.size, w3.heap.size, w4.heap.size + 1, w4.heap.size, rfl, ⟨Blk.now _ _ _ _ rfl, BA.out.later K, LN.out.later K, RN.out.later K, SN.out.later K, k2, k3, k4, by omega, by omega⟩, by omega, below_call FR.out.out K FR.out.out.size⟩
end Go.Proofs.YtcppkpcbfadapaaGreat
