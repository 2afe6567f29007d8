/-
  Room (layer 28): what is known.
  Conditions: none.
-/
import Derived.Test.YtcbjikopmlaapaaChecked
import Derived.Test.YtcbjikopmlaapaaArE
import Derived.Test.YtcbjikopmlaapaaArH
import Derived.Test.YtcbjikopmlaapaaSameI
import Derived.Test.YtcbjikopmlaapaaFut
namespace Go.Proofs.Ytcbjikopmlaapaa
set_option linter.unusedVariables false
set_option linter.unusedSimpArgs false
open Go.RowKit Go.ChangeShapes Go.WideShapes Go.Proofs.Ytcbjikopmlaapaa.Ar
set_option maxRecDepth 100000

/-- Place of what may be placed. -/
theorem arPlace_ok (A : Option Addr) (n cap : Nat) (A' : Option Addr) (n' cap' : Nat) (sz un : List Int) (w : World) (h : Sl (tInt .i64) w (blo w.heap.size) A n cap sz) (h' : Sl (tInt .i64) w (blo w.heap.size) A' n' cap' un) (c : mayOk sz un) :
    Calls Try.prog 8 #[.slice A n cap, .slice A' n' cap'] w fun e w' => ∃ A c, e = .returned (.tuple #[.slice A n c, .int .i64 (roomTo sz un n), .bool true]) ∧ Sl (tInt .i64) w' (bin w.heap.size w'.heap.size) A n c (atTo sz un n) ∧ Below w.heap.size w w' :=
  (arPlace_any A n cap A' n' cap' sz un w h h').mono fun e w' hr => by unfold RetPlaces at hr; rw [if_pos c] at hr; exact hr
theorem arPlace_no (A : Option Addr) (n cap : Nat) (A' : Option Addr) (n' cap' : Nat) (sz un : List Int) (w : World) (h : Sl (tInt .i64) w (blo w.heap.size) A n cap sz) (h' : Sl (tInt .i64) w (blo w.heap.size) A' n' cap' un) (c : ¬ mayOk sz un) :
    Calls Try.prog 8 #[.slice A n cap, .slice A' n' cap'] w fun e w' => e = .returned (.tuple #[.slice none 0 0, .int .i64 0, .bool false]) ∧ Below w.heap.size w w' :=
  (arPlace_any A n cap A' n' cap' sz un w h h').mono fun e w' hr => by unfold RetPlaces at hr; rw [if_neg c] at hr; exact hr

set_option maxHeartbeats 4000000 in
theorem known28_any (w : World) : Calls Try.prog 7 #[] w fun e w' => e = .returned (.bool true) ∧ Below w.heap.size w w' := by
  have b1 := Lib.hid (show mayOk [4, 2, 3] [1, 2, 2] by decide +kernel)
  have b2 := Lib.hid (show roomTo [4, 2, 3] [1, 2, 2] 3 = 6 by decide +kernel)
  have b3 := Lib.hid (show atTo [4, 2, 3] [1, 2, 2] 3 = [0, 4, 0] by decide +kernel)
  have b4 := Lib.hid (show decide (soundOk [4, 2, 3] [1, 2, 2] [0, 4, 0]) = true by decide +kernel)
  have FR := Lib.hid (Far.refl w)
  obtain ⟨w1, hw_w1⟩ : ∃ nw_, w.alloc (.cells #[.int .i64 4, .int .i64 2, .int .i64 3] 3) = nw_ := ⟨_, rfl⟩
  have k_w1 : Below w.heap.size w w1 := by rw [← hw_w1]; exact (Below.refl _ _).alloc (Nat.le_refl _) _
  replace FR := Lib.hid (FR.out.fut k_w1)
  have B1 := Lib.hid (show Blk w1 w.heap.size 3 #[.int .i64 4, .int .i64 2, .int .i64 3] by rw [← hw_w1]; exact Blk.now _ _ _ _ rfl)
  clear k_w1
  obtain ⟨w2, hw_w2⟩ : ∃ nw_, w1.alloc (.cells #[.int .i64 1, .int .i64 2, .int .i64 2] 3) = nw_ := ⟨_, rfl⟩
  have k_w2 : Below w1.heap.size w1 w2 := by rw [← hw_w2]; exact (Below.refl _ _).alloc (Nat.le_refl _) _
  replace FR := Lib.hid (FR.out.fut k_w2)
  replace B1 := Lib.hid (B1.out.fut k_w2)
  have B2 := Lib.hid (show Blk w2 w1.heap.size 3 #[.int .i64 1, .int .i64 2, .int .i64 2] by rw [← hw_w2]; exact Blk.now _ _ _ _ rfl)
  clear k_w2
  go_enter Try.func7, Try.ntmps7
  go_wp2_with fail
  clear hw_w1 hw_w2
  refine (arPlace_ok _ 3 3 _ 3 3 [4, 2, 3] [1, 2, 2] w2 (Sl.lit _ B1.out.heap rfl (by decide) B1.out.lt rfl rfl (by decide)) (Sl.lit _ B2.out.heap rfl (by decide) B2.out.lt rfl rfl (by decide)) b1.out).mono ?_
  rintro e w3 ⟨A, c, rfl, hs, hb⟩
  rw [b2.out]
  rw [b3.out] at hs
  have S := Lib.hid hs.old
  clear hs B1 B2
  replace FR := Lib.hid (FR.out.fut hb)
  clear hb
  obtain ⟨w4, hw_w4⟩ : ∃ nw_, w3.alloc (.cells #[.int .i64 0, .int .i64 4, .int .i64 0] 3) = nw_ := ⟨_, rfl⟩
  have k_w4 : Below w3.heap.size w3 w4 := by rw [← hw_w4]; exact (Below.refl _ _).alloc (Nat.le_refl _) _
  replace FR := Lib.hid (FR.out.fut k_w4)
  replace S := Lib.hid (S.out.fut k_w4)
  have B4 := Lib.hid (show Blk w4 w3.heap.size 3 #[.int .i64 0, .int .i64 4, .int .i64 0] by rw [← hw_w4]; exact Blk.now _ _ _ _ rfl)
  clear k_w4
  go_wp2_with fail
  clear hw_w4
  refine (samei_eq A _ 3 c 3 3 [0, 4, 0] w4 S.out (Sl.lit _ B4.out.heap rfl (by decide) B4.out.lt rfl rfl (by decide))).mono ?_
  rintro e w5 ⟨rfl, hb⟩
  clear B4
  replace FR := Lib.hid (FR.out.fut hb)
  replace S := Lib.hid (S.out.fut hb)
  clear hb
  obtain ⟨w6, hw_w6⟩ : ∃ nw_, w5.alloc (.cells #[.int .i64 4, .int .i64 2, .int .i64 3] 3) = nw_ := ⟨_, rfl⟩
  have k_w6 : Below w5.heap.size w5 w6 := by rw [← hw_w6]; exact (Below.refl _ _).alloc (Nat.le_refl _) _
  replace FR := Lib.hid (FR.out.fut k_w6)
  replace S := Lib.hid (S.out.fut k_w6)
  have B6 := Lib.hid (show Blk w6 w5.heap.size 3 #[.int .i64 4, .int .i64 2, .int .i64 3] by rw [← hw_w6]; exact Blk.now _ _ _ _ rfl)
  clear k_w6
  obtain ⟨w7, hw_w7⟩ : ∃ nw_, w6.alloc (.cells #[.int .i64 1, .int .i64 2, .int .i64 2] 3) = nw_ := ⟨_, rfl⟩
  have k_w7 : Below w6.heap.size w6 w7 := by rw [← hw_w7]; exact (Below.refl _ _).alloc (Nat.le_refl _) _
  replace FR := Lib.hid (FR.out.fut k_w7)
  replace S := Lib.hid (S.out.fut k_w7)
  replace B6 := Lib.hid (B6.out.fut k_w7)
  have B7 := Lib.hid (show Blk w7 w6.heap.size 3 #[.int .i64 1, .int .i64 2, .int .i64 2] by rw [← hw_w7]; exact Blk.now _ _ _ _ rfl)
  clear k_w7
  go_wp2_with fail
  clear hw_w6 hw_w7
  have SO := arSound_any _ 3 3 _ 3 3 A 3 c [4, 2, 3] [1, 2, 2] [0, 4, 0] w7 (Sl.lit _ B6.out.heap rfl (by decide) B6.out.lt rfl rfl (by decide)) (Sl.lit _ B7.out.heap rfl (by decide) B7.out.lt rfl rfl (by decide)) S.out
  rw [b4.out] at SO
  refine SO.mono ?_
  clear SO
  rintro e w8 ⟨rfl, hb⟩
  clear B6 B7
  replace FR := Lib.hid (FR.out.fut hb)
  clear hb
  go_wp2_with fail
  go_ret
  exact ⟨rfl, FR.out.out⟩

end Go.Proofs.Ytcbjikopmlaapaa
