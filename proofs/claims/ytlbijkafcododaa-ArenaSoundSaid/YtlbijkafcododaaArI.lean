/-
  Room (layer 28): what is known, the walk of ArenaPlaces.
  Conditions: none.
-/
import Derived.Test.YtlbijkafcododaaChecked
import Derived.Test.YtlbijkafcododaaArE
import Derived.Test.YtlbijkafcododaaArH
import Derived.Test.YtlbijkafcododaaInts
namespace Go.Proofs.Ytlbijkafcododaa
set_option linter.unusedVariables false
set_option linter.unusedSimpArgs false
open Go.RowKit Go.ChangeShapes Go.WideShapes Go.Proofs.Ytlbijkafcododaa.Ar
set_option maxRecDepth 100000

/-- Place of what may be placed. -/
theorem arPlace_ok (A : Option Addr) (n cap : Nat) (A' : Option Addr) (n' cap' : Nat) (sz un : List Int) (w : World) (h : Sl (tInt .i64) w (blo w.heap.size) A n cap sz) (h' : Sl (tInt .i64) w (blo w.heap.size) A' n' cap' un) (c : mayOk sz un) :
    Calls Try.prog 73 #[.slice A n cap, .slice A' n' cap'] w fun e w' => ∃ A c, e = .returned (.tuple #[.slice A n c, .int .i64 (roomTo sz un n), .bool true]) ∧ Sl (tInt .i64) w' (bin w.heap.size w'.heap.size) A n c (atTo sz un n) ∧ Below w.heap.size w w' :=
  (arPlace_any A n cap A' n' cap' sz un w h h').mono fun e w' hr => by unfold RetPlaces at hr; rw [if_pos c] at hr; exact hr
theorem arPlace_no (A : Option Addr) (n cap : Nat) (A' : Option Addr) (n' cap' : Nat) (sz un : List Int) (w : World) (h : Sl (tInt .i64) w (blo w.heap.size) A n cap sz) (h' : Sl (tInt .i64) w (blo w.heap.size) A' n' cap' un) (c : ¬ mayOk sz un) :
    Calls Try.prog 73 #[.slice A n cap, .slice A' n' cap'] w fun e w' => e = .returned (.tuple #[.slice none 0 0, .int .i64 0, .bool false]) ∧ Below w.heap.size w w' :=
  (arPlace_any A n cap A' n' cap' sz un w h h').mono fun e w' hr => by unfold RetPlaces at hr; rw [if_neg c] at hr; exact hr

set_option maxHeartbeats 4000000 in
theorem known28_any (w : World) : Calls Try.prog 69 #[] w fun e w' => e = .returned (.bool true) ∧ Below w.heap.size w w' := by
  have b1 := Lib.hid (show mayOk [4, 2, 3] [1, 2, 2] by decide +kernel)
  have b2 := Lib.hid (show roomTo [4, 2, 3] [1, 2, 2] 3 = 6 by decide +kernel)
  have b3 := Lib.hid (show atTo [4, 2, 3] [1, 2, 2] 3 = [0, 4, 0] by decide +kernel)
  have b4 := Lib.hid (show decide (soundOk [4, 2, 3] [1, 2, 2] [0, 4, 0]) = true by decide +kernel)
  have FR := Lib.hid (Far.refl w)
  obtain ⟨w1, hw_w1⟩ : ∃ nw_, w.alloc (.cells #[.int .i64 4, .int .i64 2, .int .i64 3] 3) = nw_ := ⟨_, rfl⟩
  have k_w1 : Below w.heap.size w w1 := by rw [← hw_w1]; exact (Below.refl _ _).alloc (Nat.le_refl _) _
  replace FR := Lib.hid (FR.out.fut k_w1)
  have B1 := Lib.hid (show Blk w1 w.heap.size 3 #[.int .i64 4, .int .i64 2, .int .i64 3] by rw [← hw_w1]; exact Blk.now _ _ _ _ rfl)
  clear k_w1
  obtain ⟨w2, hw_w2⟩ : ∃ nw_, w1.alloc (.cells #[.int .i64 1, .int .i64 2, .int .i64 2] 3) = nw_ := ⟨_, rfl⟩
  have k_w2 : Below w1.heap.size w1 w2 := by rw [← hw_w2]; exact (Below.refl _ _).alloc (Nat.le_refl _) _
  replace FR := Lib.hid (FR.out.fut k_w2)
  replace B1 := Lib.hid (B1.out.fut k_w2)
  have B2 := Lib.hid (show Blk w2 w1.heap.size 3 #[.int .i64 1, .int .i64 2, .int .i64 2] by rw [← hw_w2]; exact Blk.now _ _ _ _ rfl)
  clear k_w2
  go_enter Try.func69, Try.ntmps69
  go_wp2_with fail
  clear hw_w1 hw_w2
  refine (arPlace_ok _ 3 3 _ 3 3 [4, 2, 3] [1, 2, 2] w2 (Sl.lit _ B1.out.heap rfl (by decide) B1.out.lt rfl rfl (by decide)) (Sl.lit _ B2.out.heap rfl (by decide) B2.out.lt rfl rfl (by decide)) b1.out).mono ?_
  rintro e w3 ⟨A, c, rfl, hs, hb⟩
  rw [b2.out]
  rw [b3.out] at hs
  have S := Lib.hid hs.old
  clear hs B1 B2
  replace FR := Lib.hid (FR.out.fut hb)
  clear hb
  obtain ⟨w4, hw_w4⟩ : ∃ nw_, w3.alloc (.cells #[.int .i64 0, .int .i64 4, .int .i64 0] 3) = nw_ := ⟨_, rfl⟩
  have k_w4 : Below w3.heap.size w3 w4 := by rw [← hw_w4]; exact (Below.refl _ _).alloc (Nat.le_refl _) _
  replace FR := Lib.hid (FR.out.fut k_w4)
  replace S := Lib.hid (S.out.fut k_w4)
  have B4 := Lib.hid (show Blk w4 w3.heap.size 3 #[.int .i64 0, .int .i64 4, .int .i64 0] by rw [← hw_w4]; exact Blk.now _ _ _ _ rfl)
  clear k_w4
  go_wp2_with fail
  clear hw_w4
  refine (samei_eq A _ 3 c 3 3 [0, 4, 0] w4 S.out (Sl.lit _ B4.out.heap rfl (by decide) B4.out.lt rfl rfl (by decide))).mono ?_
  rintro e w5 ⟨rfl, hb⟩
  clear B4
  replace FR := Lib.hid (FR.out.fut hb)
  replace S := Lib.hid (S.out.fut hb)
  clear hb
  obtain ⟨w6, hw_w6⟩ : ∃ nw_, w5.alloc (.cells #[.int .i64 4, .int .i64 2, .int .i64 3] 3) = nw_ := ⟨_, rfl⟩
  have k_w6 : Below w5.heap.size w5 w6 := by rw [← hw_w6]; exact (Below.refl _ _).alloc (Nat.le_refl _) _
  replace FR := Lib.hid (FR.out.fut k_w6)
  replace S := Lib.hid (S.out.fut k_w6)
  have B6 := Lib.hid (show Blk w6 w5.heap.size 3 #[.int .i64 4, .int .i64 2, .int .i64 3] by rw [← hw_w6]; exact Blk.now _ _ _ _ rfl)
  clear k_w6
  obtain ⟨w7, hw_w7⟩ : ∃ nw_, w6.alloc (.cells #[.int .i64 1, .int .i64 2, .int .i64 2] 3) = nw_ := ⟨_, rfl⟩
  have k_w7 : Below w6.heap.size w6 w7 := by rw [← hw_w7]; exact (Below.refl _ _).alloc (Nat.le_refl _) _
  replace FR := Lib.hid (FR.out.fut k_w7)
  replace S := Lib.hid (S.out.fut k_w7)
  replace B6 := Lib.hid (B6.out.fut k_w7)
  have B7 := Lib.hid (show Blk w7 w6.heap.size 3 #[.int .i64 1, .int .i64 2, .int .i64 2] by rw [← hw_w7]; exact Blk.now _ _ _ _ rfl)
  clear k_w7
  go_wp2_with fail
  clear hw_w6 hw_w7
  have SO := arSound_any _ 3 3 _ 3 3 A 3 c [4, 2, 3] [1, 2, 2] [0, 4, 0] w7 (Sl.lit _ B6.out.heap rfl (by decide) B6.out.lt rfl rfl (by decide)) (Sl.lit _ B7.out.heap rfl (by decide) B7.out.lt rfl rfl (by decide)) S.out
  rw [b4.out] at SO
  refine SO.mono ?_
  clear SO
  rintro e w8 ⟨rfl, hb⟩
  clear B6 B7
  replace FR := Lib.hid (FR.out.fut hb)
  clear hb
  go_wp2_with fail
  go_ret
  exact ⟨rfl, FR.out.out⟩

set_option maxHeartbeats 4000000 in
theorem arenaPlaces_walk (A : Option Addr) (n c : Nat) (sz : List Int) {W : World} (h : Sl (tInt .i64) W (blo W.heap.size) A n c sz) (A' : Option Addr) (n' c' : Nat) (un : List Int) (h' : Sl (tInt .i64) W (blo W.heap.size) A' n' c' un) (w : World) (e : W = w) :
    Calls Try.prog 14 #[.slice A n c, .slice A' n' c'] w fun e w' => e = .returned (.bool true) ∧ Below w.heap.size w w' := by
  subst e
  have H := Lib.hid h
  have H' := Lib.hid h'
  have HL := Lib.hid h.n_eq
  have FR := Lib.hid (Far.refl W)
  clear h h'
  by_cases g1 : 24 < n
  · have t1 : decide ((24 : Int) < (n : Int)) = true := by simp; omega
    clear g1
    go_enter Try.func14, Try.ntmps14
    go_wp2_with fail
    refine (known28_any W).mono ?_
    rintro e w2 ⟨rfl, b2⟩
    go_wp2_with fail
    go_ret
    exact ⟨rfl, b2⟩
  have t1 : decide ((24 : Int) < (n : Int)) = false := by simp; omega
  by_cases g2 : 24 < n'
  · have t2 : decide ((24 : Int) < (n' : Int)) = true := by simp; omega
    clear g1 g2
    go_enter Try.func14, Try.ntmps14
    go_wp2_with fail
    refine (known28_any W).mono ?_
    rintro e w2 ⟨rfl, b2⟩
    go_wp2_with fail
    go_ret
    exact ⟨rfl, b2⟩
  have t2 : decide ((24 : Int) < (n' : Int)) = false := by simp; omega
  clear g1 g2
  by_cases cm : mayOk sz un
  · have C := Lib.hid cm
    have MA := Lib.hid (decide_eq_true cm)
    clear cm
    obtain ⟨r, hr⟩ : ∃ r, roomTo sz un n = r := ⟨_, rfl⟩
    obtain ⟨pk, hpk⟩ : ∃ r, peakTo sz un n = r := ⟨_, rfl⟩
    have q1 : (r == r) = true := by simp
    have q2 : (pk == pk) = true := by simp
    have R := Lib.hid hr
    have PK := Lib.hid hpk
    clear hr hpk
    go_enter Try.func14, Try.ntmps14
    go_wp2_with fail
    refine (arPlace_ok A n c A' n' c' sz un W H.out H'.out C.out).mono ?_
    rintro e w1 ⟨A1, c1, rfl, hs, hb⟩
    rw [R.out]
    have S := Lib.hid hs.old
    clear hs
    replace FR := Lib.hid (FR.out.fut hb)
    replace H := Lib.hid (H.out.fut hb)
    replace H' := Lib.hid (H'.out.fut hb)
    clear hb
    have M := refMay_any A n c A' n' c' sz un w1 H.out H'.out
    rw [MA.out] at M
    have M := Lib.hid M
    go_wp2_with fail
    refine M.out.mono ?_
    rintro e w2 ⟨rfl, rfl⟩
    clear M
    go_wp2_with fail
    refine (rfPlace_any A n c A' n' c' sz un w1 H.out H'.out C.out).mono ?_
    rintro e w2 ⟨A2, c2, rfl, hs, hb⟩
    rw [R.out]
    have S2 := Lib.hid hs.old
    clear hs
    replace FR := Lib.hid (FR.out.fut hb)
    replace S := Lib.hid (S.out.fut hb)
    replace H := Lib.hid (H.out.fut hb)
    replace H' := Lib.hid (H'.out.fut hb)
    clear hb
    go_wp2_with fail
    refine (samei_eq A1 A2 n c1 n c2 _ w2 S.out S2.out).mono ?_
    rintro e w3 ⟨rfl, hb⟩
    clear S2
    replace FR := Lib.hid (FR.out.fut hb)
    replace S := Lib.hid (S.out.fut hb)
    replace H := Lib.hid (H.out.fut hb)
    replace H' := Lib.hid (H'.out.fut hb)
    clear hb
    have P1 := arPeak_any A n c A' n' c' sz un w3 H.out H'.out
    rw [if_pos C.out, PK.out] at P1
    have P2 := refPeak_any A n c A' n' c' sz un w3 H.out H'.out C.out
    rw [PK.out] at P2
    have P1 := Lib.hid P1
    have P2 := Lib.hid P2
    go_wp2_with fail
    refine P1.out.mono ?_
    rintro e w4 ⟨rfl, rfl⟩
    go_wp2_with fail
    refine P2.out.mono ?_
    rintro e w4 ⟨rfl, rfl⟩
    clear P1 P2
    go_wp2_with fail
    refine (known28_any _).mono ?_
    rintro e w5 ⟨rfl, hb⟩
    replace FR := Lib.hid (FR.out.fut hb)
    clear hb
    go_wp2_with fail
    go_ret
    exact ⟨rfl, FR.out.out⟩
  · have C := Lib.hid cm
    have MA := Lib.hid (decide_eq_false cm)
    clear cm
    go_enter Try.func14, Try.ntmps14
    go_wp2_with fail
    refine (arPlace_no A n c A' n' c' sz un W H.out H'.out C.out).mono ?_
    rintro e w1 ⟨rfl, hb⟩
    replace FR := Lib.hid (FR.out.fut hb)
    replace H := Lib.hid (H.out.fut hb)
    replace H' := Lib.hid (H'.out.fut hb)
    clear hb
    have M := refMay_any A n c A' n' c' sz un w1 H.out H'.out
    rw [MA.out] at M
    have M := Lib.hid M
    have P1 := arPeak_any A n c A' n' c' sz un w1 H.out H'.out
    rw [if_neg C.out] at P1
    have P1 := Lib.hid P1
    go_wp2_with fail
    refine M.out.mono ?_
    rintro e w2 ⟨rfl, rfl⟩
    clear M
    go_wp2_with fail
    refine P1.out.mono ?_
    rintro e w4 ⟨rfl, rfl⟩
    clear P1
    go_wp2_with fail
    refine (known28_any _).mono ?_
    rintro e w5 ⟨rfl, hb⟩
    replace FR := Lib.hid (FR.out.fut hb)
    clear hb
    go_wp2_with fail
    go_ret
    exact ⟨rfl, FR.out.out⟩
end Go.Proofs.Ytlbijkafcododaa
