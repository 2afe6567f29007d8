/-
  The walk of the law VerdictLooks (layer 30).
  Conditions: none.
-/
import Derived.Test.YtlbijkafcododaaChecked
import Derived.Test.YtlbijkafcododaaVerdD
namespace Go.Proofs.Ytlbijkafcododaa
set_option linter.unusedVariables false
set_option linter.unusedSimpArgs false
open Go.RowKit Go.ChangeShapes Go.WideShapes Go.Proofs.Ytlbijkafcododaa.Rk
set_option maxRecDepth 100000

theorem few30_any (h v c : Int) (A : Option Addr) (n cap : Nat) (W : Option Addr) (nw cw : Nat) (B : Option Addr) (nb cb : Nat) (need : Int) (w : World) (h1 : n ≤ maxLen) (h2 : nw ≤ maxLen) (h3 : nb ≤ maxLen) :
    Calls Try.prog 62 #[.agg #[.int .i64 h, .int .i64 v, .int .i64 c, .slice A n cap], .agg #[.slice W nw cw, .slice B nb cb, .int .i32 need]] w fun e w' => e = .returned (.bool (decide (n ≤ 1024 ∧ nw ≤ 4000 ∧ nb ≤ 100))) ∧ Below w.heap.size w w' := by
  unfold maxLen at h1 h2 h3
  obtain ⟨r, hr⟩ : ∃ r, decide (n ≤ 1024 ∧ nw ≤ 4000 ∧ nb ≤ 100) = r := ⟨_, rfl⟩
  rw [hr]
  have R := Lib.hid hr
  clear hr
  by_cases c1 : n ≤ 1024
  · have t1 : decide ((n : Int) ≤ 1024) = true := by simp; omega
    by_cases c2 : nw ≤ 4000
    · have t2 : decide ((nw : Int) ≤ 4000) = true := by simp; omega
      by_cases c3 : nb ≤ 100
      · have t3 : decide ((nb : Int) ≤ 100) = true := by simp; omega
        have R2 := Lib.hid (show true = r by rw [← R.out]; simp; omega)
        go_enter Try.func62, Try.ntmps62
        go_wp2_with fail
        go_ret
        exact ⟨ret_bool R2.out, by go_grown⟩
      · have t3 : decide ((nb : Int) ≤ 100) = false := by simp; omega
        have R2 := Lib.hid (show false = r by rw [← R.out]; simp; omega)
        go_enter Try.func62, Try.ntmps62
        go_wp2_with fail
        go_ret
        exact ⟨ret_bool R2.out, by go_grown⟩
    · have t2 : decide ((nw : Int) ≤ 4000) = false := by simp; omega
      have R2 := Lib.hid (show false = r by rw [← R.out]; simp; omega)
      go_enter Try.func62, Try.ntmps62
      go_wp2_with fail
      go_ret
      exact ⟨ret_bool R2.out, by go_grown⟩
  · have t1 : decide ((n : Int) ≤ 1024) = false := by simp; omega
    have R2 := Lib.hid (show false = r by rw [← R.out]; simp; omega)
    go_enter Try.func62, Try.ntmps62
    go_wp2_with fail
    go_ret
    exact ⟨ret_bool R2.out, by go_grown⟩

theorem known30_any (w : World) : Calls Try.prog 63 #[] w fun e w' => e = .returned (.bool true) ∧ Below w.heap.size w w' := by
  have e1 : (lookV ⟨1, 1, 1, [2]⟩ ⟨[3, -1], [0, 0], 8⟩ 2).1 = ⟨0, 8, [6, -2], true⟩ ∧ (lookV ⟨1, 1, 1, [2]⟩ ⟨[3, -1], [0, 0], 8⟩ 2).2 = 0 := by
    have : lookV ⟨1, 1, 1, [2]⟩ ⟨[3, -1], [0, 0], 8⟩ 2 = (⟨0, 8, [6, -2], true⟩, 0) := by
      have h1 : Tensor.ok ⟨1, 1, 1, [2]⟩ = true := by decide +kernel
      have h2 : checkI (elems 1 1 1) 2 2 8 2 = 0 := by decide +kernel
      have h3 : denseLine [2] [3, -1] [0, 0] 0 = [6, -2] := by decide +kernel
      have h4 : bestI [6, -2] = 0 := by decide +kernel
      have h5 : marginI [6, -2] = 8 := by decide +kernel
      unfold lookV
      rw [if_neg (by rw [h1]; simp), if_neg (by show ¬ checkI (elems 1 1 1) 2 2 8 2 ≠ 0; rw [h2]; simp)]
      simp only [h3, h4, h5]
      rfl
    rw [this]; exact ⟨rfl, rfl⟩
  have E1 := Lib.hid e1
  clear e1
  have FR := Lib.hid (Far.refl w)
  obtain ⟨w1, hw_w1⟩ : ∃ nw_, w.alloc (.cells #[.int .i8 2] 115) = nw_ := ⟨_, rfl⟩
  have k_w1 : Below w.heap.size w w1 := by rw [← hw_w1]; exact (Below.refl _ _).alloc (Nat.le_refl _) _
  replace FR := Lib.hid (FR.out.fut k_w1)
  have B1 := Lib.hid (show Blk w1 w.heap.size 115 #[.int .i8 2] by rw [← hw_w1]; exact Blk.now _ _ _ _ rfl)
  clear k_w1
  obtain ⟨w2, hw_w2⟩ : ∃ nw_, w1.alloc (.cells #[.int .i8 3, .int .i8 (-1)] 115) = nw_ := ⟨_, rfl⟩
  have k_w2 : Below w1.heap.size w1 w2 := by rw [← hw_w2]; exact (Below.refl _ _).alloc (Nat.le_refl _) _
  replace FR := Lib.hid (FR.out.fut k_w2)
  replace B1 := Lib.hid (B1.out.fut k_w2)
  have B2 := Lib.hid (show Blk w2 w1.heap.size 115 #[.int .i8 3, .int .i8 (-1)] by rw [← hw_w2]; exact Blk.now _ _ _ _ rfl)
  clear k_w2
  obtain ⟨w3, hw_w3⟩ : ∃ nw_, w2.alloc (.cells #[.int .i32 0, .int .i32 0] 21) = nw_ := ⟨_, rfl⟩
  have k_w3 : Below w2.heap.size w2 w3 := by rw [← hw_w3]; exact (Below.refl _ _).alloc (Nat.le_refl _) _
  replace FR := Lib.hid (FR.out.fut k_w3)
  replace B1 := Lib.hid (B1.out.fut k_w3)
  replace B2 := Lib.hid (B2.out.fut k_w3)
  have B3 := Lib.hid (show Blk w3 w2.heap.size 21 #[.int .i32 0, .int .i32 0] by rw [← hw_w3]; exact Blk.now _ _ _ _ rfl)
  clear k_w3
  go_enter Try.func63, Try.ntmps63
  go_wp2_with fail
  clear hw_w1 hw_w2 hw_w3
  refine (verdLook_any ⟨1, 1, 1, [2]⟩ _ 1 1 ⟨[3, -1], [0, 0], 8⟩ _ 2 2 _ 2 2 2 w3 ⟨by decide, by decide, by decide⟩ (by decide) (by decide)
    (Sl.lit _ B1.out.heap rfl (by decide) B1.out.lt rfl rfl (by decide)) (Sl.lit _ B2.out.heap rfl (by decide) B2.out.lt rfl rfl (by decide)) (Sl.lit _ B3.out.heap rfl (by decide) B3.out.lt rfl rfl (by decide))).mono ?_
  rintro e w4 ⟨A, n, cap, rfl, hs, hb⟩
  rw [E1.out.1, E1.out.2] at *
  simp only at hs
  obtain rfl : 2 = n := hs.n_eq
  have S := Lib.hid hs.old
  clear hs
  replace FR := Lib.hid (FR.out.fut hb)
  clear hb
  obtain ⟨w5, hw_w5⟩ : ∃ nw_, w4.alloc (.cells #[.int .i64 0, .int .i64 8, .slice A 2 cap, .bool true] 88) = nw_ := ⟨_, rfl⟩
  have k_w5 : Below w4.heap.size w4 w5 := by rw [← hw_w5]; exact (Below.refl _ _).alloc (Nat.le_refl _) _
  replace FR := Lib.hid (FR.out.fut k_w5)
  replace S := Lib.hid (S.out.fut k_w5)
  have BV := Lib.hid (show Blk w5 w4.heap.size 88 #[.int .i64 0, .int .i64 8, .slice A 2 cap, .bool true] by rw [← hw_w5]; exact Blk.now _ _ _ _ rfl)
  clear k_w5
  have c5 := fun i => BV.out.cell i
  obtain ⟨w6, hw_w6⟩ : ∃ nw_, w5.alloc (.cells #[.int .i32 6, .int .i32 (-2)] 21) = nw_ := ⟨_, rfl⟩
  have k_w6 : Below w5.heap.size w5 w6 := by rw [← hw_w6]; exact (Below.refl _ _).alloc (Nat.le_refl _) _
  replace FR := Lib.hid (FR.out.fut k_w6)
  replace S := Lib.hid (S.out.fut k_w6)
  replace BV := Lib.hid (BV.out.fut k_w6)
  have B6 := Lib.hid (show Blk w6 w5.heap.size 21 #[.int .i32 6, .int .i32 (-2)] by rw [← hw_w6]; exact Blk.now _ _ _ _ rfl)
  clear k_w6
  have cV := fun i => BV.out.cell i
  go_wp2_with fail
  clear hw_w5 hw_w6 cV c5
  refine (same32_any A (some ⟨w5.heap.size, 0, none⟩) 2 cap 2 2 [6, -2] w6 S.out (Sl.lit _ B6.out.heap rfl (by decide) B6.out.lt rfl rfl (by decide))).mono ?_
  rintro e w7 ⟨rfl, hb⟩
  replace FR := Lib.hid (FR.out.fut hb)
  clear hb
  go_wp2_with fail
  go_ret
  exact ⟨rfl, FR.out.out⟩

theorem verdictLooks_any (t : Tensor) (A : Option Addr) (n cap : Nat) (d : Hd) (W : Option Addr) (nw cw : Nat) (B : Option Addr) (nb cb : Nat) (cl : Int) (w : World) (ht : TensorIn t) (hn : InK .i32 d.need) (hcl : InK .i64 cl)
    (ha : Sl (tInt .i8) w (blo w.heap.size) A n cap t.data) (hw : Sl (tInt .i8) w (blo w.heap.size) W nw cw d.w) (hb : Sl (tInt .i32) w (blo w.heap.size) B nb cb d.bias) :
    Calls Try.prog 11 #[.agg #[.int .i64 t.h, .int .i64 t.v, .int .i64 t.c, .slice A n cap], .agg #[.slice W nw cw, .slice B nb cb, .int .i32 d.need], .int .i64 cl] w fun e w' => e = .returned (.bool true) ∧ Below w.heap.size w w' := by
  have HT := Lib.hid ht
  have HN := Lib.hid hn
  have HC := Lib.hid hcl
  have HA := Lib.hid ha
  have HW := Lib.hid hw
  have HB := Lib.hid hb
  have FW := Lib.hid (fun w => few30_any t.h t.v t.c A n cap W nw cw B nb cb d.need w (Nat.le_trans ha.cap_le ha.max_le) (Nat.le_trans hw.cap_le hw.max_le) (Nat.le_trans hb.cap_le hb.max_le))
  have CK := Lib.hid (fun w => verdCheck_any t.h t.v t.c W nw cw B nb cb d.need cl w ht.h ht.v ht.c (Nat.le_trans hw.cap_le hw.max_le) (Nat.le_trans hb.cap_le hb.max_le) hcl)
  have RK := Lib.hid (fun w => refCheck_any t.h t.v t.c W nw cw B nb cb d.need cl w ht.h ht.v ht.c (Nat.le_trans hw.cap_le hw.max_le) (Nat.le_trans hb.cap_le hb.max_le) hcl)
  clear ht hn hcl ha hw hb
  generalize checkI (elems t.h t.v t.c) nw nb d.need cl = ck at *
  have FR := Lib.hid (Far.refl w)
  obtain ⟨w1, hw_w1⟩ : ∃ nw_, w.alloc (.cells #[.int .i64 t.h, .int .i64 t.v, .int .i64 t.c, .slice A n cap] 55) = nw_ := ⟨_, rfl⟩
  have k_w1 : Below w.heap.size w w1 := by rw [← hw_w1]; exact (Below.refl _ _).alloc (Nat.le_refl _) _
  replace FR := Lib.hid (FR.out.fut k_w1)
  replace HA := Lib.hid (HA.out.fut k_w1)
  replace HW := Lib.hid (HW.out.fut k_w1)
  replace HB := Lib.hid (HB.out.fut k_w1)
  have BA := Lib.hid (show Blk w1 w.heap.size 55 #[.int .i64 t.h, .int .i64 t.v, .int .i64 t.c, .slice A n cap] by rw [← hw_w1]; exact Blk.now _ _ _ _ rfl)
  clear k_w1
  obtain ⟨w2, hw_w2⟩ : ∃ nw_, w1.alloc (.cells #[.slice W nw cw, .slice B nb cb, .int .i32 d.need] 85) = nw_ := ⟨_, rfl⟩
  have k_w2 : Below w1.heap.size w1 w2 := by rw [← hw_w2]; exact (Below.refl _ _).alloc (Nat.le_refl _) _
  replace FR := Lib.hid (FR.out.fut k_w2)
  replace BA := Lib.hid (BA.out.fut k_w2)
  replace HA := Lib.hid (HA.out.fut k_w2)
  replace HW := Lib.hid (HW.out.fut k_w2)
  replace HB := Lib.hid (HB.out.fut k_w2)
  have BH := Lib.hid (show Blk w2 w1.heap.size 85 #[.slice W nw cw, .slice B nb cb, .int .i32 d.need] by rw [← hw_w2]; exact Blk.now _ _ _ _ rfl)
  clear k_w2
  by_cases hf : n ≤ 1024 ∧ nw ≤ 4000 ∧ nb ≤ 100
  rotate_left
  · have hf2 : decide (n ≤ 1024 ∧ nw ≤ 4000 ∧ nb ≤ 100) = false := by simpa using hf
    rw [hf2] at FW
    clear hf hf2
    go_enter Try.func11, Try.ntmps11
    go_wp2_with (first | (refine wpList_load_row rfl 55 (.tmp 3) rfl w.heap.size rfl _ _ (0, 0) _ BA.out.heap Try.underlying55 rfl (by kernel_rfl) ?_) | (refine wpList_load_row rfl 85 (.tmp 4) rfl w1.heap.size rfl _ _ (0, 0) _ BH.out.heap Try.underlying85 rfl (by kernel_rfl) ?_))
    clear hw_w1 hw_w2
    refine (FW.out _).mono ?_
    rintro e w3 ⟨rfl, hb⟩
    replace FR := Lib.hid (FR.out.fut hb)
    clear hb
    go_wp2_with fail
    refine (known30_any w3).mono ?_
    rintro e w4 ⟨rfl, hb⟩
    replace FR := Lib.hid (FR.out.fut hb)
    clear hb
    go_wp2_with fail
    go_ret
    exact ⟨rfl, FR.out.out⟩
  · have hf2 : decide (n ≤ 1024 ∧ nw ≤ 4000 ∧ nb ≤ 100) = true := by simpa using hf
    rw [hf2] at FW
    clear hf hf2
    obtain ⟨x, hx⟩ : ∃ x, (lookV t d cl).1 = x := ⟨_, rfl⟩
    obtain ⟨k, hk⟩ : ∃ x, (lookV t d cl).2 = x := ⟨_, rfl⟩
    have X := Lib.hid (And.intro hx hk)
    clear hx hk
    have q1 : (k == k) = true := by simp
    have q2 : (x.cls == x.cls) = true := by simp
    have q3 : (x.marg == x.marg) = true := by simp
    have q4 : (x.en == x.en) = true := by simp
    have q5 : (ck == ck) = true := by simp
    go_enter Try.func11, Try.ntmps11
    go_wp2_with (first | (refine wpList_load_row rfl 55 (.tmp 3) rfl w.heap.size rfl _ _ (0, 0) _ BA.out.heap Try.underlying55 rfl (by kernel_rfl) ?_) | (refine wpList_load_row rfl 85 (.tmp 4) rfl w1.heap.size rfl _ _ (0, 0) _ BH.out.heap Try.underlying85 rfl (by kernel_rfl) ?_))
    clear hw_w1 hw_w2
    refine (FW.out _).mono ?_
    rintro e w3 ⟨rfl, hb⟩
    replace FR := Lib.hid (FR.out.fut hb)
    replace BA := Lib.hid (BA.out.fut hb)
    replace BH := Lib.hid (BH.out.fut hb)
    replace HA := Lib.hid (HA.out.fut hb)
    replace HW := Lib.hid (HW.out.fut hb)
    replace HB := Lib.hid (HB.out.fut hb)
    clear hb
    go_wp2_with (first | (refine wpList_load_row rfl 55 (.tmp 3) rfl w.heap.size rfl _ _ (0, 0) _ BA.out.heap Try.underlying55 rfl (by kernel_rfl) ?_) | (refine wpList_load_row rfl 85 (.tmp 4) rfl w1.heap.size rfl _ _ (0, 0) _ BH.out.heap Try.underlying85 rfl (by kernel_rfl) ?_))
    refine (verdLook_any t A n cap d W nw cw B nb cb cl w3 HT.out HN.out HC.out HA.out HW.out HB.out).mono ?_
    rintro e w4 ⟨A1, n1, c1, rfl, s1, hb⟩
    rw [X.out.1, X.out.2]
    rw [X.out.1] at s1
    have S1 := Lib.hid s1.old
    clear s1
    replace FR := Lib.hid (FR.out.fut hb)
    replace BA := Lib.hid (BA.out.fut hb)
    replace BH := Lib.hid (BH.out.fut hb)
    replace HA := Lib.hid (HA.out.fut hb)
    replace HW := Lib.hid (HW.out.fut hb)
    replace HB := Lib.hid (HB.out.fut hb)
    clear hb
    obtain ⟨w5, hw_w5⟩ : ∃ nw_, w4.alloc (.cells #[.int .i64 x.cls, .int .i64 x.marg, .slice A1 n1 c1, .bool x.en] 88) = nw_ := ⟨_, rfl⟩
    have k_w5 : Below w4.heap.size w4 w5 := by rw [← hw_w5]; exact (Below.refl _ _).alloc (Nat.le_refl _) _
    replace FR := Lib.hid (FR.out.fut k_w5)
    replace BA := Lib.hid (BA.out.fut k_w5)
    replace BH := Lib.hid (BH.out.fut k_w5)
    replace HA := Lib.hid (HA.out.fut k_w5)
    replace HW := Lib.hid (HW.out.fut k_w5)
    replace HB := Lib.hid (HB.out.fut k_w5)
    replace S1 := Lib.hid (S1.out.fut k_w5)
    have BV := Lib.hid (show Blk w5 w4.heap.size 88 #[.int .i64 x.cls, .int .i64 x.marg, .slice A1 n1 c1, .bool x.en] by rw [← hw_w5]; exact Blk.now _ _ _ _ rfl)
    clear k_w5
    go_wp2_with (first | (refine wpList_load_row rfl 55 (.tmp 3) rfl w.heap.size rfl _ _ (0, 0) _ BA.out.heap Try.underlying55 rfl (by kernel_rfl) ?_) | (refine wpList_load_row rfl 85 (.tmp 4) rfl w1.heap.size rfl _ _ (0, 0) _ BH.out.heap Try.underlying85 rfl (by kernel_rfl) ?_))
    clear hw_w5
    refine (refLook_any t A n cap d W nw cw B nb cb cl w5 HT.out HN.out HC.out HA.out HW.out HB.out).mono ?_
    rintro e w6 ⟨A2, n2, c2, rfl, s2, hb⟩
    rw [X.out.1, X.out.2]
    rw [X.out.1] at s2
    have S2 := Lib.hid s2.old
    clear s2
    replace FR := Lib.hid (FR.out.fut hb)
    replace BA := Lib.hid (BA.out.fut hb)
    replace BH := Lib.hid (BH.out.fut hb)
    replace BV := Lib.hid (BV.out.fut hb)
    replace S1 := Lib.hid (S1.out.fut hb)
    clear hb
    obtain ⟨w7, hw_w7⟩ : ∃ nw_, w6.alloc (.cells #[.int .i64 x.cls, .int .i64 x.marg, .slice A2 n2 c2, .bool x.en] 91) = nw_ := ⟨_, rfl⟩
    have k_w7 : Below w6.heap.size w6 w7 := by rw [← hw_w7]; exact (Below.refl _ _).alloc (Nat.le_refl _) _
    replace FR := Lib.hid (FR.out.fut k_w7)
    replace BA := Lib.hid (BA.out.fut k_w7)
    replace BH := Lib.hid (BH.out.fut k_w7)
    replace BV := Lib.hid (BV.out.fut k_w7)
    replace S1 := Lib.hid (S1.out.fut k_w7)
    replace S2 := Lib.hid (S2.out.fut k_w7)
    have BU := Lib.hid (show Blk w7 w6.heap.size 91 #[.int .i64 x.cls, .int .i64 x.marg, .slice A2 n2 c2, .bool x.en] by rw [← hw_w7]; exact Blk.now _ _ _ _ rfl)
    clear k_w7
    go_wp2_with fail
    clear hw_w7
    have cA : ∀ (x : Ext w7) (i : Nat), x.1.cell? ⟨w.heap.size, i, none⟩ = (#[.int .i64 t.h, .int .i64 t.v, .int .i64 t.c, .slice A n cap] : Array Value)[i]? := fun x i => (BA.out.ext x).cell i
    have cH : ∀ (x : Ext w7) (i : Nat), x.1.cell? ⟨w1.heap.size, i, none⟩ = (#[.slice W nw cw, .slice B nb cb, .int .i32 d.need] : Array Value)[i]? := fun x i => (BH.out.ext x).cell i
    have cV : ∀ (y : Ext w7) (i : Nat), y.1.cell? ⟨w4.heap.size, i, none⟩ = (#[.int .i64 x.cls, .int .i64 x.marg, .slice A1 n1 c1, .bool x.en] : Array Value)[i]? := fun y i => (BV.out.ext y).cell i
    have cU : ∀ (y : Ext w7) (i : Nat), y.1.cell? ⟨w6.heap.size, i, none⟩ = (#[.int .i64 x.cls, .int .i64 x.marg, .slice A2 n2 c2, .bool x.en] : Array Value)[i]? := fun y i => (BU.out.ext y).cell i
    have E1 := Lib.hid (fun y : Ext w7 => calls_ext y (same32_any A1 A2 n1 c1 n2 c2 x.lg y.1 (S1.out.fut y.2) (S2.out.fut y.2)))
    have E2 := Lib.hid (fun y : Ext w7 => calls_ext y (CK.out y.1))
    have E3 := Lib.hid (fun y : Ext w7 => calls_ext y (RK.out y.1))
    have E4 := Lib.hid (fun y : Ext w7 => calls_ext y (known30_any y.1))
    refine wp_region_ext w7 (by kernel_rfl) (by kernel_rfl) (Below.refl _ _) ?_
    repeat (go_big_quiet_step ((first | (go_at_call 66; exact E1.out _) | (go_at_call 67; exact E2.out _) | (go_at_call 68; exact E3.out _) | (go_at_call 63; exact E4.out _))))
    refine wpQuiet_nil ?_
    rintro _ ⟨⟨w8, hb⟩, rfl⟩
    replace FR := Lib.hid (FR.out.fut hb)
    clear hb
    clear cA cH cV cU E1 E2 E3 E4
    go_wp2_with fail
    go_ret
    exact ⟨rfl, FR.out.out⟩

theorem verdictLooks_walk (cs : Array Value) (t : Tensor) {w0 : World} (ht : tTensor.rep w0 (blo w0.heap.size) cs.toList t) (cs' : Array Value) (d : Hd) (hd : tHd.rep w0 (blo w0.heap.size) cs'.toList d) (cl : Int) (hcl : InK .i64 cl) (w : World) (e : w0 = w) :
    Calls Try.prog 11 #[.agg cs, .agg cs', .int .i64 cl] w fun e w' => e = .returned (.bool true) ∧ Below w.heap.size w w' := by
  subst e
  obtain ⟨A, n, cap, e1, k1, k2⟩ := tensor_open ht
  obtain ⟨W, nw, cw, B, nb, cb, e2, k3, k4, k5⟩ := hd_open hd
  obtain ⟨cs⟩ := cs
  obtain ⟨cs'⟩ := cs'
  simp only at e1 e2
  subst e1 e2
  exact verdictLooks_any t A n cap d W nw cw B nb cb cl _ k1 k3 hcl k2 k4 k5
end Go.Proofs.Ytlbijkafcododaa
