/-
  Exits (layer 30): the document's Check; Look, the program's and the document's.
  Conditions: none.
-/
import Derived.Test.YtlbijkafcododaaChecked
import Derived.Test.YtlbijkafcododaaVerdA
import Derived.Test.YtlbijkafcododaaLine
import Derived.Test.YtlbijkafcododaaRankD
namespace Go.Proofs.Ytlbijkafcododaa
set_option linter.unusedVariables false
set_option linter.unusedSimpArgs false
open Go.RowKit Go.ChangeShapes Go.WideShapes Go.Proofs.Ytlbijkafcododaa.Rk
set_option maxRecDepth 100000

theorem refCheck_any (h v c : Int) (W : Option Addr) (nw cw : Nat) (B : Option Addr) (nb cb : Nat) (need cl : Int) (w : World) (h0 : InK .i64 h) (h1 : InK .i64 v) (h2 : InK .i64 c) (hnw : nw ≤ maxLen) (hnb : nb ≤ maxLen) (hcl : InK .i64 cl) :
    Calls Try.prog 68 #[.agg #[.int .i64 h, .int .i64 v, .int .i64 c], .agg #[.slice W nw cw, .slice B nb cb, .int .i32 need], .int .i64 cl] w fun e w' =>
      e = .returned (.int .i64 (checkI (elems h v c) nw nb need cl)) ∧ Below w.heap.size w w' := by
  have H := Lib.hid (And.intro h0 (And.intro h1 h2))
  unfold maxLen at hnw hnb
  rw [inK_i64] at hcl
  clear h0 h1 h2
  obtain ⟨mb1, mb2⟩ := elems_bd h v c
  have EL := Lib.hid (fun w => relems_any h c v w H.out.1 H.out.2.1 H.out.2.2)
  generalize elems h v c = m at *
  have FR := Lib.hid (Far.refl w)
  obtain ⟨w1, hw_w1⟩ : ∃ x, w.alloc (.cells #[.int .i64 h, .int .i64 v, .int .i64 c] 52) = x := ⟨_, rfl⟩
  have k_w1 : Below w.heap.size w w1 := by rw [← hw_w1]; exact (Below.refl _ _).alloc (Nat.le_refl _) _
  replace FR := Lib.hid (FR.out.fut k_w1)
  have BS := Lib.hid (show Blk w1 w.heap.size 52 #[.int .i64 h, .int .i64 v, .int .i64 c] by rw [← hw_w1]; exact Blk.now _ _ _ _ rfl)
  clear k_w1
  obtain ⟨w2, hw_w2⟩ : ∃ x, w1.alloc (.cells #[.slice W nw cw, .slice B nb cb, .int .i32 need] 85) = x := ⟨_, rfl⟩
  have k_w2 : Below w1.heap.size w1 w2 := by rw [← hw_w2]; exact (Below.refl _ _).alloc (Nat.le_refl _) _
  replace FR := Lib.hid (FR.out.fut k_w2)
  replace BS := Lib.hid (BS.out.fut k_w2)
  have BH := Lib.hid (show Blk w2 w1.heap.size 85 #[.slice W nw cw, .slice B nb cb, .int .i32 need] by rw [← hw_w2]; exact Blk.now _ _ _ _ rfl)
  clear k_w2
  have cS := fun i => BS.out.cell i
  have cH := fun i => BH.out.cell i
  by_cases z : m = 0
  · subst z
    have C := Lib.hid (show (5 : Int) = checkI 0 nw nb need cl by unfold checkI; rw [if_pos rfl])
    go_enter Try.func68, Try.ntmps68
    go_wp2_with fail
    clear hw_w1 hw_w2
    refine (EL.out _).mono ?_
    rintro e w3 ⟨rfl, hb⟩
    replace FR := Lib.hid (FR.out.fut hb)
    clear hb
    go_wp2_with fail
    go_ret
    exact ⟨ret_int C.out, FR.out.out⟩
  have t0 : (m == 0) = false := by simp; exact z
  by_cases c1 : cl < 2
  · have t1 : decide (cl < 2) = true := by simp; exact c1
    have C := Lib.hid (show (2 : Int) = checkI m nw nb need cl by unfold checkI; rw [if_neg z, if_pos (.inl c1)])
    clear z c1
    go_enter Try.func68, Try.ntmps68
    go_wp2_with fail
    clear hw_w1 hw_w2
    refine (EL.out _).mono ?_
    rintro e w3 ⟨rfl, hb⟩
    replace FR := Lib.hid (FR.out.fut hb)
    clear hb
    go_wp2_with fail
    go_ret
    exact ⟨ret_int C.out, FR.out.out⟩
  have t1 : decide (cl < 2) = false := by simp; omega
  by_cases c2 : 16 < cl
  · have t2 : decide (16 < cl) = true := by simp; exact c2
    have C := Lib.hid (show (2 : Int) = checkI m nw nb need cl by unfold checkI; rw [if_neg z, if_pos (.inr c2)])
    clear z c1 c2
    go_enter Try.func68, Try.ntmps68
    go_wp2_with fail
    clear hw_w1 hw_w2
    refine (EL.out _).mono ?_
    rintro e w3 ⟨rfl, hb⟩
    replace FR := Lib.hid (FR.out.fut hb)
    clear hb
    go_wp2_with fail
    go_ret
    exact ⟨ret_int C.out, FR.out.out⟩
  have t2 : decide (16 < cl) = false := by simp; omega
  have pb : 0 ≤ cl * m ∧ cl * m ≤ 16 * 1024 := ⟨Int.mul_nonneg (by omega) (by omega), Int.mul_le_mul (by omega) (by omega) (by omega) (by omega)⟩
  have C0 : checkI m nw nb need cl = if (nw : Int) ≠ cl * m ∨ 16384 < nw ∨ (nb : Int) ≠ cl then 9 else if need < 0 then 11 else 0 := by unfold checkI; rw [if_neg z, if_neg (by omega)]
  have CC := Lib.hid C0
  have e1 : IntKind.i64.wrap (cl * m) = cl * m := IntWalk.i64_in _ (by omega)
  clear C0
  obtain ⟨p, hp⟩ : ∃ p, cl * m = p := ⟨_, rfl⟩
  rw [hp] at e1 CC pb
  have e2 : IntKind.i64.wrap (cl * m) = p := by rw [hp]; exact e1
  have E2 := Lib.hid e2
  clear hp e1 c1 c2 z e2
  obtain ⟨r, hr⟩ : ∃ r, checkI m nw nb need cl = r := ⟨_, rfl⟩
  rw [hr]
  have HR := Lib.hid hr
  clear hr
  go_enter Try.func68, Try.ntmps68
  go_wp2_with fail
  clear hw_w1 hw_w2 cS cH
  refine (EL.out _).mono ?_
  rintro e w3 ⟨rfl, hb⟩
  replace FR := Lib.hid (FR.out.fut hb)
  replace BH := Lib.hid (BH.out.fut hb)
  replace BS := Lib.hid (BS.out.fut hb)
  clear hb
  go_wp2_with fail
  have cH : ∀ (x : Ext w3) (i : Nat), x.1.cell? ⟨w1.heap.size, i, none⟩ = (#[.slice W nw cw, .slice B nb cb, .int .i32 need] : Array Value)[i]? := fun x i => (BH.out.ext x).cell i
  have cS : ∀ (x : Ext w3) (i : Nat), x.1.cell? ⟨w.heap.size, i, none⟩ = (#[.int .i64 h, .int .i64 v, .int .i64 c] : Array Value)[i]? := fun x i => (BS.out.ext x).cell i
  have E1 := Lib.hid (fun x : Ext w3 => calls_ext x (EL.out x.1))
  have e2 := E2.out
  have t3 : (((nw : Int) != p) = true ∧ (if (nw : Int) ≠ p ∨ 16384 < nw ∨ (nb : Int) ≠ cl then (9 : Int) else if need < 0 then 11 else 0) = 9) ∨
      (((nw : Int) != p) = false ∧ ((decide ((16384 : Int) < (nw : Int)) = true ∧ (if (nw : Int) ≠ p ∨ 16384 < nw ∨ (nb : Int) ≠ cl then (9 : Int) else if need < 0 then 11 else 0) = 9) ∨
        (decide ((16384 : Int) < (nw : Int)) = false ∧ ((((nb : Int) != cl) = true ∧ (if (nw : Int) ≠ p ∨ 16384 < nw ∨ (nb : Int) ≠ cl then (9 : Int) else if need < 0 then 11 else 0) = 9) ∨
          (((nb : Int) != cl) = false ∧ ((decide (need < 0) = true ∧ (if (nw : Int) ≠ p ∨ 16384 < nw ∨ (nb : Int) ≠ cl then (9 : Int) else if need < 0 then 11 else 0) = 11) ∨
            (decide (need < 0) = false ∧ (if (nw : Int) ≠ p ∨ 16384 < nw ∨ (nb : Int) ≠ cl then (9 : Int) else if need < 0 then 11 else 0) = 0))))))) := by
    by_cases d1 : (nw : Int) = p
    · right
      refine ⟨by simp; exact d1, ?_⟩
      by_cases d2 : 16384 < nw
      · left; exact ⟨by simp; omega, by rw [if_pos (.inr (.inl d2))]⟩
      · right
        refine ⟨by simp; omega, ?_⟩
        by_cases d3 : (nb : Int) = cl
        · right
          refine ⟨by simp; exact d3, ?_⟩
          rw [if_neg (by omega)]
          by_cases d4 : need < 0
          · left; exact ⟨by simp; exact d4, by rw [if_pos d4]⟩
          · right; exact ⟨by simp; omega, by rw [if_neg d4]⟩
        · left; exact ⟨by simp; exact d3, by rw [if_pos (.inr (.inr d3))]⟩
    · left; exact ⟨by simp; exact d1, by rw [if_pos (.inl d1)]⟩
  rcases t3 with ⟨t3, e⟩ | ⟨t3, ⟨t4, e⟩ | ⟨t4, ⟨t5, e⟩ | ⟨t5, ⟨t6, e⟩ | ⟨t6, e⟩⟩⟩⟩
  all_goals
    have E := Lib.hid e
    clear e
    refine wp_region_ext w3 (by kernel_rfl) (by kernel_rfl) (Below.refl _ _) ?_
    repeat (go_big_quiet_step ((exact E1.out _)))
    refine wpQuiet_nil ?_
    rintro _ ⟨⟨w4, hb⟩, rfl⟩
    clear cH cS
    have cH := fun i => (BH.out.fut hb).cell i
    have FR4 := Lib.hid (FR.out.fut hb)
    clear hb
    go_wp2_with fail
    go_ret
    exact ⟨ret_int (by rw [← HR.out, CC.out, E.out]), FR4.out.out⟩

/-! ### what an exit tells -/
structure Ver where
  cls : Int
  marg : Int
  lg : List Int
  en : Bool
def noVer : Ver := ⟨0, 0, [], false⟩
def lookV (t : Tensor) (d : Hd) (cl : Int) : Ver × Int :=
  if t.ok = false then (noVer, 5)
  else if checkI (elems t.h t.v t.c) d.w.length d.bias.length d.need cl ≠ 0 then (noVer, checkI (elems t.h t.v t.c) d.w.length d.bias.length d.need cl)
  else (⟨bestI (denseLine t.data d.w d.bias 0), marginI (denseLine t.data d.w d.bias 0), denseLine t.data d.w d.bias 0, decide (d.need ≤ marginI (denseLine t.data d.w d.bias 0))⟩, 0)

def RetVer (x : Ver) (code : Int) (w : World) (e : Ending) (w' : World) : Prop :=
  ∃ A n cap, e = .returned (.tuple #[.agg #[.int .i64 x.cls, .int .i64 x.marg, .slice A n cap, .bool x.en], .int .i64 code]) ∧ Sl (tInt .i32) w' (bin w.heap.size w'.heap.size) A n cap x.lg ∧ Below w.heap.size w w'

theorem score_any (t : Tensor) (A : Option Addr) (n cap : Nat) (d : Hd) (W : Option Addr) (nw cw : Nat) (B : Option Addr) (nb cb : Nat) (w : World)
    (ha : Sl (tInt .i8) w (blo w.heap.size) A n cap t.data) (hw : Sl (tInt .i8) w (blo w.heap.size) W nw cw d.w) (hb : Sl (tInt .i32) w (blo w.heap.size) B nb cb d.bias) (h1 : n ≤ 1048576) (h2 : nw ≤ 1048576) (h3 : nb ≤ 1048576) :
    Calls Try.prog 117 #[.agg #[.int .i64 t.h, .int .i64 t.v, .int .i64 t.c, .slice A n cap], .agg #[.slice W nw cw, .slice B nb cb, .int .i32 d.need]] w fun e w' =>
      ∃ A' n' cap', e = .returned (.agg #[.int .i64 (bestI (denseLine t.data d.w d.bias 0)), .int .i64 (marginI (denseLine t.data d.w d.bias 0)), .slice A' n' cap']) ∧ Sl (tInt .i32) w' (bin w.heap.size w'.heap.size) A' n' cap' (denseLine t.data d.w d.bias 0) ∧ Below w.heap.size w w' := by
  have HA := Lib.hid ha
  have HW := Lib.hid hw
  have HB := Lib.hid hb
  have hlen : (denseLine t.data d.w d.bias 0).length ≤ nb := by
    unfold denseLine; split
    · exact Nat.zero_le _
    · simp [hb.n_eq]
  obtain ⟨l, hl⟩ : ∃ l, denseLine t.data d.w d.bias 0 = l := ⟨_, rfl⟩
  rw [hl] at hlen ⊢
  have LEN := Lib.hid hlen
  have HL := Lib.hid hl
  clear ha hw hb hlen hl
  have FR := Lib.hid (Far.refl w)
  obtain ⟨w1, hw_w1⟩ : ∃ x, w.alloc (.cells #[.int .i64 t.h, .int .i64 t.v, .int .i64 t.c, .slice A n cap] 55) = x := ⟨_, rfl⟩
  have k_w1 : Below w.heap.size w w1 := by rw [← hw_w1]; exact (Below.refl _ _).alloc (Nat.le_refl _) _
  replace FR := Lib.hid (FR.out.fut k_w1)
  replace HA := Lib.hid (HA.out.fut k_w1)
  replace HW := Lib.hid (HW.out.fut k_w1)
  replace HB := Lib.hid (HB.out.fut k_w1)
  have BA := Lib.hid (show Blk w1 w.heap.size 55 #[.int .i64 t.h, .int .i64 t.v, .int .i64 t.c, .slice A n cap] by rw [← hw_w1]; exact Blk.now _ _ _ _ rfl)
  clear k_w1
  obtain ⟨w2, hw_w2⟩ : ∃ x, w1.alloc (.cells #[.slice W nw cw, .slice B nb cb, .int .i32 d.need] 85) = x := ⟨_, rfl⟩
  have k_w2 : Below w1.heap.size w1 w2 := by rw [← hw_w2]; exact (Below.refl _ _).alloc (Nat.le_refl _) _
  replace FR := Lib.hid (FR.out.fut k_w2)
  replace BA := Lib.hid (BA.out.fut k_w2)
  replace HA := Lib.hid (HA.out.fut k_w2)
  replace HW := Lib.hid (HW.out.fut k_w2)
  replace HB := Lib.hid (HB.out.fut k_w2)
  have BH := Lib.hid (show Blk w2 w1.heap.size 85 #[.slice W nw cw, .slice B nb cb, .int .i32 d.need] by rw [← hw_w2]; exact Blk.now _ _ _ _ rfl)
  clear k_w2
  obtain ⟨w3, hw_w3⟩ : ∃ x, w2.alloc (.cells #[.int .i64 0, .int .i64 0, .slice none 0 0] 155) = x := ⟨_, rfl⟩
  have k_w3 : Below w2.heap.size w2 w3 := by rw [← hw_w3]; exact (Below.refl _ _).alloc (Nat.le_refl _) _
  replace FR := Lib.hid (FR.out.fut k_w3)
  replace BA := Lib.hid (BA.out.fut k_w3)
  replace BH := Lib.hid (BH.out.fut k_w3)
  replace HA := Lib.hid (HA.out.fut k_w3)
  replace HW := Lib.hid (HW.out.fut k_w3)
  replace HB := Lib.hid (HB.out.fut k_w3)
  have BR := Lib.hid (show Blk w3 w2.heap.size 155 #[.int .i64 0, .int .i64 0, .slice none 0 0] by rw [← hw_w3]; exact Blk.now _ _ _ _ rfl)
  clear k_w3
  have cA := fun i => BA.out.cell i
  have cH := fun i => BH.out.cell i
  have lt2 : w2.heap.size < w3.heap.size := BR.out.lt
  have lt0 : w.heap.size ≤ w2.heap.size := by rw [← hw_w2, ← hw_w1]; simp; omega
  go_enter Try.func117, Try.ntmps117
  go_wp2_with fail
  clear hw_w1 hw_w2 hw_w3 cA cH
  refine (line_any _ _ _ _ _ _ _ _ _ t.data d.w d.bias 0 w3 HA.out HW.out HB.out (by decide) (by omega) (by omega) (by omega)).mono ?_
  rintro e w4 ⟨A', n', cap', rfl, s4, hb⟩
  rw [HL.out] at s4
  have S4 := Lib.hid (New.of s4 (Far.refl w3))
  have hn' : n' ≤ 1099511627776 := by have := s4.n_eq; have := LEN.out; omega
  clear s4
  replace FR := Lib.hid (FR.out.fut hb)
  replace BR := Lib.hid (BR.out.fut hb)
  clear hb
  go_wp2_with fail
  refine (rankBest_any _ _ _ _ w4 S4.out.old).mono ?_
  rintro e w5 ⟨rfl, hb⟩
  replace FR := Lib.hid (FR.out.fut hb)
  replace BR := Lib.hid (BR.out.fut hb)
  replace S4 := Lib.hid (S4.out.fut hb)
  clear hb
  go_wp2_with fail
  refine (rankMargin_any _ _ _ _ w5 S4.out.old hn').mono ?_
  rintro e w6 ⟨rfl, hb⟩
  replace FR := Lib.hid (FR.out.fut hb)
  replace BR := Lib.hid (BR.out.fut hb)
  replace S4 := Lib.hid (S4.out.fut hb)
  clear hb
  have fR := fun i => BR.out.frozen i
  have cR := fun i => BR.out.cell i
  go_wp2_with fail
  refine ret_cell rfl (((BR.out.set_ 0 _).set_ 1 _).set_ 2 _) rfl Try.underlying155 (by kernel_rfl) rfl ?_
  refine ⟨A', n', cap', rfl, ?_, ?_⟩
  · have := (((S4.out.set ⟨w2.heap.size, 0, none⟩ (.int .i64 (bestI l)) lt2).set ⟨w2.heap.size, 1, none⟩ (.int .i64 (marginI l)) lt2).set ⟨w2.heap.size, 2, none⟩ (.slice A' n' cap') lt2).out
    exact this.more (bin_more (by omega) (Nat.le_refl _))
  · exact (((FR.out.set ⟨w2.heap.size, 0, none⟩ _ lt0).set ⟨w2.heap.size, 1, none⟩ _ lt0).set ⟨w2.heap.size, 2, none⟩ _ lt0).out
end Go.Proofs.Ytlbijkafcododaa
