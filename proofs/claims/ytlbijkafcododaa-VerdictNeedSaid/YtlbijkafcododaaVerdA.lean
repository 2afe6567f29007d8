/-
  Exits (layer 30): Check, the program's and the document's; a head opened.
  Conditions: none.
-/
import Derived.Test.YtlbijkafcododaaChecked
import Derived.Test.YtlbijkafcododaaTensorA
import Derived.Test.YtlbijkafcododaaFut
namespace Go.Proofs.Ytlbijkafcododaa
set_option linter.unusedVariables false
set_option linter.unusedSimpArgs false
open Go.RowKit Go.ChangeShapes Go.WideShapes
set_option maxRecDepth 100000

structure Hd where
  w : List Int
  bias : List Int
  need : Int

def tHd : Ty Hd := tMap (fun (x : List Int × List Int × Int) => ⟨x.1, x.2.1, x.2.2⟩) (tPair (tSlice (tInt .i8)) (tPair (tSlice (tInt .i32)) (tInt .i32)))
theorem hd_open {w : World} {S : Nat → Prop} {cs : List Value} {d : Hd} (h : tHd.rep w S cs d) :
    ∃ W nw cw B nb cb, cs = [.slice W nw cw, .slice B nb cb, .int .i32 d.need] ∧ InK .i32 d.need ∧ Sl (tInt .i8) w S W nw cw d.w ∧ Sl (tInt .i32) w S B nb cb d.bias := by
  obtain ⟨⟨a, b, c⟩, rfl, _, _, rfl, hw, _, _, rfl, hb, rfl, hc⟩ := h
  obtain ⟨W, cw, rfl, hw'⟩ := tSlice_iff.1 hw
  obtain ⟨B, cb, rfl, hb'⟩ := tSlice_iff.1 hb
  exact ⟨W, _, cw, B, _, cb, rfl, hc, hw', hb'⟩
theorem opens_hd : Opens Try.prog 85 tHd := opens_map _ (opens_struct Try.underlying85 (by kernel_rfl) (opensFrom_cons rfl opens_i8s (opensFrom_cons rfl opens_i32s (opensFrom_last rfl opens_i32))))

/-- What is wrong with an exit; m: how many numbers a tensor has. -/
def checkI (m : Int) (nw nb : Nat) (need cl : Int) : Int :=
  if m = 0 then 5 else if cl < 2 ∨ 16 < cl then 2 else if (nw : Int) ≠ cl * m ∨ 16384 < nw ∨ (nb : Int) ≠ cl then 9 else if need < 0 then 11 else 0

theorem elems_bd (h v c : Int) : 0 ≤ elems h v c ∧ elems h v c ≤ 1024 := by
  rw [elems_iff]
  split
  · rename_i hh
    refine ⟨?_, hh.2.2.2.2.2.2⟩
    exact Int.mul_nonneg (Int.mul_nonneg (by omega) (by omega)) (by omega)
  · omega

theorem verdCheck_any (h v c : Int) (W : Option Addr) (nw cw : Nat) (B : Option Addr) (nb cb : Nat) (need cl : Int) (w : World) (h0 : InK .i64 h) (h1 : InK .i64 v) (h2 : InK .i64 c) (hnw : nw ≤ maxLen) (hnb : nb ≤ maxLen) (hcl : InK .i64 cl) :
    Calls Try.prog 67 #[.agg #[.int .i64 h, .int .i64 v, .int .i64 c], .agg #[.slice W nw cw, .slice B nb cb, .int .i32 need], .int .i64 cl] w fun e w' =>
      e = .returned (.int .i64 (checkI (elems h v c) nw nb need cl)) ∧ Below w.heap.size w w' := by
  have H := Lib.hid (And.intro h0 (And.intro h1 h2))
  unfold maxLen at hnw hnb
  rw [inK_i64] at hcl
  clear h0 h1 h2
  obtain ⟨mb1, mb2⟩ := elems_bd h v c
  have EL := Lib.hid (fun w => elems_any h c v w H.out.1 H.out.2.1 H.out.2.2)
  generalize elems h v c = m at *
  have FR := Lib.hid (Far.refl w)
  obtain ⟨w1, hw_w1⟩ : ∃ x, w.alloc (.cells #[.int .i64 h, .int .i64 v, .int .i64 c] 52) = x := ⟨_, rfl⟩
  have k_w1 : Below w.heap.size w w1 := by rw [← hw_w1]; exact (Below.refl _ _).alloc (Nat.le_refl _) _
  replace FR := Lib.hid (FR.out.fut k_w1)
  have BS := Lib.hid (show Blk w1 w.heap.size 52 #[.int .i64 h, .int .i64 v, .int .i64 c] by rw [← hw_w1]; exact Blk.now _ _ _ _ rfl)
  clear k_w1
  obtain ⟨w2, hw_w2⟩ : ∃ x, w1.alloc (.cells #[.slice W nw cw, .slice B nb cb, .int .i32 need] 85) = x := ⟨_, rfl⟩
  have k_w2 : Below w1.heap.size w1 w2 := by rw [← hw_w2]; exact (Below.refl _ _).alloc (Nat.le_refl _) _
  replace FR := Lib.hid (FR.out.fut k_w2)
  replace BS := Lib.hid (BS.out.fut k_w2)
  have BH := Lib.hid (show Blk w2 w1.heap.size 85 #[.slice W nw cw, .slice B nb cb, .int .i32 need] by rw [← hw_w2]; exact Blk.now _ _ _ _ rfl)
  clear k_w2
  have cS := fun i => BS.out.cell i
  have cH := fun i => BH.out.cell i
  by_cases z : m = 0
  · subst z
    have C := Lib.hid (show (5 : Int) = checkI 0 nw nb need cl by unfold checkI; rw [if_pos rfl])
    go_enter Try.func67, Try.ntmps67
    go_wp2_with fail
    clear hw_w1 hw_w2
    refine (EL.out _).mono ?_
    rintro e w3 ⟨rfl, hb⟩
    replace FR := Lib.hid (FR.out.fut hb)
    clear hb
    go_wp2_with fail
    go_ret
    exact ⟨ret_int C.out, FR.out.out⟩
  have t0 : (m == 0) = false := by simp; exact z
  by_cases c1 : cl < 2
  · have t1 : decide (cl < 2) = true := by simp; exact c1
    have C := Lib.hid (show (2 : Int) = checkI m nw nb need cl by unfold checkI; rw [if_neg z, if_pos (.inl c1)])
    clear z c1
    go_enter Try.func67, Try.ntmps67
    go_wp2_with fail
    clear hw_w1 hw_w2
    refine (EL.out _).mono ?_
    rintro e w3 ⟨rfl, hb⟩
    replace FR := Lib.hid (FR.out.fut hb)
    clear hb
    go_wp2_with fail
    go_ret
    exact ⟨ret_int C.out, FR.out.out⟩
  have t1 : decide (cl < 2) = false := by simp; omega
  by_cases c2 : 16 < cl
  · have t2 : decide (16 < cl) = true := by simp; exact c2
    have C := Lib.hid (show (2 : Int) = checkI m nw nb need cl by unfold checkI; rw [if_neg z, if_pos (.inr c2)])
    clear z c1 c2
    go_enter Try.func67, Try.ntmps67
    go_wp2_with fail
    clear hw_w1 hw_w2
    refine (EL.out _).mono ?_
    rintro e w3 ⟨rfl, hb⟩
    replace FR := Lib.hid (FR.out.fut hb)
    clear hb
    go_wp2_with fail
    go_ret
    exact ⟨ret_int C.out, FR.out.out⟩
  have t2 : decide (16 < cl) = false := by simp; omega
  have pb : 0 ≤ cl * m ∧ cl * m ≤ 16 * 1024 := ⟨Int.mul_nonneg (by omega) (by omega), Int.mul_le_mul (by omega) (by omega) (by omega) (by omega)⟩
  have C0 : checkI m nw nb need cl = if (nw : Int) ≠ cl * m ∨ 16384 < nw ∨ (nb : Int) ≠ cl then 9 else if need < 0 then 11 else 0 := by unfold checkI; rw [if_neg z, if_neg (by omega)]
  have CC := Lib.hid C0
  have e1 : IntKind.i64.wrap (cl * m) = cl * m := IntWalk.i64_in _ (by omega)
  clear C0
  obtain ⟨p, hp⟩ : ∃ p, cl * m = p := ⟨_, rfl⟩
  rw [hp] at e1 CC pb
  have e2 : IntKind.i64.wrap (cl * m) = p := by rw [hp]; exact e1
  have E2 := Lib.hid e2
  clear hp e1 c1 c2 z e2
  have bad : (nw : Int) ≠ p ∨ 16384 < nw ∨ (nb : Int) ≠ cl → Calls Try.prog 67 #[.agg #[.int .i64 h, .int .i64 v, .int .i64 c], .agg #[.slice W nw cw, .slice B nb cb, .int .i32 need], .int .i64 cl] w fun e w' => e = .returned (.int .i64 9) ∧ Below w.heap.size w w' := by
    intro hbad
    by_cases d1 : (nw : Int) = p
    · have u1 : ((nw : Int) != p) = false := by simp; exact d1
      by_cases d2 : 16384 < nw
      · have u2 : decide ((16384 : Int) < (nw : Int)) = true := by simp; omega
        clear hbad d1 CC
        have e2 := E2.out
        go_enter Try.func67, Try.ntmps67
        go_wp2_with fail
        clear hw_w1 hw_w2 cS cH
        refine (EL.out _).mono ?_
        rintro e w3 ⟨rfl, hb⟩
        replace FR := Lib.hid (FR.out.fut hb)
        replace BH := Lib.hid (BH.out.fut hb)
        clear hb
        have cH := fun i => BH.out.cell i
        go_wp2_with fail
        go_ret
        exact ⟨rfl, FR.out.out⟩
      · have u2 : decide ((16384 : Int) < (nw : Int)) = false := by simp; omega
        have u3 : ((nb : Int) != cl) = true := by simp; omega
        clear hbad d1 CC
        have e2 := E2.out
        go_enter Try.func67, Try.ntmps67
        go_wp2_with fail
        clear hw_w1 hw_w2 cS cH
        refine (EL.out _).mono ?_
        rintro e w3 ⟨rfl, hb⟩
        replace FR := Lib.hid (FR.out.fut hb)
        replace BH := Lib.hid (BH.out.fut hb)
        clear hb
        have cH := fun i => BH.out.cell i
        go_wp2_with fail
        go_ret
        exact ⟨rfl, FR.out.out⟩
    · have u1 : ((nw : Int) != p) = true := by simp; exact d1
      clear hbad d1 CC
      have e2 := E2.out
      go_enter Try.func67, Try.ntmps67
      go_wp2_with fail
      clear hw_w1 hw_w2 cS cH
      refine (EL.out _).mono ?_
      rintro e w3 ⟨rfl, hb⟩
      replace FR := Lib.hid (FR.out.fut hb)
      replace BH := Lib.hid (BH.out.fut hb)
      clear hb
      have cH := fun i => BH.out.cell i
      go_wp2_with fail
      go_ret
      exact ⟨rfl, FR.out.out⟩
  rw [CC.out]
  by_cases hbad : (nw : Int) ≠ p ∨ 16384 < nw ∨ (nb : Int) ≠ cl
  · rw [if_pos hbad]; exact bad hbad
  · rw [if_neg hbad]
    have u1 : ((nw : Int) != p) = false := by simp; omega
    have u2 : decide ((16384 : Int) < (nw : Int)) = false := by simp; omega
    have u3 : ((nb : Int) != cl) = false := by simp; omega
    clear bad hbad CC
    have e2 := E2.out
    by_cases d : need < 0
    · have u4 : decide (need < 0) = true := by simp; exact d
      rw [if_pos d]
      clear d
      go_enter Try.func67, Try.ntmps67
      go_wp2_with fail
      clear hw_w1 hw_w2 cS cH
      refine (EL.out _).mono ?_
      rintro e w3 ⟨rfl, hb⟩
      replace FR := Lib.hid (FR.out.fut hb)
      replace BH := Lib.hid (BH.out.fut hb)
      clear hb
      have cH := fun i => BH.out.cell i
      go_wp2_with fail
      go_ret
      exact ⟨rfl, FR.out.out⟩
    · have u4 : decide (need < 0) = false := by simp; omega
      rw [if_neg d]
      clear d
      go_enter Try.func67, Try.ntmps67
      go_wp2_with fail
      clear hw_w1 hw_w2 cS cH
      refine (EL.out _).mono ?_
      rintro e w3 ⟨rfl, hb⟩
      replace FR := Lib.hid (FR.out.fut hb)
      replace BH := Lib.hid (BH.out.fut hb)
      clear hb
      have cH := fun i => BH.out.cell i
      go_wp2_with fail
      go_ret
      exact ⟨rfl, FR.out.out⟩
end Go.Proofs.Ytlbijkafcododaa
