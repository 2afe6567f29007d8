/-
  Numbers in writing (layer 44): op.Digits, Number.
  Conditions: the library's tables and errors lie as they are laid; at most 2^40 bytes.
-/
import Derived.Test.YthnhknomjepijaaDoorOpN
import Derived.Test.YthnhknomjepijaaDoorOpL
import Derived.Test.YthnhknomjepijaaDoorOpB
import Derived.Lib.SmallJoins
import Derived.Lib.AppendIntMem
namespace Go.Proofs.YthnhknomjepijaaDoor
set_option linter.unusedVariables false
set_option linter.unusedSimpArgs false
open Go Go.RowKit Go.ChangeShapes Go.WideShapes
set_option maxRecDepth 100000
set_option maxHeartbeats 4000000

/-- What the library's variables hold. -/
structure LW (w : World) : Prop where
  tab : Lib.TabIs Tryd.prog w "internal/strconv.uint64pow10" .u64 Lib.pow10Tab
  syn : ∃ te pe, w.cell? ⟨0, 0, none⟩ = some (.iface te pe)
  ran : ∃ te pe, w.cell? ⟨1, 0, none⟩ = some (.iface te pe)
theorem gPow : Tryd.prog.globalNamed "internal/strconv.uint64pow10" = some 2 := by kernel_rfl
theorem LW.fut {w w' : World} (h : LW w) (hb : Below w.heap.size w w') : LW w' :=
  ⟨Joins.tab_stays gPow h.tab hb (Nat.le_refl _), let ⟨a, b, c⟩ := h.syn; ⟨a, b, cell_later hb c⟩, let ⟨a, b, c⟩ := h.ran; ⟨a, b, cell_later hb c⟩⟩

theorem opDigits_any (n : Int) (w : World) (hn : InK .i64 n) (hl : LW w) :
    Calls Tryd.prog 22 #[.int .i64 n] w fun e w' => e = .returned (.string ⟨(Lib.itoa n).toArray⟩) ∧ Below w.heap.size w w' := by
  rw [inK_i64] at hn
  have IT := Lib.hid (Tryd.strconv_Itoa n hn.1 hn.2 w hl.tab)
  clear hn hl
  go_enter Tryd.func22, Tryd.ntmps22
  go_wp2_with fail
  refine IT.out.mono ?_
  rintro e w' ⟨rfl, q, os, rfl⟩
  go_wp2_with fail
  go_ret
  exact ⟨rfl, Lib.below_grow w.heap.size w (Nat.le_refl _) q os⟩

theorem below_bytes (w : World) (e : TypeId) (s : ByteArray) : Below w.heap.size w (Lib.bytesWorld w e s) := ⟨rfl, rfl, rfl, by rw [Lib.bytesWorld_size]; omega, fun k hk => Lib.bytesWorld_at_old w e s k hk⟩
def RetN (x : Option Int) (w : World) (e : Ending) (w' : World) : Prop := e = .returned (.tuple #[.int .i64 (x.getD 0), .bool x.isSome]) ∧ Below w.heap.size w w'
theorem numV_in {l : List UInt8} {n : Int} (h : numV l = some n) : InK .i64 n := by
  obtain ⟨_, ha⟩ := numV_back h
  obtain ⟨h0, h1⟩ := Lib.atoiAll_bounds ha
  rw [inK_i64]; omega

theorem opNumber_any (s : ByteArray) (w : World) (hn : s.size ≤ 1099511627776) (hl : LW w) :
    Calls Tryd.prog 17 #[.string s] w (RetN (numV s.data.toList) w) := by
  obtain ⟨r, hr⟩ : ∃ r, numV s.data.toList = r := ⟨_, rfl⟩
  rw [hr]
  unfold numV at hr
  have FR := Lib.hid (Far.refl w)
  have HL := Lib.hid hl
  cases ha : Lib.atoiAll s.data.toList with
  | ok v =>
    rw [ha] at hr
    have hr : (if Lib.itoa v = s.data.toList then some v else none) = r := hr
    obtain ⟨v0, v1⟩ := Lib.atoiAll_bounds ha
    have AT := Lib.hid (Tryd.strconv_Atoi_ok s (by omega) v ha w)
    have DI := Lib.hid (fun w h => opDigits_any v w (by rw [inK_i64]; omega) h)
    have HR := Lib.hid hr.symm
    obtain ⟨d, hd⟩ : ∃ d : ByteArray, ⟨(Lib.itoa v).toArray⟩ = d := ⟨_, rfl⟩
    rw [hd] at DI
    have HD := Lib.hid hd
    clear hr ha hl hd
    go_enter Tryd.func17, Tryd.ntmps17
    go_wp2_with fail
    refine AT.out.mono ?_
    rintro e w2 ⟨rfl, hw⟩
    have hb : Below w.heap.size w w2 := by
      rcases hw with rfl | ⟨t, rfl⟩
      · exact Below.refl _ _
      · exact below_bytes _ _ _
    replace HL := Lib.hid (HL.out.fut hb)
    replace FR := Lib.hid (FR.out.fut hb)
    clear hb
    clear hw AT
    by_cases c : d = s
    · have RV := Lib.hid (show r = some v by rw [HR.out, if_pos (by rw [← c, ← HD.out])])
      subst c
      go_wp2_with (go_at_call 22; refine (DI.out _ HL.out).mono ?_; rintro e w3 ⟨rfl, hb⟩; replace FR := Lib.hid (FR.out.fut hb); clear hb)
      go_ret2
      rw [RV.out]
      exact ⟨rfl, FR.out.out⟩
    · have RV := Lib.hid (show r = none by
        rw [HR.out, if_neg]
        intro e
        apply c
        rw [← HD.out, e])
      have t1 : (d.toList == s.toList) = false := by
        rw [Bool.eq_false_iff]
        intro e
        rw [beq_iff_eq, ByteArray.toList_eq, ByteArray.toList_eq] at e
        exact c (WideShapes.bytes_inj e)
      go_wp2_with (go_at_call 22; refine (DI.out _ HL.out).mono ?_; rintro e w3 ⟨rfl, hb⟩; replace FR := Lib.hid (FR.out.fut hb); clear hb)
      go_ret2
      rw [RV.out]
      exact ⟨rfl, FR.out.out⟩
  | range =>
    rw [ha] at hr
    obtain rfl : none = r := hr
    obtain ⟨te, pe, hc⟩ := hl.ran
    have AT := Lib.hid (Tryd.strconv_Atoi_range s (by omega) ha _ w hc (.inr ⟨te, pe, rfl⟩))
    clear ha hl hc
    go_enter Tryd.func17, Tryd.ntmps17
    go_wp2_with (go_at_call 35; refine (AT.out).mono ?_; rintro e w2 ⟨N, rfl, _, _, hb⟩; replace FR := Lib.hid (FR.out.fut hb); clear hb)
    go_ret2
    exact ⟨rfl, FR.out.out⟩
  | _ =>
    rw [ha] at hr
    obtain rfl : none = r := hr
    obtain ⟨te, pe, hc⟩ := hl.syn
    have AT := Lib.hid (Tryd.strconv_Atoi_bad s (by omega) (by rw [ha]; intro v h; cases h) (by rw [ha]; intro h; cases h) _ w hc (.inr ⟨te, pe, rfl⟩))
    clear ha hl hc
    go_enter Tryd.func17, Tryd.ntmps17
    go_wp2_with (go_at_call 35; refine (AT.out).mono ?_; rintro e w2 ⟨N, rfl, _, _, hb⟩; replace FR := Lib.hid (FR.out.fut hb); clear hb)
    go_ret2
    exact ⟨rfl, FR.out.out⟩
end Go.Proofs.YthnhknomjepijaaDoor
