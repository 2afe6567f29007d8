/-
  The walk of OpWrites (layer 44).
  Conditions: the library's tables lie as they are laid.
-/
import Derived.Test.YthnhknomjepijaaDoorOpT
import Derived.Test.YthnhknomjepijaaDoorOpE
namespace Go.Proofs.YthnhknomjepijaaDoor
set_option linter.unusedVariables false
set_option linter.unusedSimpArgs false
open Go.RowKit Go.ChangeShapes Go.WideShapes
set_option maxRecDepth 100000
set_option maxHeartbeats 4000000

theorem sl_bytes {w : World} {S : Nat → Prop} {A : Option Addr} {m cap : Nat} {l : List Int} (h : Sl (tInt .u8) w S A m cap l) : ∀ x ∈ l, 0 ≤ x ∧ x ≤ 255 := by
  intro x hx
  obtain ⟨i, hi, rfl⟩ := List.mem_iff_getElem.1 hx
  have hn := h.n_eq
  obtain ⟨_, _, _, _, _, _, ix⟩ := h.int_at i (by omega)
  rw [List.getD_eq_getElem?_getD, List.getElem?_eq_getElem hi, inK_u8] at ix
  exact ix
theorem strOf_nums_size (l : List Int) (h : l.length ≤ 300) : (strOfNums (hexB l)).size ≤ 1099511627776 := by
  rw [strOf_size]
  have := hexB_len l
  omega

theorem opWrites_walk (A : Option Addr) (m cap : Nat) (l : List Int) (n : Int) (s : ByteArray) (w : World) (hs : Sl (tInt .u8) w (blo w.heap.size) A m cap l) (hn : InK .i64 n) (hw : LW w) :
    Calls Tryd.prog 4 #[.slice A m cap, .int .i64 n, .string s] w fun e w' => e = .returned (.bool true) ∧ Below w.heap.size w w' := by
  have FR := Lib.hid (Far.refl w)
  have HL := Lib.hid hw
  have HB := Lib.hid (Old.now hs)
  have mx : m ≤ 9223372036854775807 := Nat.le_trans hs.cap_le hs.max_le
  by_cases c1 : 300 < m
  · have p1 : (300 : Int) < (m : Int) := by omega
    clear c1
    go_enter Tryd.func4, Tryd.ntmps4
    go_wp2_with fail
    refine (known44_any _ (HL.out.fut FR.out.out)).mono ?_
    rintro e w' ⟨rfl, hb⟩
    replace FR := Lib.hid (FR.out.fut hb)
    clear hb
    go_wp2_with fail
    go_ret
    exact ⟨rfl, FR.out.out⟩
  have p1 : ¬ (300 : Int) < (m : Int) := by omega
  by_cases c2 : 300 < s.size
  · have p2 : (300 : Int) < (s.size : Int) := by omega
    clear c1 c2
    go_enter Tryd.func4, Tryd.ntmps4
    go_wp2_with fail
    refine (known44_any _ (HL.out.fut FR.out.out)).mono ?_
    rintro e w' ⟨rfl, hb⟩
    replace FR := Lib.hid (FR.out.fut hb)
    clear hb
    go_wp2_with fail
    go_ret
    exact ⟨rfl, FR.out.out⟩
  have p2 : ¬ (300 : Int) < (s.size : Int) := by omega
  have hbl := sl_bytes hs
  have ls := hs.n_eq
  have U1 := Lib.hid (fun w => opUnhex_any s w (by omega))
  have U2 := Lib.hid (fun w => ropUnhex_any s w (by omega))
  have N1 := Lib.hid (fun w hw => opNumber_any s w (by omega) hw)
  have N2 := Lib.hid (fun w => ropNumber_any s w (by omega))
  have H1 := Lib.hid (fun w hs => opHex_any A m cap l w hs (by omega))
  have H2 := Lib.hid (fun w hs => ropHex_any A m cap l w hs (by omega))
  have D1 := Lib.hid (fun w hw => opDigits_any n w hn hw)
  have D2 := Lib.hid (fun w => ropDigits_any n w hn)
  have U3 := Lib.hid (fun w => opUnhex_any (strOfNums (hexB l)) w (strOf_nums_size l (by omega)))
  have N3 := Lib.hid (fun w hw => opNumber_any ⟨(Lib.itoa n).toArray⟩ w (Nat.le_trans (itoa_size hn) (by decide)) hw)
  simp only [unhex_str hbl] at U3
  simp only [numV_str hn] at N3
  simp only [← numV_numD] at N2
  obtain ⟨hx, hhx⟩ : ∃ x, strOfNums (hexB l) = x := ⟨_, rfl⟩
  obtain ⟨dn, hdn⟩ : ∃ x : ByteArray, ⟨(Lib.itoa n).toArray⟩ = x := ⟨_, rfl⟩
  simp only [hhx] at H1 H2 U3
  simp only [hdn] at D1 D2 N3
  have BX := Lib.hid (fun x (h : unhexB (nums s) = some x) => back_str h)
  have BN := Lib.hid (fun x (h : numV s.data.toList = some x) => And.intro (numV_back h).1 (numV_in h))
  have XL := Lib.hid (fun x (h : unhexB (nums s) = some x) => show x.length ≤ 1000 by
    have h2 := (unhexB_some h).1
    have h3 : (hexB x).length = s.size := by rw [h2, nums_len]
    unfold hexB at h3
    split at h3
    · omega
    · rw [hexN_len] at h3; omega)
  obtain ⟨ud, hu⟩ : ∃ x, unhexB (nums s) = x := ⟨_, rfl⟩
  obtain ⟨dd, hd⟩ : ∃ x, numV s.data.toList = x := ⟨_, rfl⟩
  simp only [hu] at U1 U2 BX XL
  simp only [hd] at N1 N2 BN
  clear hs hn hw hhx hdn hu hd hbl ls c1 c2
  cases ud with
  | none =>
    cases dd with
    | none =>
      go_enter Tryd.func4, Tryd.ntmps4
      go_wp2_with fail
      refine (U1.out _).mono ?_
      rintro e v1 ⟨X, nx, cx, rfl, sl, hb⟩
      replace FR := Lib.hid (FR.out.fut hb)
      replace HB := Lib.hid (HB.out.fut hb)
      have HX := Lib.hid (Old.now (sl).old)
      clear hb sl
      go_wp2_with fail
      refine (U2.out _).mono ?_
      rintro e v2 ⟨Y, ny, cy, rfl, sl, hb⟩
      replace FR := Lib.hid (FR.out.fut hb)
      replace HB := Lib.hid (HB.out.fut hb)
      replace HX := Lib.hid (HX.out.fut hb)
      have HY := Lib.hid (Old.now (sl).old)
      clear hb sl
      go_wp2_with fail
      refine (N1.out _ (HL.out.fut FR.out.out)).mono ?_
      rintro e v3 ⟨rfl, hb⟩
      replace FR := Lib.hid (FR.out.fut hb)
      replace HB := Lib.hid (HB.out.fut hb)
      replace HX := Lib.hid (HX.out.fut hb)
      replace HY := Lib.hid (HY.out.fut hb)
      clear hb
      go_wp2_with fail
      refine (N2.out _).mono ?_
      rintro e v4 ⟨rfl, hb⟩
      replace FR := Lib.hid (FR.out.fut hb)
      replace HB := Lib.hid (HB.out.fut hb)
      replace HX := Lib.hid (HX.out.fut hb)
      replace HY := Lib.hid (HY.out.fut hb)
      clear hb
      go_wp2_with fail
      refine (same06_any X Y nx cx ny cy _ _ _ HX.out.all HY.out.all).mono ?_
      rintro e v5 ⟨rfl, hb⟩
      replace FR := Lib.hid (FR.out.fut hb)
      replace HB := Lib.hid (HB.out.fut hb)
      replace HX := Lib.hid (HX.out.fut hb)
      replace HY := Lib.hid (HY.out.fut hb)
      clear hb
      rw [decide_eq_true rfl]
      go_wp2_with fail
      refine (H1.out _ HB.out.all).mono ?_
      rintro e v6 ⟨rfl, hb⟩
      replace FR := Lib.hid (FR.out.fut hb)
      replace HB := Lib.hid (HB.out.fut hb)
      replace HX := Lib.hid (HX.out.fut hb)
      replace HY := Lib.hid (HY.out.fut hb)
      clear hb
      go_wp2_with fail
      refine (H2.out _ HB.out.all).mono ?_
      rintro e v7 ⟨rfl, hb⟩
      replace FR := Lib.hid (FR.out.fut hb)
      replace HB := Lib.hid (HB.out.fut hb)
      replace HX := Lib.hid (HX.out.fut hb)
      replace HY := Lib.hid (HY.out.fut hb)
      clear hb
      go_wp2_with fail
      refine (D1.out _ (HL.out.fut FR.out.out)).mono ?_
      rintro e v8 ⟨rfl, hb⟩
      replace FR := Lib.hid (FR.out.fut hb)
      replace HB := Lib.hid (HB.out.fut hb)
      replace HX := Lib.hid (HX.out.fut hb)
      replace HY := Lib.hid (HY.out.fut hb)
      clear hb
      go_wp2_with fail
      refine (D2.out _).mono ?_
      rintro e v9 ⟨rfl, hb⟩
      replace FR := Lib.hid (FR.out.fut hb)
      replace HB := Lib.hid (HB.out.fut hb)
      replace HX := Lib.hid (HX.out.fut hb)
      replace HY := Lib.hid (HY.out.fut hb)
      clear hb
      go_wp2_with fail
      refine (H1.out _ HB.out.all).mono ?_
      rintro e v10 ⟨rfl, hb⟩
      replace FR := Lib.hid (FR.out.fut hb)
      replace HB := Lib.hid (HB.out.fut hb)
      replace HX := Lib.hid (HX.out.fut hb)
      replace HY := Lib.hid (HY.out.fut hb)
      clear hb
      go_wp2_with fail
      refine (U3.out _).mono ?_
      rintro e v11 ⟨Z, nz, cz, rfl, sl, hb⟩
      replace FR := Lib.hid (FR.out.fut hb)
      replace HB := Lib.hid (HB.out.fut hb)
      replace HX := Lib.hid (HX.out.fut hb)
      replace HY := Lib.hid (HY.out.fut hb)
      have HZ := Lib.hid (Old.now (sl).old)
      clear hb sl
      go_wp2_with fail
      refine (D1.out _ (HL.out.fut FR.out.out)).mono ?_
      rintro e v12 ⟨rfl, hb⟩
      replace FR := Lib.hid (FR.out.fut hb)
      replace HB := Lib.hid (HB.out.fut hb)
      replace HX := Lib.hid (HX.out.fut hb)
      replace HY := Lib.hid (HY.out.fut hb)
      replace HZ := Lib.hid (HZ.out.fut hb)
      clear hb
      go_wp2_with fail
      refine (N3.out _ (HL.out.fut FR.out.out)).mono ?_
      rintro e v13 ⟨rfl, hb⟩
      replace FR := Lib.hid (FR.out.fut hb)
      replace HB := Lib.hid (HB.out.fut hb)
      replace HX := Lib.hid (HX.out.fut hb)
      replace HY := Lib.hid (HY.out.fut hb)
      replace HZ := Lib.hid (HZ.out.fut hb)
      clear hb
      go_wp2_with fail
      refine (same06_any Z A nz cz m cap _ _ _ HZ.out.all HB.out.all).mono ?_
      rintro e v14 ⟨rfl, hb⟩
      replace FR := Lib.hid (FR.out.fut hb)
      replace HB := Lib.hid (HB.out.fut hb)
      replace HX := Lib.hid (HX.out.fut hb)
      replace HY := Lib.hid (HY.out.fut hb)
      replace HZ := Lib.hid (HZ.out.fut hb)
      clear hb
      rw [show decide ((some l).getD [] = l) = true from decide_eq_true rfl]
      go_wp2_with fail
      refine (known44_any _ (HL.out.fut FR.out.out)).mono ?_
      rintro e v15 ⟨rfl, hb⟩
      replace FR := Lib.hid (FR.out.fut hb)
      replace HB := Lib.hid (HB.out.fut hb)
      replace HX := Lib.hid (HX.out.fut hb)
      replace HY := Lib.hid (HY.out.fut hb)
      replace HZ := Lib.hid (HZ.out.fut hb)
      clear hb
      go_wp2_with fail
      go_ret
      exact ⟨rfl, FR.out.out⟩
    | some y =>
      have D3 := Lib.hid (fun w hw => opDigits_any y w (BN.out y rfl).2 hw)
      have e3 := Lib.hid (show (⟨(Lib.itoa y).toArray⟩ : ByteArray) = s by rw [(BN.out y rfl).1])
      simp only [e3.out] at D3
      clear BN e3
      go_enter Tryd.func4, Tryd.ntmps4
      go_wp2_with fail
      refine (U1.out _).mono ?_
      rintro e v1 ⟨X, nx, cx, rfl, sl, hb⟩
      replace FR := Lib.hid (FR.out.fut hb)
      replace HB := Lib.hid (HB.out.fut hb)
      have HX := Lib.hid (Old.now (sl).old)
      clear hb sl
      go_wp2_with fail
      refine (U2.out _).mono ?_
      rintro e v2 ⟨Y, ny, cy, rfl, sl, hb⟩
      replace FR := Lib.hid (FR.out.fut hb)
      replace HB := Lib.hid (HB.out.fut hb)
      replace HX := Lib.hid (HX.out.fut hb)
      have HY := Lib.hid (Old.now (sl).old)
      clear hb sl
      go_wp2_with fail
      refine (N1.out _ (HL.out.fut FR.out.out)).mono ?_
      rintro e v3 ⟨rfl, hb⟩
      replace FR := Lib.hid (FR.out.fut hb)
      replace HB := Lib.hid (HB.out.fut hb)
      replace HX := Lib.hid (HX.out.fut hb)
      replace HY := Lib.hid (HY.out.fut hb)
      clear hb
      go_wp2_with fail
      refine (N2.out _).mono ?_
      rintro e v4 ⟨rfl, hb⟩
      replace FR := Lib.hid (FR.out.fut hb)
      replace HB := Lib.hid (HB.out.fut hb)
      replace HX := Lib.hid (HX.out.fut hb)
      replace HY := Lib.hid (HY.out.fut hb)
      clear hb
      go_wp2_with fail
      refine (same06_any X Y nx cx ny cy _ _ _ HX.out.all HY.out.all).mono ?_
      rintro e v5 ⟨rfl, hb⟩
      replace FR := Lib.hid (FR.out.fut hb)
      replace HB := Lib.hid (HB.out.fut hb)
      replace HX := Lib.hid (HX.out.fut hb)
      replace HY := Lib.hid (HY.out.fut hb)
      clear hb
      rw [decide_eq_true rfl]
      go_wp2_with fail
      refine (H1.out _ HB.out.all).mono ?_
      rintro e v6 ⟨rfl, hb⟩
      replace FR := Lib.hid (FR.out.fut hb)
      replace HB := Lib.hid (HB.out.fut hb)
      replace HX := Lib.hid (HX.out.fut hb)
      replace HY := Lib.hid (HY.out.fut hb)
      clear hb
      go_wp2_with fail
      refine (H2.out _ HB.out.all).mono ?_
      rintro e v7 ⟨rfl, hb⟩
      replace FR := Lib.hid (FR.out.fut hb)
      replace HB := Lib.hid (HB.out.fut hb)
      replace HX := Lib.hid (HX.out.fut hb)
      replace HY := Lib.hid (HY.out.fut hb)
      clear hb
      go_wp2_with fail
      refine (D1.out _ (HL.out.fut FR.out.out)).mono ?_
      rintro e v8 ⟨rfl, hb⟩
      replace FR := Lib.hid (FR.out.fut hb)
      replace HB := Lib.hid (HB.out.fut hb)
      replace HX := Lib.hid (HX.out.fut hb)
      replace HY := Lib.hid (HY.out.fut hb)
      clear hb
      go_wp2_with fail
      refine (D2.out _).mono ?_
      rintro e v9 ⟨rfl, hb⟩
      replace FR := Lib.hid (FR.out.fut hb)
      replace HB := Lib.hid (HB.out.fut hb)
      replace HX := Lib.hid (HX.out.fut hb)
      replace HY := Lib.hid (HY.out.fut hb)
      clear hb
      go_wp2_with fail
      refine (H1.out _ HB.out.all).mono ?_
      rintro e v10 ⟨rfl, hb⟩
      replace FR := Lib.hid (FR.out.fut hb)
      replace HB := Lib.hid (HB.out.fut hb)
      replace HX := Lib.hid (HX.out.fut hb)
      replace HY := Lib.hid (HY.out.fut hb)
      clear hb
      go_wp2_with fail
      refine (U3.out _).mono ?_
      rintro e v11 ⟨Z, nz, cz, rfl, sl, hb⟩
      replace FR := Lib.hid (FR.out.fut hb)
      replace HB := Lib.hid (HB.out.fut hb)
      replace HX := Lib.hid (HX.out.fut hb)
      replace HY := Lib.hid (HY.out.fut hb)
      have HZ := Lib.hid (Old.now (sl).old)
      clear hb sl
      go_wp2_with fail
      refine (D1.out _ (HL.out.fut FR.out.out)).mono ?_
      rintro e v12 ⟨rfl, hb⟩
      replace FR := Lib.hid (FR.out.fut hb)
      replace HB := Lib.hid (HB.out.fut hb)
      replace HX := Lib.hid (HX.out.fut hb)
      replace HY := Lib.hid (HY.out.fut hb)
      replace HZ := Lib.hid (HZ.out.fut hb)
      clear hb
      go_wp2_with fail
      refine (N3.out _ (HL.out.fut FR.out.out)).mono ?_
      rintro e v13 ⟨rfl, hb⟩
      replace FR := Lib.hid (FR.out.fut hb)
      replace HB := Lib.hid (HB.out.fut hb)
      replace HX := Lib.hid (HX.out.fut hb)
      replace HY := Lib.hid (HY.out.fut hb)
      replace HZ := Lib.hid (HZ.out.fut hb)
      clear hb
      go_wp2_with fail
      refine (same06_any Z A nz cz m cap _ _ _ HZ.out.all HB.out.all).mono ?_
      rintro e v14 ⟨rfl, hb⟩
      replace FR := Lib.hid (FR.out.fut hb)
      replace HB := Lib.hid (HB.out.fut hb)
      replace HX := Lib.hid (HX.out.fut hb)
      replace HY := Lib.hid (HY.out.fut hb)
      replace HZ := Lib.hid (HZ.out.fut hb)
      clear hb
      rw [show decide ((some l).getD [] = l) = true from decide_eq_true rfl]
      go_wp2_with fail
      refine (D3.out _ (HL.out.fut FR.out.out)).mono ?_
      rintro e v15 ⟨rfl, hb⟩
      replace FR := Lib.hid (FR.out.fut hb)
      replace HB := Lib.hid (HB.out.fut hb)
      replace HX := Lib.hid (HX.out.fut hb)
      replace HY := Lib.hid (HY.out.fut hb)
      replace HZ := Lib.hid (HZ.out.fut hb)
      clear hb
      go_wp2_with fail
      refine (known44_any _ (HL.out.fut FR.out.out)).mono ?_
      rintro e v16 ⟨rfl, hb⟩
      replace FR := Lib.hid (FR.out.fut hb)
      replace HB := Lib.hid (HB.out.fut hb)
      replace HX := Lib.hid (HX.out.fut hb)
      replace HY := Lib.hid (HY.out.fut hb)
      replace HZ := Lib.hid (HZ.out.fut hb)
      clear hb
      go_wp2_with fail
      go_ret
      exact ⟨rfl, FR.out.out⟩
  | some x =>
    have H3 := Lib.hid (fun X nx cx w hs => opHex_any X nx cx x w hs (by have := XL.out x rfl; have := hs.n_eq; omega))
    have e4 := Lib.hid (BX.out x rfl)
    simp only [e4.out] at H3
    clear BX XL e4
    cases dd with
    | none =>
      go_enter Tryd.func4, Tryd.ntmps4
      go_wp2_with fail
      refine (U1.out _).mono ?_
      rintro e v1 ⟨X, nx, cx, rfl, sl, hb⟩
      replace FR := Lib.hid (FR.out.fut hb)
      replace HB := Lib.hid (HB.out.fut hb)
      have HX := Lib.hid (Old.now (sl).old)
      clear hb sl
      go_wp2_with fail
      refine (U2.out _).mono ?_
      rintro e v2 ⟨Y, ny, cy, rfl, sl, hb⟩
      replace FR := Lib.hid (FR.out.fut hb)
      replace HB := Lib.hid (HB.out.fut hb)
      replace HX := Lib.hid (HX.out.fut hb)
      have HY := Lib.hid (Old.now (sl).old)
      clear hb sl
      go_wp2_with fail
      refine (N1.out _ (HL.out.fut FR.out.out)).mono ?_
      rintro e v3 ⟨rfl, hb⟩
      replace FR := Lib.hid (FR.out.fut hb)
      replace HB := Lib.hid (HB.out.fut hb)
      replace HX := Lib.hid (HX.out.fut hb)
      replace HY := Lib.hid (HY.out.fut hb)
      clear hb
      go_wp2_with fail
      refine (N2.out _).mono ?_
      rintro e v4 ⟨rfl, hb⟩
      replace FR := Lib.hid (FR.out.fut hb)
      replace HB := Lib.hid (HB.out.fut hb)
      replace HX := Lib.hid (HX.out.fut hb)
      replace HY := Lib.hid (HY.out.fut hb)
      clear hb
      go_wp2_with fail
      refine (same06_any X Y nx cx ny cy _ _ _ HX.out.all HY.out.all).mono ?_
      rintro e v5 ⟨rfl, hb⟩
      replace FR := Lib.hid (FR.out.fut hb)
      replace HB := Lib.hid (HB.out.fut hb)
      replace HX := Lib.hid (HX.out.fut hb)
      replace HY := Lib.hid (HY.out.fut hb)
      clear hb
      rw [decide_eq_true rfl]
      go_wp2_with fail
      refine (H1.out _ HB.out.all).mono ?_
      rintro e v6 ⟨rfl, hb⟩
      replace FR := Lib.hid (FR.out.fut hb)
      replace HB := Lib.hid (HB.out.fut hb)
      replace HX := Lib.hid (HX.out.fut hb)
      replace HY := Lib.hid (HY.out.fut hb)
      clear hb
      go_wp2_with fail
      refine (H2.out _ HB.out.all).mono ?_
      rintro e v7 ⟨rfl, hb⟩
      replace FR := Lib.hid (FR.out.fut hb)
      replace HB := Lib.hid (HB.out.fut hb)
      replace HX := Lib.hid (HX.out.fut hb)
      replace HY := Lib.hid (HY.out.fut hb)
      clear hb
      go_wp2_with fail
      refine (D1.out _ (HL.out.fut FR.out.out)).mono ?_
      rintro e v8 ⟨rfl, hb⟩
      replace FR := Lib.hid (FR.out.fut hb)
      replace HB := Lib.hid (HB.out.fut hb)
      replace HX := Lib.hid (HX.out.fut hb)
      replace HY := Lib.hid (HY.out.fut hb)
      clear hb
      go_wp2_with fail
      refine (D2.out _).mono ?_
      rintro e v9 ⟨rfl, hb⟩
      replace FR := Lib.hid (FR.out.fut hb)
      replace HB := Lib.hid (HB.out.fut hb)
      replace HX := Lib.hid (HX.out.fut hb)
      replace HY := Lib.hid (HY.out.fut hb)
      clear hb
      go_wp2_with fail
      refine (H1.out _ HB.out.all).mono ?_
      rintro e v10 ⟨rfl, hb⟩
      replace FR := Lib.hid (FR.out.fut hb)
      replace HB := Lib.hid (HB.out.fut hb)
      replace HX := Lib.hid (HX.out.fut hb)
      replace HY := Lib.hid (HY.out.fut hb)
      clear hb
      go_wp2_with fail
      refine (U3.out _).mono ?_
      rintro e v11 ⟨Z, nz, cz, rfl, sl, hb⟩
      replace FR := Lib.hid (FR.out.fut hb)
      replace HB := Lib.hid (HB.out.fut hb)
      replace HX := Lib.hid (HX.out.fut hb)
      replace HY := Lib.hid (HY.out.fut hb)
      have HZ := Lib.hid (Old.now (sl).old)
      clear hb sl
      go_wp2_with fail
      refine (D1.out _ (HL.out.fut FR.out.out)).mono ?_
      rintro e v12 ⟨rfl, hb⟩
      replace FR := Lib.hid (FR.out.fut hb)
      replace HB := Lib.hid (HB.out.fut hb)
      replace HX := Lib.hid (HX.out.fut hb)
      replace HY := Lib.hid (HY.out.fut hb)
      replace HZ := Lib.hid (HZ.out.fut hb)
      clear hb
      go_wp2_with fail
      refine (N3.out _ (HL.out.fut FR.out.out)).mono ?_
      rintro e v13 ⟨rfl, hb⟩
      replace FR := Lib.hid (FR.out.fut hb)
      replace HB := Lib.hid (HB.out.fut hb)
      replace HX := Lib.hid (HX.out.fut hb)
      replace HY := Lib.hid (HY.out.fut hb)
      replace HZ := Lib.hid (HZ.out.fut hb)
      clear hb
      go_wp2_with fail
      refine (same06_any Z A nz cz m cap _ _ _ HZ.out.all HB.out.all).mono ?_
      rintro e v14 ⟨rfl, hb⟩
      replace FR := Lib.hid (FR.out.fut hb)
      replace HB := Lib.hid (HB.out.fut hb)
      replace HX := Lib.hid (HX.out.fut hb)
      replace HY := Lib.hid (HY.out.fut hb)
      replace HZ := Lib.hid (HZ.out.fut hb)
      clear hb
      rw [show decide ((some l).getD [] = l) = true from decide_eq_true rfl]
      go_wp2_with fail
      refine (H3.out X nx cx _ HX.out.all).mono ?_
      rintro e v15 ⟨rfl, hb⟩
      replace FR := Lib.hid (FR.out.fut hb)
      replace HB := Lib.hid (HB.out.fut hb)
      replace HX := Lib.hid (HX.out.fut hb)
      replace HY := Lib.hid (HY.out.fut hb)
      replace HZ := Lib.hid (HZ.out.fut hb)
      clear hb
      go_wp2_with fail
      refine (known44_any _ (HL.out.fut FR.out.out)).mono ?_
      rintro e v16 ⟨rfl, hb⟩
      replace FR := Lib.hid (FR.out.fut hb)
      replace HB := Lib.hid (HB.out.fut hb)
      replace HX := Lib.hid (HX.out.fut hb)
      replace HY := Lib.hid (HY.out.fut hb)
      replace HZ := Lib.hid (HZ.out.fut hb)
      clear hb
      go_wp2_with fail
      go_ret
      exact ⟨rfl, FR.out.out⟩
    | some y =>
      have D3 := Lib.hid (fun w hw => opDigits_any y w (BN.out y rfl).2 hw)
      have e3 := Lib.hid (show (⟨(Lib.itoa y).toArray⟩ : ByteArray) = s by rw [(BN.out y rfl).1])
      simp only [e3.out] at D3
      clear BN e3
      go_enter Tryd.func4, Tryd.ntmps4
      go_wp2_with fail
      refine (U1.out _).mono ?_
      rintro e v1 ⟨X, nx, cx, rfl, sl, hb⟩
      replace FR := Lib.hid (FR.out.fut hb)
      replace HB := Lib.hid (HB.out.fut hb)
      have HX := Lib.hid (Old.now (sl).old)
      clear hb sl
      go_wp2_with fail
      refine (U2.out _).mono ?_
      rintro e v2 ⟨Y, ny, cy, rfl, sl, hb⟩
      replace FR := Lib.hid (FR.out.fut hb)
      replace HB := Lib.hid (HB.out.fut hb)
      replace HX := Lib.hid (HX.out.fut hb)
      have HY := Lib.hid (Old.now (sl).old)
      clear hb sl
      go_wp2_with fail
      refine (N1.out _ (HL.out.fut FR.out.out)).mono ?_
      rintro e v3 ⟨rfl, hb⟩
      replace FR := Lib.hid (FR.out.fut hb)
      replace HB := Lib.hid (HB.out.fut hb)
      replace HX := Lib.hid (HX.out.fut hb)
      replace HY := Lib.hid (HY.out.fut hb)
      clear hb
      go_wp2_with fail
      refine (N2.out _).mono ?_
      rintro e v4 ⟨rfl, hb⟩
      replace FR := Lib.hid (FR.out.fut hb)
      replace HB := Lib.hid (HB.out.fut hb)
      replace HX := Lib.hid (HX.out.fut hb)
      replace HY := Lib.hid (HY.out.fut hb)
      clear hb
      go_wp2_with fail
      refine (same06_any X Y nx cx ny cy _ _ _ HX.out.all HY.out.all).mono ?_
      rintro e v5 ⟨rfl, hb⟩
      replace FR := Lib.hid (FR.out.fut hb)
      replace HB := Lib.hid (HB.out.fut hb)
      replace HX := Lib.hid (HX.out.fut hb)
      replace HY := Lib.hid (HY.out.fut hb)
      clear hb
      rw [decide_eq_true rfl]
      go_wp2_with fail
      refine (H1.out _ HB.out.all).mono ?_
      rintro e v6 ⟨rfl, hb⟩
      replace FR := Lib.hid (FR.out.fut hb)
      replace HB := Lib.hid (HB.out.fut hb)
      replace HX := Lib.hid (HX.out.fut hb)
      replace HY := Lib.hid (HY.out.fut hb)
      clear hb
      go_wp2_with fail
      refine (H2.out _ HB.out.all).mono ?_
      rintro e v7 ⟨rfl, hb⟩
      replace FR := Lib.hid (FR.out.fut hb)
      replace HB := Lib.hid (HB.out.fut hb)
      replace HX := Lib.hid (HX.out.fut hb)
      replace HY := Lib.hid (HY.out.fut hb)
      clear hb
      go_wp2_with fail
      refine (D1.out _ (HL.out.fut FR.out.out)).mono ?_
      rintro e v8 ⟨rfl, hb⟩
      replace FR := Lib.hid (FR.out.fut hb)
      replace HB := Lib.hid (HB.out.fut hb)
      replace HX := Lib.hid (HX.out.fut hb)
      replace HY := Lib.hid (HY.out.fut hb)
      clear hb
      go_wp2_with fail
      refine (D2.out _).mono ?_
      rintro e v9 ⟨rfl, hb⟩
      replace FR := Lib.hid (FR.out.fut hb)
      replace HB := Lib.hid (HB.out.fut hb)
      replace HX := Lib.hid (HX.out.fut hb)
      replace HY := Lib.hid (HY.out.fut hb)
      clear hb
      go_wp2_with fail
      refine (H1.out _ HB.out.all).mono ?_
      rintro e v10 ⟨rfl, hb⟩
      replace FR := Lib.hid (FR.out.fut hb)
      replace HB := Lib.hid (HB.out.fut hb)
      replace HX := Lib.hid (HX.out.fut hb)
      replace HY := Lib.hid (HY.out.fut hb)
      clear hb
      go_wp2_with fail
      refine (U3.out _).mono ?_
      rintro e v11 ⟨Z, nz, cz, rfl, sl, hb⟩
      replace FR := Lib.hid (FR.out.fut hb)
      replace HB := Lib.hid (HB.out.fut hb)
      replace HX := Lib.hid (HX.out.fut hb)
      replace HY := Lib.hid (HY.out.fut hb)
      have HZ := Lib.hid (Old.now (sl).old)
      clear hb sl
      go_wp2_with fail
      refine (D1.out _ (HL.out.fut FR.out.out)).mono ?_
      rintro e v12 ⟨rfl, hb⟩
      replace FR := Lib.hid (FR.out.fut hb)
      replace HB := Lib.hid (HB.out.fut hb)
      replace HX := Lib.hid (HX.out.fut hb)
      replace HY := Lib.hid (HY.out.fut hb)
      replace HZ := Lib.hid (HZ.out.fut hb)
      clear hb
      go_wp2_with fail
      refine (N3.out _ (HL.out.fut FR.out.out)).mono ?_
      rintro e v13 ⟨rfl, hb⟩
      replace FR := Lib.hid (FR.out.fut hb)
      replace HB := Lib.hid (HB.out.fut hb)
      replace HX := Lib.hid (HX.out.fut hb)
      replace HY := Lib.hid (HY.out.fut hb)
      replace HZ := Lib.hid (HZ.out.fut hb)
      clear hb
      go_wp2_with fail
      refine (same06_any Z A nz cz m cap _ _ _ HZ.out.all HB.out.all).mono ?_
      rintro e v14 ⟨rfl, hb⟩
      replace FR := Lib.hid (FR.out.fut hb)
      replace HB := Lib.hid (HB.out.fut hb)
      replace HX := Lib.hid (HX.out.fut hb)
      replace HY := Lib.hid (HY.out.fut hb)
      replace HZ := Lib.hid (HZ.out.fut hb)
      clear hb
      rw [show decide ((some l).getD [] = l) = true from decide_eq_true rfl]
      go_wp2_with fail
      refine (H3.out X nx cx _ HX.out.all).mono ?_
      rintro e v15 ⟨rfl, hb⟩
      replace FR := Lib.hid (FR.out.fut hb)
      replace HB := Lib.hid (HB.out.fut hb)
      replace HX := Lib.hid (HX.out.fut hb)
      replace HY := Lib.hid (HY.out.fut hb)
      replace HZ := Lib.hid (HZ.out.fut hb)
      clear hb
      go_wp2_with fail
      refine (D3.out _ (HL.out.fut FR.out.out)).mono ?_
      rintro e v16 ⟨rfl, hb⟩
      replace FR := Lib.hid (FR.out.fut hb)
      replace HB := Lib.hid (HB.out.fut hb)
      replace HX := Lib.hid (HX.out.fut hb)
      replace HY := Lib.hid (HY.out.fut hb)
      replace HZ := Lib.hid (HZ.out.fut hb)
      clear hb
      go_wp2_with fail
      refine (known44_any _ (HL.out.fut FR.out.out)).mono ?_
      rintro e v17 ⟨rfl, hb⟩
      replace FR := Lib.hid (FR.out.fut hb)
      replace HB := Lib.hid (HB.out.fut hb)
      replace HX := Lib.hid (HX.out.fut hb)
      replace HY := Lib.hid (HY.out.fut hb)
      replace HZ := Lib.hid (HZ.out.fut hb)
      clear hb
      go_wp2_with fail
      go_ret
      exact ⟨rfl, FR.out.out⟩
end Go.Proofs.YthnhknomjepijaaDoor
