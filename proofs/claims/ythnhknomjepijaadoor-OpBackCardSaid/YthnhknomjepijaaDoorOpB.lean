/-
  Bytes out of writing (layer 44): op.Unhex, the document's Unhex.
  Conditions: at most 2^40 bytes.
-/
import Derived.Test.YthnhknomjepijaaDoorOpA
import Derived.Test.YthnhknomjepijaaDoorExt
import Derived.BigQuiet
namespace Go.Proofs.YthnhknomjepijaaDoor
set_option linter.unusedVariables false
set_option linter.unusedSimpArgs false
open Go Go.RowKit Go.ChangeShapes Go.WideShapes
set_option maxRecDepth 100000
set_option maxHeartbeats 4000000

def RetU (x : Option (List Int)) (w : World) (e : Ending) (w' : World) : Prop :=
  ∃ A m cap, e = .returned (.tuple #[.slice A m cap, .bool x.isSome]) ∧ Sl (tInt .u8) w' (bin w.heap.size w'.heap.size) A m cap (x.getD []) ∧ Below w.heap.size w w'
theorem sbeq_ne {s : ByteArray} {l : List UInt8} (h : s ≠ ⟨l.toArray⟩) : (s.toList == l) = false := by
  rw [Bool.eq_false_iff]
  intro e
  rw [beq_iff_eq, ByteArray.toList_eq] at e
  apply h
  obtain ⟨⟨m⟩⟩ := s
  simp only at e
  subst e; rfl
theorem sempty_ne {s : ByteArray} (h : s.size ≠ 0) : s.toList.isEmpty = false := by
  rw [Bool.eq_false_iff]
  intro e
  rw [List.isEmpty_iff, ByteArray.toList_eq] at e
  apply h
  obtain ⟨⟨m⟩⟩ := s
  simp only at e
  subst e; rfl
theorem size0 {s : ByteArray} (h : s.size = 0) : s = ⟨#[]⟩ := nums_inj (by rw [List.eq_nil_of_length_eq_zero (l := nums s) (by rw [nums_len]; exact h)]; rfl)
theorem shl16 (a b : Int) (ha : 0 ≤ a ∧ a < 16) (hb : 0 ≤ b ∧ b < 16) : IntKind.u8.wrap (bits BinOp.or IntKind.i64 (IntKind.i64.wrap (a * 16)) b) = 16 * a + b := by
  have key : ∀ k < 16, ∀ m < 16, IntKind.u8.wrap (bits BinOp.or IntKind.i64 (IntKind.i64.wrap (((k : Nat) : Int) * 16)) ((m : Nat) : Int)) = 16 * (k : Int) + (m : Int) := by decide
  obtain ⟨k, rfl⟩ : ∃ k : Nat, a = k := ⟨a.toNat, by omega⟩
  obtain ⟨m, rfl⟩ : ∃ k : Nat, b = k := ⟨b.toNat, by omega⟩
  exact key k (by omega) m (by omega)

theorem opUnhex_any (s : ByteArray) (w : World) (hn : s.size ≤ 1099511627776) :
    Calls Tryd.prog 15 #[.string s] w (RetU (unhexB (nums s)) w) := by
  have HV := Lib.hid (show unhexB (nums s) = if nums s = [45] then some [] else if (nums s).length = 0 ∨ (nums s).length % 2 = 1 then none else unhexK (nums s) ((nums s).length / 2) from rfl)
  rw [nums_len] at HV
  obtain ⟨r, hr⟩ : ∃ r, unhexB (nums s) = r := ⟨_, rfl⟩
  rw [hr] at HV ⊢
  clear hr
  have FR := Lib.hid (Far.refl w)
  by_cases c1 : s = ⟨#[45]⟩
  · subst c1
    obtain rfl : r = some [] := by rw [HV.out, if_pos (show nums ⟨#[45]⟩ = [45] from rfl)]
    go_enter Tryd.func15, Tryd.ntmps15
    go_wp2_with fail
    go_ret2
    exact ⟨none, 0, 0, rfl, Sl.nil _ _ _, FR.out.out⟩
  have t1 : (s.toList == [45]) = false := sbeq_ne c1
  rw [if_neg (fun h => c1 (nums_inj (h.trans rfl)))] at HV
  by_cases c2 : s.size = 0
  · obtain rfl := size0 c2
    obtain rfl : r = none := by rw [HV.out, if_pos (.inl rfl)]
    clear c1 c2
    go_enter Tryd.func15, Tryd.ntmps15
    go_wp2_with fail
    go_ret2
    exact ⟨none, 0, 0, rfl, Sl.nil _ _ _, FR.out.out⟩
  have t2 : s.toList.isEmpty = false := sempty_ne c2
  obtain ⟨N, hN⟩ : ∃ N, s.size = N := ⟨_, rfl⟩
  rw [hN] at HV c2 hn
  obtain ⟨rm, hrm⟩ : ∃ x, N % 2 = x := ⟨_, rfl⟩
  have hrm2 : rm < 2 := by omega
  have r1 : (N : Int).tmod 2 = (rm : Int) := by rw [← hrm, Int.tmod_eq_emod_of_nonneg (by omega)]; simp
  have r3 : (N : Int) % 2 = (rm : Int) := by rw [← hrm]; simp
  have r2 : IntKind.i64.wrap (rm : Int) = (rm : Int) := IntWalk.i64_in _ (by omega)
  by_cases c3 : rm = 1
  · obtain rfl : r = none := by rw [HV.out, if_pos (.inr (by rw [hrm]; exact c3))]
    have t3 : ((rm : Int) == 1) = true := by simp [c3]
    clear c1 c2 c3 hrm
    go_enter Tryd.func15, Tryd.ntmps15
    go_wp2_with fail
    go_ret2
    exact ⟨none, 0, 0, rfl, Sl.nil _ _ _, FR.out.out⟩
  have t3 : ((rm : Int) == 1) = false := by simp; omega
  rw [if_neg (by omega)] at HV
  obtain ⟨M, rfl⟩ : ∃ M, N = 2 * M := ⟨N / 2, by omega⟩
  rw [show 2 * M / 2 = M by omega] at HV
  clear c1 c2 c3 hrm
  obtain ⟨N, hNM⟩ : ∃ N, 2 * M = N := ⟨_, rfl⟩
  rw [hNM] at hN r1 r3 hn
  have NM := Lib.hid hNM
  clear hNM
  go_enter Tryd.func15, Tryd.ntmps15
  go_wp2_with fail
  go_loopw [4, 5] (fun u ii wr => ∃ (k i : Nat) (o : List Int), 2 * k = i ∧ i ≤ N ∧ ii = .int .i64 i ∧ unhexK (nums s) k = some o ∧ Own (tInt .u8) wr (fun _ => False) w.heap.size 5 u k o ∧ Below w.heap.size w wr) (fun _ ii _ => N - (intOf ii).toNat)
  case atStart => exact ⟨0, 0, [], rfl, Nat.zero_le _, rfl, rfl, Own.nil _ _ _ _ _, FR.out.out⟩
  case round =>
    obtain ⟨k, i, o, hki, hk, rfl, hu, hown, hb⟩ := hrel
    have KI := Lib.hid hki
    replace FR := Lib.hid (FR.out.fut hb)
    have ON := Lib.hid hown
    have HU := Lib.hid hu
    clear hb hown hu hki
    by_cases hlt : i < N
    · have p1 : (i : Int) < (N : Int) := by omega
      obtain ⟨j, hj⟩ : ∃ j, i + 1 = j := ⟨_, rfl⟩
      have p2 : (j : Int) < (N : Int) := by have := KI.out; have := NM.out; omega
      have g1 : IntKind.i64.wrap ((i : Int) + 1) = (j : Int) := by rw [← hj]; exact (IntWalk.i64_in _ (by omega)).trans (by simp)
      have hi : i < s.size := by omega
      have hjs : j < s.size := by omega
      have HU2 := Lib.hid (show unhexK (nums s) (k + 1) = if digI ((nums s).getD i 0) < 0 ∨ digI ((nums s).getD j 0) < 0 then none else some (o ++ [16 * digI ((nums s).getD i 0) + digI ((nums s).getD j 0)]) by
        show (match unhexK (nums s) k with | some o => _ | none => none) = _
        rw [HU.out, ← hj, ← KI.out])
      rw [← nums_at hi, ← nums_at hjs] at HU2
      have ia := numsI (s := s) i
      have ij := numsI (s := s) j
      rw [← nums_at hi] at ia
      rw [← nums_at hjs] at ij
      have E1 := Lib.hid (fun q : Ext wr => calls_ext q ((opValue_any ((s[i]'hi).toNat : Int) q.1 (by rw [inK_u8]; exact ia)).mono fun e w' h => ⟨h.1, h.2 ▸ Below.refl _ _⟩))
      have E2 := Lib.hid (fun q : Ext wr => calls_ext q ((opValue_any ((s[j]'hjs).toNat : Int) q.1 (by rw [inK_u8]; exact ij)).mono fun e w' h => ⟨h.1, h.2 ▸ Below.refl _ _⟩))
      have D1 := Lib.hid (digI_lt ((s[i]'hi).toNat : Int))
      have D2 := Lib.hid (digI_lt ((s[j]'hjs).toNat : Int))
      obtain ⟨a, ha⟩ : ∃ a, digI ((s[i]'hi).toNat : Int) = a := ⟨_, rfl⟩
      obtain ⟨b, hb⟩ : ∃ a, digI ((s[j]'hjs).toNat : Int) = a := ⟨_, rfl⟩
      rw [ha] at E1 HU2 D1
      rw [hb] at E2 HU2 D2
      have HJ := Lib.hid hj
      clear ha hb ia ij hj
      go_upto_region 9 with fail
      (try simp only [Act.put])
      refine wp_region_ext wr (by kernel_rfl) (by kernel_rfl) (Below.refl _ _) ?_
      go_big_quiet_step (exact E1.out _)
      go_big_quiet_step (exact E1.out _)
      go_big_quiet_step (exact E1.out _)
      go_big_quiet_step (exact E1.out _)
      go_big_quiet_step (exact E2.out _)
      go_big_quiet_step (exact E2.out _)
      go_big_quiet_step (exact E2.out _)
      go_big_quiet_step (exact E2.out _)
      go_big_quiet_step (exact E2.out _)
      go_big_quiet_step (exact E2.out _)
      go_big_quiet_step (exact E2.out _)
      refine wpQuiet_nil ?_
      rintro wa ⟨⟨_, hba⟩, rfl⟩
      replace FR := Lib.hid (FR.out.fut hba)
      replace ON := Lib.hid (ON.out.below hba (Nat.le_refl _) (fun _ h => h.elim))
      clear hba E1 E2
      by_cases q : a < 0 ∨ b < 0
      · have RV := Lib.hid (show r = none by rw [HV.out]; exact unhexK_none (by rw [HU2.out, if_pos q]) M (by have := KI.out; have := NM.out; omega))
        by_cases qa : a < 0
        · have ta : decide (a < 0) = true := by simpa using qa
          clear q qa
          go_wp2_with fail
          go_ret2
          rw [RV.out]
          exact ⟨none, 0, 0, rfl, Sl.nil _ _ _, FR.out.out⟩
        · have ta : decide (a < 0) = false := by simpa using qa
          have tb : decide (b < 0) = true := by simp; omega
          clear q qa
          go_wp2_with fail
          go_ret2
          rw [RV.out]
          exact ⟨none, 0, 0, rfl, Sl.nil _ _ _, FR.out.out⟩
      · have ta : decide (a < 0) = false := by simp; omega
        have tb : decide (b < 0) = false := by simp; omega
        rw [if_neg q] at HU2
        have sh := shl16 a b (by have := D1.out; omega) (by have := D2.out; omega)
        have IX := Lib.hid (show InK .u8 (16 * a + b) by have := D1.out; have := D2.out; rw [inK_u8]; omega)
        obtain ⟨x, hx⟩ : ∃ x, 16 * a + b = x := ⟨_, rfl⟩
        rw [hx] at sh IX HU2
        obtain ⟨a6, ha6⟩ : ∃ x, IntKind.i64.wrap (a * 16) = x := ⟨_, rfl⟩
        obtain ⟨b6, hb6⟩ : ∃ x, bits BinOp.or IntKind.i64 a6 b = x := ⟨_, rfl⟩
        rw [ha6, hb6] at sh
        clear q hx
        have z0 := FR.out.size
        go_wp2_with (at_builtin; refine wpList_push (W := wa) (cs := #[.int .u8 x]) (E := 5) (t := tInt .u8) (S := fun _ => False) (base := w.heap.size) rfl (.tmp 39) (.tmp 45) rfl ei_b8 rfl ON.out 1 rfl x ⟨rfl, IX.out⟩ (by unfold maxLen; have := KI.out; omega) (by have := KI.out; omega) z0 (fun _ h => h.elim) ?_; intro v' wz ownz gz atz)
        have F9 := FR.out.out.grown gz z0 (fun j hj => (ON.out.lt j hj).1)
        exact ⟨⟨k + 1, j + 1, o ++ [x], by have := KI.out; have := HJ.out; omega, by have := KI.out; have := NM.out; have := HJ.out; omega, by have := HJ.out; go_num, HU2.out, ownz, F9⟩, by have := HJ.out; simp [intOf]; omega⟩
    · obtain rfl : i = N := by omega
      have RV := Lib.hid (show r = some o by rw [HV.out, show M = k by have := KI.out; have := NM.out; omega]; exact HU.out)
      obtain ⟨A1, c1, rfl, sl⟩ := ON.out.sl (S' := bin w.heap.size wr.heap.size) (by decide) (fun b h1 h2 => ⟨h1, h2⟩) (fun _ h => h.elim)
      have SL := Lib.hid sl
      clear sl
      go_wp2_with fail
      go_ret2
      rw [RV.out]
      exact ⟨A1, k, c1, rfl, SL.out, FR.out.out⟩

theorem ropUnhex_any (s : ByteArray) (w : World) (hn : s.size ≤ 1099511627776) :
    Calls Tryd.prog 16 #[.string s] w (RetU (unhexB (nums s)) w) := by
  have HV := Lib.hid (show unhexB (nums s) = if nums s = [45] then some [] else if (nums s).length = 0 ∨ (nums s).length % 2 = 1 then none else unhexK (nums s) ((nums s).length / 2) from rfl)
  rw [nums_len] at HV
  obtain ⟨r, hr⟩ : ∃ r, unhexB (nums s) = r := ⟨_, rfl⟩
  rw [hr] at HV ⊢
  clear hr
  have FR := Lib.hid (Far.refl w)
  by_cases c1 : s = ⟨#[45]⟩
  · subst c1
    obtain rfl : r = some [] := by rw [HV.out, if_pos (show nums ⟨#[45]⟩ = [45] from rfl)]
    go_enter Tryd.func16, Tryd.ntmps16
    go_wp2_with fail
    go_ret2
    exact ⟨none, 0, 0, rfl, Sl.nil _ _ _, FR.out.out⟩
  have t1 : (s.toList == [45]) = false := sbeq_ne c1
  rw [if_neg (fun h => c1 (nums_inj (h.trans rfl)))] at HV
  by_cases c2 : s.size = 0
  · obtain rfl := size0 c2
    obtain rfl : r = none := by rw [HV.out, if_pos (.inl rfl)]
    clear c1 c2
    go_enter Tryd.func16, Tryd.ntmps16
    go_wp2_with fail
    go_ret2
    exact ⟨none, 0, 0, rfl, Sl.nil _ _ _, FR.out.out⟩
  have t2 : s.toList.isEmpty = false := sempty_ne c2
  obtain ⟨N, hN⟩ : ∃ N, s.size = N := ⟨_, rfl⟩
  rw [hN] at HV c2 hn
  obtain ⟨rm, hrm⟩ : ∃ x, N % 2 = x := ⟨_, rfl⟩
  have hrm2 : rm < 2 := by omega
  have r1 : (N : Int).tmod 2 = (rm : Int) := by rw [← hrm, Int.tmod_eq_emod_of_nonneg (by omega)]; simp
  have r3 : (N : Int) % 2 = (rm : Int) := by rw [← hrm]; simp
  have r2 : IntKind.i64.wrap (rm : Int) = (rm : Int) := IntWalk.i64_in _ (by omega)
  by_cases c3 : rm = 1
  · obtain rfl : r = none := by rw [HV.out, if_pos (.inr (by rw [hrm]; exact c3))]
    have t3 : ((rm : Int) == 1) = true := by simp [c3]
    clear c1 c2 c3 hrm
    go_enter Tryd.func16, Tryd.ntmps16
    go_wp2_with fail
    go_ret2
    exact ⟨none, 0, 0, rfl, Sl.nil _ _ _, FR.out.out⟩
  have t3 : ((rm : Int) == 1) = false := by simp; omega
  rw [if_neg (by omega)] at HV
  obtain ⟨M, rfl⟩ : ∃ M, N = 2 * M := ⟨N / 2, by omega⟩
  rw [show 2 * M / 2 = M by omega] at HV
  clear c1 c2 c3 hrm
  obtain ⟨N, hNM⟩ : ∃ N, 2 * M = N := ⟨_, rfl⟩
  rw [hNM] at hN r1 r3 hn
  have NM := Lib.hid hNM
  clear hNM
  go_enter Tryd.func16, Tryd.ntmps16
  go_wp2_with fail
  go_loopw [4, 5] (fun u ii wr => ∃ (k i : Nat) (o : List Int), 2 * k = i ∧ i ≤ N ∧ ii = .int .i64 i ∧ unhexK (nums s) k = some o ∧ Own (tInt .u8) wr (fun _ => False) w.heap.size 5 u k o ∧ Below w.heap.size w wr) (fun _ ii _ => N - (intOf ii).toNat)
  case atStart => exact ⟨0, 0, [], rfl, Nat.zero_le _, rfl, rfl, Own.nil _ _ _ _ _, FR.out.out⟩
  case round =>
    obtain ⟨k, i, o, hki, hk, rfl, hu, hown, hb⟩ := hrel
    have KI := Lib.hid hki
    replace FR := Lib.hid (FR.out.fut hb)
    have ON := Lib.hid hown
    have HU := Lib.hid hu
    clear hb hown hu hki
    by_cases hlt : i < N
    · have p1 : (i : Int) < (N : Int) := by omega
      obtain ⟨j, hj⟩ : ∃ j, i + 1 = j := ⟨_, rfl⟩
      have p2 : (j : Int) < (N : Int) := by have := KI.out; have := NM.out; omega
      have g1 : IntKind.i64.wrap ((i : Int) + 1) = (j : Int) := by rw [← hj]; exact (IntWalk.i64_in _ (by omega)).trans (by simp)
      have hi : i < s.size := by omega
      have hjs : j < s.size := by omega
      have HU2 := Lib.hid (show unhexK (nums s) (k + 1) = if digI ((nums s).getD i 0) < 0 ∨ digI ((nums s).getD j 0) < 0 then none else some (o ++ [16 * digI ((nums s).getD i 0) + digI ((nums s).getD j 0)]) by
        show (match unhexK (nums s) k with | some o => _ | none => none) = _
        rw [HU.out, ← hj, ← KI.out])
      rw [← nums_at hi, ← nums_at hjs] at HU2
      have ia := numsI (s := s) i
      have ij := numsI (s := s) j
      rw [← nums_at hi] at ia
      rw [← nums_at hjs] at ij
      have E1 := Lib.hid (fun w => ropDigit_any ((s[i]'hi).toNat : Int) w (by rw [inK_u8]; exact ia))
      have E2 := Lib.hid (fun w => ropDigit_any ((s[j]'hjs).toNat : Int) w (by rw [inK_u8]; exact ij))
      have D1 := Lib.hid (digI_lt ((s[i]'hi).toNat : Int))
      have D2 := Lib.hid (digI_lt ((s[j]'hjs).toNat : Int))
      unfold digJ at E1 E2
      obtain ⟨a, ha⟩ : ∃ a, digI ((s[i]'hi).toNat : Int) = a := ⟨_, rfl⟩
      obtain ⟨b, hb⟩ : ∃ a, digI ((s[j]'hjs).toNat : Int) = a := ⟨_, rfl⟩
      rw [ha] at E1 HU2 D1
      rw [hb] at E2 HU2 D2
      have HJ := Lib.hid hj
      clear ha hb ia ij hj
      by_cases q : a < 0 ∨ b < 0
      · have RV := Lib.hid (show r = none by rw [HV.out]; exact unhexK_none (by rw [HU2.out, if_pos q]) M (by have := KI.out; have := NM.out; omega))
        by_cases qa : a < 0
        · rw [if_pos qa] at E1
          clear q qa
          go_wp2_with (go_at_call 34; refine (E1.out _).mono ?_; rintro e w' ⟨rfl, rfl⟩)
          go_ret2
          rw [RV.out]
          exact ⟨none, 0, 0, rfl, Sl.nil _ _ _, FR.out.out⟩
        · rw [if_neg qa] at E1
          rw [if_pos (show b < 0 by omega)] at E2
          have ta : decide (15 < a) = false := by have := D1.out; simp; omega
          clear q qa
          go_wp2_with fail
          refine (E1.out _).mono ?_
          rintro e w' ⟨rfl, rfl⟩
          go_wp2_with (go_at_call 34; refine (E2.out _).mono ?_; rintro e w' ⟨rfl, rfl⟩)
          go_ret2
          rw [RV.out]
          exact ⟨none, 0, 0, rfl, Sl.nil _ _ _, FR.out.out⟩
      · rw [if_neg (by omega)] at E1 E2
        have ta : decide (15 < a) = false := by have := D1.out; simp; omega
        have tb : decide (15 < b) = false := by have := D2.out; simp; omega
        rw [if_neg q] at HU2
        have IX := Lib.hid (show InK .u8 (16 * a + b) by have := D1.out; have := D2.out; rw [inK_u8]; omega)
        obtain ⟨a6, ha6⟩ : ∃ x, 16 * a = x := ⟨_, rfl⟩
        have e5 : IntKind.i64.wrap (16 * a) = a6 := by rw [ha6]; exact IntWalk.i64_in _ (by have := D1.out; omega)
        rw [ha6] at IX HU2
        obtain ⟨x, hx⟩ : ∃ x, a6 + b = x := ⟨_, rfl⟩
        have e6 : IntKind.i64.wrap (a6 + b) = x := by rw [hx]; exact IntWalk.i64_in _ (by have := D1.out; have := D2.out; omega)
        rw [hx] at IX HU2
        have e7 : IntKind.u8.wrap x = x := by have h := IX.out; rw [inK_u8] at h; exact IntWalk.u8_in _ (by omega)
        clear q hx ha6
        go_wp2_with fail
        refine (E1.out _).mono ?_
        rintro e w' ⟨rfl, rfl⟩
        go_wp2_with fail
        refine (E2.out _).mono ?_
        rintro e w' ⟨rfl, rfl⟩
        go_upto_region 11 with fail
        (try simp only [Act.put])
        refine wp_region_held_drew (S := fun w' => Below w.heap.size w w') (by kernel_rfl) ?_ (fun hS => ?_)
        · exact FR.out.out.drew
        refine wpAnyH_take (i := 0) (v := ?_) rfl (by as_aux_lemma => kernel_rfl) (by as_aux_lemma => kernel_rfl) (by as_aux_lemma => kernel_rfl) (fun _ _ _ h => h) (Or.inl ⟨by rfl, ?_⟩) hS ?_
        rotate_left
        · intro w hSw; (try dsimp only at hSw); go_simp; try with_reducible rfl
        try simp only [Act.put, List.getElem_toArray, List.getElem_cons_succ, List.getElem_cons_zero, List.setIfInBounds_toArray, List.set_cons_zero, List.set_cons_succ]
        refine wpAnyH_take (i := 1) (v := ?_) rfl (by as_aux_lemma => kernel_rfl) (by as_aux_lemma => kernel_rfl) (by as_aux_lemma => kernel_rfl) (fun _ _ _ h => h) (Or.inl ⟨by rfl, ?_⟩) hS ?_
        rotate_left
        · intro w hSw; (try dsimp only at hSw); go_simp; try with_reducible rfl
        try simp only [Act.put, List.getElem_toArray, List.getElem_cons_succ, List.getElem_cons_zero, List.setIfInBounds_toArray, List.set_cons_zero, List.set_cons_succ]
        refine wpAnyH_take (i := 2) (v := ?_) rfl (by as_aux_lemma => kernel_rfl) (by as_aux_lemma => kernel_rfl) (by as_aux_lemma => kernel_rfl) (fun _ _ _ h => h) (Or.inl ⟨by rfl, ?_⟩) hS ?_
        rotate_left
        · intro w hSw; (try dsimp only at hSw); go_simp; try with_reducible rfl
        try simp only [Act.put, List.getElem_toArray, List.getElem_cons_succ, List.getElem_cons_zero, List.setIfInBounds_toArray, List.set_cons_zero, List.set_cons_succ]
        refine wpAnyH_take (i := 3) (v := ?_) rfl (by as_aux_lemma => kernel_rfl) (by as_aux_lemma => kernel_rfl) (by as_aux_lemma => kernel_rfl) (fun _ _ _ h => h) (Or.inl ⟨by rfl, ?_⟩) hS ?_
        rotate_left
        · intro w hSw; (try dsimp only at hSw); go_simp; try with_reducible rfl
        try simp only [Act.put, List.getElem_toArray, List.getElem_cons_succ, List.getElem_cons_zero, List.setIfInBounds_toArray, List.set_cons_zero, List.set_cons_succ]
        refine wpAnyH_take (i := 6) (v := ?_) rfl (by as_aux_lemma => kernel_rfl) (by as_aux_lemma => kernel_rfl) (by as_aux_lemma => kernel_rfl) (fun _ _ _ h => h) (Or.inl ⟨by rfl, ?_⟩) hS ?_
        rotate_left
        · intro w hSw; (try dsimp only at hSw); go_simp; try with_reducible rfl
        try simp only [Act.put, List.getElem_toArray, List.getElem_cons_succ, List.getElem_cons_zero, List.setIfInBounds_toArray, List.set_cons_zero, List.set_cons_succ]
        refine wpAnyH_take (i := 7) (v := ?_) rfl (by as_aux_lemma => kernel_rfl) (by as_aux_lemma => kernel_rfl) (by as_aux_lemma => kernel_rfl) (fun _ _ _ h => h) (Or.inl ⟨by rfl, ?_⟩) hS ?_
        rotate_left
        · intro w hSw; (try dsimp only at hSw); go_simp; try with_reducible rfl
        try simp only [Act.put, List.getElem_toArray, List.getElem_cons_succ, List.getElem_cons_zero, List.setIfInBounds_toArray, List.set_cons_zero, List.set_cons_succ]
        refine wpAnyH_take (i := 8) (v := ?_) rfl (by as_aux_lemma => kernel_rfl) (by as_aux_lemma => kernel_rfl) (by as_aux_lemma => kernel_rfl) (fun _ _ _ h => h) (Or.inl ⟨by rfl, ?_⟩) hS ?_
        rotate_left
        · intro w hSw; (try dsimp only at hSw); go_simp; try with_reducible rfl
        try simp only [Act.put, List.getElem_toArray, List.getElem_cons_succ, List.getElem_cons_zero, List.setIfInBounds_toArray, List.set_cons_zero, List.set_cons_succ]
        refine wpAnyH_take (i := 9) (v := ?_) rfl (by as_aux_lemma => kernel_rfl) (by as_aux_lemma => kernel_rfl) (by as_aux_lemma => kernel_rfl) (fun _ _ _ h => h) (Or.inl ⟨by rfl, ?_⟩) hS ?_
        rotate_left
        · intro w hSw; (try dsimp only at hSw); go_simp; try with_reducible rfl
        try simp only [Act.put, List.getElem_toArray, List.getElem_cons_succ, List.getElem_cons_zero, List.setIfInBounds_toArray, List.set_cons_zero, List.set_cons_succ]
        refine wpAnyH_ready (rs := [4]) (by kernel_rfl) (by simp) ?_
        refine AllReadyH.cons rfl (fun K hK => ?_) AllReadyH.nil
        go_simp
        refine (E1.out _).mono ?_; rintro e w' ⟨rfl, rfl⟩
        refine hK.out _ _ hS (fun hS => ?_)
        clear hK K
        try simp only [Act.put, List.getElem_toArray, List.getElem_cons_succ, List.getElem_cons_zero, List.setIfInBounds_toArray, List.set_cons_zero, List.set_cons_succ]
        refine wpAnyH_take (i := 5) (v := ?_) rfl (by as_aux_lemma => kernel_rfl) (by as_aux_lemma => kernel_rfl) (by as_aux_lemma => kernel_rfl) (fun _ _ _ h => h) (Or.inl ⟨by rfl, ?_⟩) hS ?_
        rotate_left
        · intro w hSw; (try dsimp only at hSw); go_simp; try with_reducible rfl
        try simp only [Act.put, List.getElem_toArray, List.getElem_cons_succ, List.getElem_cons_zero, List.setIfInBounds_toArray, List.set_cons_zero, List.set_cons_succ]
        refine wpAnyH_ready (rs := [10]) (by kernel_rfl) (by simp) ?_
        refine AllReadyH.cons rfl (fun K hK => ?_) AllReadyH.nil
        go_simp
        refine (E2.out _).mono ?_; rintro e w' ⟨rfl, rfl⟩
        refine hK.out _ _ hS (fun hS => ?_)
        clear hK K
        try simp only [Act.put, List.getElem_toArray, List.getElem_cons_succ, List.getElem_cons_zero, List.setIfInBounds_toArray, List.set_cons_zero, List.set_cons_succ]
        refine wpAnyH_take (i := 11) (v := ?_) rfl (by as_aux_lemma => kernel_rfl) (by as_aux_lemma => kernel_rfl) (by as_aux_lemma => kernel_rfl) (fun _ _ _ h => h) (Or.inl ⟨by rfl, ?_⟩) hS ?_
        rotate_left
        · intro w hSw; (try dsimp only at hSw); go_simp; try with_reducible rfl
        try simp only [Act.put, List.getElem_toArray, List.getElem_cons_succ, List.getElem_cons_zero, List.setIfInBounds_toArray, List.set_cons_zero, List.set_cons_succ]
        refine wpAnyH_take (i := 12) (v := ?_) rfl (by as_aux_lemma => kernel_rfl) (by as_aux_lemma => kernel_rfl) (by as_aux_lemma => kernel_rfl) (fun _ _ _ h => h) (Or.inl ⟨by rfl, ?_⟩) hS ?_
        rotate_left
        · intro w hSw; (try dsimp only at hSw); go_simp; try with_reducible rfl
        try simp only [Act.put, List.getElem_toArray, List.getElem_cons_succ, List.getElem_cons_zero, List.setIfInBounds_toArray, List.set_cons_zero, List.set_cons_succ]
        refine wpAnyH_ready (rs := [13]) (by kernel_rfl) (by simp) ?_
        refine AllReadyH.cons rfl (fun K hK => ?_) AllReadyH.nil
        go_simp
        have hb : Below wr.drew.heap.size wr.drew (wr.drew.alloc (.cells #[.int .u8 x] 5)) := (Below.refl _ _).alloc (Nat.le_refl _) _; have hSa := hS
        refine hK.out _ _ ?_ (fun hS => ?_)
        · exact below_later hb hS
        clear hK K
        try simp only [Act.put, List.getElem_toArray, List.getElem_cons_succ, List.getElem_cons_zero, List.setIfInBounds_toArray, List.set_cons_zero, List.set_cons_succ]
        refine wpAnyH_ready (rs := [14]) (by kernel_rfl) (by simp) ?_
        refine AllReadyH.cons rfl (fun K hK => ?_) AllReadyH.nil
        (rw [if_pos (by rfl)]; have OW := Lib.hid (ON.out.heap (w' := wr.drew) rfl); refine oper_push (t := tInt .u8) (.tmp 35) (.tmp 48) rfl ei_b8 rfl OW.out 1 rfl x ⟨rfl, IX.out⟩ (by unfold maxLen; have := KI.out; omega) (by have := KI.out; omega) hSa.size (fun b hb => hb.elim) ?_; intro v1 w2 own1 g1 at1; refine hK.out _ _ (hSa.grown g1 hSa.size (fun k h => (OW.out.lt k h).1)) (fun hS => ?_))
        clear hK K
        try simp only [Act.put, List.getElem_toArray, List.getElem_cons_succ, List.getElem_cons_zero, List.setIfInBounds_toArray, List.set_cons_zero, List.set_cons_succ]
        refine wpAnyH_take (i := 15) (v := ?_) rfl (by as_aux_lemma => kernel_rfl) (by as_aux_lemma => kernel_rfl) (by as_aux_lemma => kernel_rfl) (fun _ _ _ h => h) (Or.inl ⟨by rfl, ?_⟩) hS ?_
        rotate_left
        · intro w hSw; (try dsimp only at hSw); go_simp; try with_reducible rfl
        try simp only [Act.put, List.getElem_toArray, List.getElem_cons_succ, List.getElem_cons_zero, List.setIfInBounds_toArray, List.set_cons_zero, List.set_cons_succ]
        refine wpAnyH_done (by kernel_rfl) ?_ _
        have F9 := Lib.hid hS
        clear hS hSa hb
        go_wp2_with fail
        exact ⟨⟨k + 1, j + 1, o ++ [x], by have := KI.out; have := HJ.out; omega, by have := KI.out; have := NM.out; have := HJ.out; omega, by have := HJ.out; go_num, HU2.out, own1, F9.out⟩, by have := HJ.out; simp [intOf]; omega⟩
    · obtain rfl : i = N := by omega
      have RV := Lib.hid (show r = some o by rw [HV.out, show M = k by have := KI.out; have := NM.out; omega]; exact HU.out)
      obtain ⟨A1, c1, rfl, sl⟩ := ON.out.sl (S' := bin w.heap.size wr.heap.size) (by decide) (fun b h1 h2 => ⟨h1, h2⟩) (fun _ h => h.elim)
      have SL := Lib.hid sl
      clear sl
      go_wp2_with fail
      go_ret2
      rw [RV.out]
      exact ⟨A1, k, c1, rfl, SL.out, FR.out.out⟩
end Go.Proofs.YthnhknomjepijaaDoor
