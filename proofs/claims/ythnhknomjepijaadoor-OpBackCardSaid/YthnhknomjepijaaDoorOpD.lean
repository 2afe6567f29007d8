/-
  Numbers in writing, the document's (layer 44): whole, Digits.
  Conditions: none.
-/
import Derived.Test.YthnhknomjepijaaDoorOpC
namespace Go.Proofs.YthnhknomjepijaaDoor
set_option linter.unusedVariables false
set_option linter.unusedSimpArgs false
open Go Go.RowKit Go.ChangeShapes Go.WideShapes
set_option maxRecDepth 100000
set_option maxHeartbeats 4000000

theorem str1 (d : Nat) : strOfNums [((48 + d : Nat) : Int)] = ⟨#[UInt8.ofNat (48 + d)]⟩ := rfl
theorem dec_small {n : Nat} (h : n < 10) : Lib.decDigits n = [UInt8.ofNat (48 + n)] := by rw [Lib.decDigits, dif_pos h]
theorem dec_step {n : Nat} (h : ¬ n < 10) : Lib.decDigits n = Lib.decDigits (n / 10) ++ [UInt8.ofNat (48 + n % 10)] := by rw [Lib.decDigits, dif_neg h]

theorem str_app (l r : List UInt8) : ((⟨l.toArray⟩ : ByteArray) ++ (⟨r.toArray⟩ : ByteArray)) = ⟨(l ++ r).toArray⟩ := by apply ByteArray.ext; rw [ByteArray.data_append]; simp
/-- One digit as a string: the world behind it, and the string. -/
theorem digW (d : Nat) (hd : d < 10) (w : World) : ∃ w1, w.alloc (.cells #[.int .u8 ((48 + d : Nat) : Int)] 5) = w1 ∧ Below w.heap.size w w1 ∧
    ∀ dst, Tryd.prog.underlying dst = some .string → (convert 22 dst (.slice (some ⟨w.heap.size, 0, none⟩) 1 1)).run Tryd.prog w1 = .ok (.string ⟨#[UInt8.ofNat (48 + d)]⟩) w1 :=
  ⟨_, rfl, (Below.refl _ _).alloc (Nat.le_refl _) _, by
    have B := Blk.now w _ 5 #[.int .u8 ((48 + d : Nat) : Int)] rfl
    have sl : Sl (tInt .u8) _ (blo (w.alloc (.cells #[.int .u8 ((48 + d : Nat) : Int)] 5)).heap.size) (some ⟨w.heap.size, 0, none⟩) 1 1 [((48 + d : Nat) : Int)] :=
      Sl.lit _ B.heap rfl (by intro x hx; simp only [List.mem_cons, List.not_mem_nil, or_false] at hx; subst hx; show InK .u8 _; rw [inK_u8]; omega) B.lt rfl rfl (by unfold maxLen; simp)
    rw [← str1]
    exact run_convert_bytes_arg _ 22 5 Tryd.underlying22 Tryd.underlying5 _ 0 1 1 _ sl.n_eq (fun i hi => by
        obtain ⟨b2, o2, hA, -, -, cz, -⟩ := sl.int_at i hi
        cases hA
        exact cz)⟩

theorem ropWhole_any (n0 : Nat) (w : World) (hn : n0 ≤ 9223372036854775808) :
    Calls Tryd.prog 37 #[.int .u64 n0] w fun e w' => e = .returned (.string ⟨(Lib.decDigits n0).toArray⟩) ∧ Below w.heap.size w w' := by
  have FR := Lib.hid (Far.refl w)
  obtain ⟨d, hd⟩ : ∃ d, n0 % 10 = d := ⟨_, rfl⟩
  have dl : d < 10 := by omega
  have r1 : (n0 : Int).tmod 10 = (d : Int) := by rw [← hd, Int.tmod_eq_emod_of_nonneg (by omega)]; simp
  have r3 : (n0 : Int) % 10 = (d : Int) := by rw [← hd]; simp
  have r2 : IntKind.u64.wrap (d : Int) = (d : Int) := IntWalk.u64_in _ (by omega)
  obtain ⟨c, hc⟩ : ∃ c : Nat, 48 + d = c := ⟨_, rfl⟩
  have r4 : IntKind.u64.wrap (48 + (d : Int)) = (c : Int) := (IntWalk.u64_in _ (by omega)).trans (by omega)
  have r5 : IntKind.u8.wrap (c : Int) = (c : Int) := IntWalk.u8_in _ (by omega)
  obtain ⟨w1, hw1, hb, KC⟩ := digW d dl w
  rw [hc] at hw1 KC
  replace FR := Lib.hid (FR.out.fut hb)
  obtain ⟨s, hs⟩ : ∃ s : ByteArray, ⟨#[UInt8.ofNat c]⟩ = s := ⟨_, rfl⟩
  rw [hs] at KC
  have HS := Lib.hid (show s = ⟨(UInt8.ofNat (48 + n0 % 10) :: []).toArray⟩ by rw [← hs, hd, hc])
  have HN := Lib.hid hn
  clear hb hs hd dl hc hn
  go_enter Tryd.func37, Tryd.ntmps37
  go_wp2_with fail
  go_loopw [0, 3] (fun a b wr => ∃ (n : Nat) (t : List UInt8), n ≤ n0 ∧ a = .int .u64 n ∧ b = .string ⟨(UInt8.ofNat (48 + n % 10) :: t).toArray⟩ ∧ Lib.decDigits n0 = Lib.decDigits (n / 10 * 10 + n % 10) ++ t ∧ Below w.heap.size w wr) (fun a _ _ => (intOf a).toNat)
  case atStart => exact ⟨n0, [], Nat.le_refl _, rfl, by rw [HS.out], by rw [List.append_nil]; congr 1; omega, FR.out.out⟩
  case round =>
    obtain ⟨n, t, hle, rfl, rfl, ht, hb⟩ := hrel
    rw [show n / 10 * 10 + n % 10 = n by omega] at ht
    have FR : Hid (Far w wr) := Lib.hid ⟨hb⟩
    have HT := Lib.hid ht
    have HL := Lib.hid hle
    clear hb ht hle r1 r3 r2 r4 r5 hw1 KC HS
    by_cases hlt : 9 < n
    · have p1 : (9 : Int) < (n : Int) := by omega
      obtain ⟨q, hq⟩ : ∃ q, n / 10 = q := ⟨_, rfl⟩
      obtain ⟨d, hd⟩ : ∃ d, q % 10 = d := ⟨_, rfl⟩
      have ql := Lib.hid (show q < n by omega)
      have qm := Lib.hid (show q < 18446744073709551616 by have := HL.out; have := HN.out; omega)
      have dl : d < 10 := by omega
      have r8 : (n : Int).tdiv 10 = (q : Int) := by rw [← hq, Int.tdiv_eq_ediv_of_nonneg (by omega)]; simp
      have r6 : (n : Int) / 10 = (q : Int) := by rw [← hq]; simp
      have r7 : IntKind.u64.wrap (q : Int) = (q : Int) := IntWalk.u64_in _ (by have := qm.out; omega)
      have r1 : (q : Int).tmod 10 = (d : Int) := by rw [← hd, Int.tmod_eq_emod_of_nonneg (by omega)]; simp
      have r3 : (q : Int) % 10 = (d : Int) := by rw [← hd]; simp
      have r2 : IntKind.u64.wrap (d : Int) = (d : Int) := IntWalk.u64_in _ (by omega)
      obtain ⟨c, hc⟩ : ∃ c : Nat, 48 + d = c := ⟨_, rfl⟩
      have r4 : IntKind.u64.wrap (48 + (d : Int)) = (c : Int) := (IntWalk.u64_in _ (by omega)).trans (by omega)
      have r5 : IntKind.u8.wrap (c : Int) = (c : Int) := IntWalk.u8_in _ (by omega)
      obtain ⟨w1, hw1, hb, KC⟩ := digW d dl wr
      rw [hc] at hw1 KC
      replace FR := Lib.hid (FR.out.fut hb)
      have HT2 := Lib.hid (show Lib.decDigits n0 = Lib.decDigits q ++ (UInt8.ofNat (48 + n % 10) :: t) by rw [HT.out, dec_step (n := n) (by omega), hq]; simp)
      obtain ⟨s, hs⟩ : ∃ s : ByteArray, ⟨(UInt8.ofNat (48 + n % 10) :: t).toArray⟩ = s := ⟨_, rfl⟩
      obtain ⟨s1, hs1⟩ : ∃ s : ByteArray, ⟨#[UInt8.ofNat c]⟩ = s := ⟨_, rfl⟩
      rw [hs1] at KC
      rw [hs]
      have HS := Lib.hid (show (s1 ++ s : ByteArray) = ⟨(UInt8.ofNat (48 + q % 10) :: UInt8.ofNat (48 + n % 10) :: t).toArray⟩ by rw [← hs, ← hs1, hd, hc, show (⟨#[UInt8.ofNat c]⟩ : ByteArray) = ⟨[UInt8.ofNat c].toArray⟩ from rfl, str_app]; rfl)
      have sz : ¬ 9223372036854775807 < s1.size + s.size := by
        have e1 : s1.size = 1 := by rw [← hs1]; rfl
        have e2 : s.size = t.length + 1 := by rw [← hs]; rfl
        have e3 := decDigits_len n0 HN.out
        rw [HT2.out] at e3
        simp at e3
        omega
      clear hb hs hd dl hc hq hlt hs1
      go_wp2_with fail
      exact ⟨⟨q, UInt8.ofNat (48 + n % 10) :: t, by have := HL.out; have := ql.out; omega, rfl, by rw [← HS.out], by rw [show q / 10 * 10 + q % 10 = q by omega]; exact HT2.out, FR.out.out⟩, by have := ql.out; simp [intOf]; omega⟩
    · have p1 : ¬ (9 : Int) < (n : Int) := by omega
      have HT2 := Lib.hid (show (⟨(UInt8.ofNat (48 + n % 10) :: t).toArray⟩ : ByteArray) = ⟨(Lib.decDigits n0).toArray⟩ by rw [HT.out, dec_small (n := n) (by omega), Nat.mod_eq_of_lt (by omega)]; rfl)
      rw [HT2.out]
      clear hlt
      go_wp2_with fail
      go_ret
      exact ⟨rfl, FR.out.out⟩

theorem ropDigits_any (n : Int) (w : World) (hn : InK .i64 n) :
    Calls Tryd.prog 23 #[.int .i64 n] w fun e w' => e = .returned (.string ⟨(Lib.itoa n).toArray⟩) ∧ Below w.heap.size w w' := by
  rw [inK_i64] at hn
  by_cases c : 0 ≤ n
  · obtain ⟨k, rfl⟩ : ∃ k : Nat, n = k := ⟨n.toNat, by omega⟩
    have W := Lib.hid (ropWhole_any k w (by omega))
    have r1 : IntKind.u64.wrap (k : Int) = (k : Int) := IntWalk.u64_in _ (by omega)
    have p1 : decide ((0 : Int) ≤ (k : Int)) = true := by simp
    have HV := Lib.hid (show Lib.itoa (k : Int) = Lib.decDigits k by unfold Lib.itoa; rw [if_neg (by omega)]; simp)
    clear c
    go_enter Tryd.func23, Tryd.ntmps23
    go_wp2_with (go_at_call 37; refine W.out.mono ?_; rintro e w' ⟨rfl, hb⟩)
    go_ret
    exact ⟨by rw [HV.out] <;> rfl, hb⟩
  · obtain ⟨k, hk⟩ : ∃ k : Nat, -(n + 1) = k := ⟨(-(n + 1)).toNat, by omega⟩
    have W := Lib.hid (ropWhole_any (k + 1) w (by omega))
    have p1 : decide ((0 : Int) ≤ n) = false := by simpa using c
    obtain ⟨m, hm⟩ : ∃ m, n + 1 = m := ⟨_, rfl⟩
    have r1 : IntKind.i64.wrap (n + 1) = m := (IntWalk.i64_in _ (by omega)).trans hm
    have r2 : IntKind.i64.wrap (-m) = (k : Int) := (IntWalk.i64_in _ (by omega)).trans (by omega)
    have r3 : IntKind.u64.wrap (k : Int) = (k : Int) := IntWalk.u64_in _ (by omega)
    have r4 : IntKind.u64.wrap ((k : Int) + 1) = ((k + 1 : Nat) : Int) := (IntWalk.u64_in _ (by omega)).trans (by simp)
    have HV := Lib.hid (show (⟨#[45]⟩ : ByteArray) ++ ⟨(Lib.decDigits (k + 1)).toArray⟩ = ⟨(Lib.itoa n).toArray⟩ by
      unfold Lib.itoa; rw [if_pos (by omega), show n.natAbs = k + 1 by omega, show (⟨#[45]⟩ : ByteArray) = ⟨[45].toArray⟩ from rfl, str_app]; rfl)
    obtain ⟨s, hs⟩ : ∃ s : ByteArray, ⟨(Lib.decDigits (k + 1)).toArray⟩ = s := ⟨_, rfl⟩
    rw [hs] at W HV
    have sz : ¬ 9223372036854775807 < 1 + s.size := by
      have e3 := decDigits_len (k + 1) (by omega)
      have e2 : s.size = (Lib.decDigits (k + 1)).length := by rw [← hs]; rfl
      omega
    clear hk hm hn c hs
    go_enter Tryd.func23, Tryd.ntmps23
    go_wp2_with (go_at_call 37; refine W.out.mono ?_; rintro e w' ⟨rfl, hb⟩)
    go_ret
    exact ⟨by rw [← HV.out] <;> rfl, hb⟩
end Go.Proofs.YthnhknomjepijaaDoor
