/-
  Numbers in writing, the document's (layer 44): Number.
  Conditions: at most 2^40 bytes.
-/
import Derived.Test.YthnhknomjepijaaDoorOpD
namespace Go.Proofs.YthnhknomjepijaaDoor
set_option linter.unusedVariables false
set_option linter.unusedSimpArgs false
open Go Go.RowKit Go.ChangeShapes Go.WideShapes
set_option maxRecDepth 100000
set_option maxHeartbeats 4000000

theorem decF_le {l : List UInt8} : ∀ {a n : Nat}, a ≤ 9223372036854775809 → decF a l = some n → n ≤ 9223372036854775809 := by
  induction l with
  | nil => intro a n ha h; cases h; exact ha
  | cons c l ih =>
    intro a n ha h
    unfold decF at h
    split at h
    · cases h
    · exact ih (by omega) h
theorem at_list {s : ByteArray} {i : Nat} (h : i < s.size) : s.data.toList.drop i = (s[i]'h) :: s.data.toList.drop (i + 1) := by
  rw [List.drop_eq_getElem_cons (h := by simpa using h)]; rfl
theorem lenS (s : ByteArray) : s.data.toList.length = s.size := by rw [Array.length_toList]; rfl
theorem numD_minus {l : List UInt8} (h : l.head? = some 45) : numD l = if l.length = 1 ∨ 20 < l.length ∨ l.tail.head? = some 48 then none else (decF 0 l.tail).bind fun n => if n ≤ 9223372036854775808 then some (-(n : Int)) else none := by
  unfold numD; rw [if_pos h]
theorem numD_plus {l : List UInt8} (h : ¬ l.head? = some 45) : numD l = if l.length = 0 ∨ 20 < l.length ∨ (l.head? = some 48 ∧ 1 < l.length) then none else (decF 0 l).bind fun n => if 9223372036854775807 < n then none else some (n : Int) := by
  unfold numD; rw [if_neg h]

theorem ropNumber_any (s : ByteArray) (w : World) (hn : s.size ≤ 1099511627776) :
    Calls Tryd.prog 18 #[.string s] w (RetN (numD s.data.toList) w) := by
  obtain ⟨r, hr⟩ : ∃ r, numD s.data.toList = r := ⟨_, rfl⟩
  rw [hr]
  have FR := Lib.hid (Far.refl w)
  have HR := Lib.hid hr.symm
  clear hr
  by_cases c0 : s.size = 0
  · obtain rfl := size0 c0
    have RV := Lib.hid (show r = none by rw [HR.out]; rfl)
    clear c0
    go_enter Tryd.func18, Tryd.ntmps18
    go_wp2_with fail
    go_ret2
    rw [RV.out]
    exact ⟨rfl, FR.out.out⟩
  have hs0 : 0 < s.size := by omega
  have te : s.toList.isEmpty = false := sempty_ne c0
  have HS := Lib.hid (show s.data.toList.head? = some (s[0]'hs0) by rw [← List.drop_zero (l := s.data.toList), at_list hs0]; rfl)
  obtain ⟨N, hN⟩ : ∃ N, s.size = N := ⟨_, rfl⟩
  have LN := Lib.hid ((lenS s).trans hN)
  rw [hN] at hn c0
  have p0 : (0 : Int) < (N : Int) := by omega
  by_cases c45 : (s[0]'hs0) = 45
  · have t0 : (((s[0]'hs0).toNat : Int) == 45) = true := by rw [c45]; rfl
    rw [numD_minus (by rw [HS.out, c45]), LN.out] at HR
    clear c45
    by_cases c1 : N = 1
    · have p1 : ((N : Int) == 1) = true := by simp [c1]
      have RV := Lib.hid (show r = none by rw [HR.out, if_pos (.inl c1)])
      clear c1
      go_enter Tryd.func18, Tryd.ntmps18
      go_wp2_with fail
      go_ret2
      rw [RV.out]
      exact ⟨rfl, FR.out.out⟩
    have p1 : ((N : Int) == 1) = false := by simpa using (by omega : ¬ (N : Int) = 1)
    by_cases c2 : 20 < N
    · have p2 : (20 : Int) < (N : Int) := by omega
      have RV := Lib.hid (show r = none by rw [HR.out, if_pos (.inr (.inl c2))])
      clear c2
      go_enter Tryd.func18, Tryd.ntmps18
      go_wp2_with fail
      go_ret2
      rw [RV.out]
      exact ⟨rfl, FR.out.out⟩
    have p2 : ¬ (20 : Int) < (N : Int) := by omega
    have h1 : 1 < s.size := by omega
    have p3 : (1 : Int) < (N : Int) := by omega
    have HT := Lib.hid (show s.data.toList.tail = s.data.toList.drop 1 by simp)
    have T0 := Lib.hid (show s.data.toList.tail.head? = some (s[1]'h1) by rw [HT.out, at_list h1]; rfl)
    by_cases c3 : (s[1]'h1) = 48
    · have t3 : (((s[1]'h1).toNat : Int) == 48) = true := by rw [c3]; rfl
      have RV := Lib.hid (show r = none by rw [HR.out, if_pos (.inr (.inr (by rw [T0.out, c3])))])
      clear c3
      go_enter Tryd.func18, Tryd.ntmps18
      go_wp2_with fail
      go_ret2
      rw [RV.out]
      exact ⟨rfl, FR.out.out⟩
    have t3 : (((s[1]'h1).toNat : Int) == 48) = false := by simpa using fun e => c3 (UInt8.toNat_inj.1 (by have e48 : (48 : UInt8).toNat = 48 := rfl; have e45 : (45 : UInt8).toNat = 45 := rfl; omega))
    rw [if_neg (by rw [T0.out]; intro h; rcases h with h | h | h; omega; omega; exact c3 (Option.some.inj h))] at HR
    rw [HT.out] at HR
    clear c1 c2 c3
    go_enter Tryd.func18, Tryd.ntmps18
    go_wp2_with fail
    go_loopw [6, 7] (fun a ii wr => ∃ (n i : Nat), 1 ≤ i ∧ i ≤ N ∧ a = .int .u64 n ∧ ii = .int .i64 i ∧ n ≤ 9223372036854775809 ∧ decF 0 (s.data.toList.drop 1) = decF n (s.data.toList.drop i) ∧ Below w.heap.size w wr) (fun _ ii _ => N - (intOf ii).toNat)
    case atStart => exact ⟨0, 1, Nat.le_refl _, by omega, rfl, rfl, by omega, rfl, FR.out.out⟩
    case round =>
      obtain ⟨n, i, hf, hi, rfl, rfl, hn9, hd, hb⟩ := hrel
      have FR : Hid (Far w wr) := Lib.hid ⟨hb⟩
      have HD := Lib.hid hd
      have NB := Lib.hid hn9
      clear hb hd
      by_cases hlt : i < N
      · have q1 : (i : Int) < (N : Int) := by omega
        have his : i < s.size := by omega
        have AL := Lib.hid (at_list his)
        obtain ⟨c, hc⟩ : ∃ c, (s[i]'his) = c := ⟨_, rfl⟩
        rw [AL.out, hc] at HD
        have cb : c.toNat < 256 := c.toNat_lt
        have HD2 := Lib.hid (show decF 0 (s.data.toList.drop 1) = if c.toNat < 48 ∨ 57 < c.toNat ∨ 922337203685477580 < n then none else decF (10 * n + (c.toNat - 48)) (s.data.toList.drop (i + 1)) from HD.out.trans rfl)
        have gi : IntKind.i64.wrap ((i : Int) + 1) = ((i + 1 : Nat) : Int) := (IntWalk.i64_in _ (by omega)).trans (by simp)
        have hcI : ((s[i]'his).toNat : Int) = (c.toNat : Int) := by rw [hc]
        obtain ⟨m, hm⟩ : ∃ m, c.toNat = m := ⟨_, rfl⟩
        rw [hm] at hcI HD2 cb
        clear hc hm HD AL
        by_cases q : m < 48 ∨ 57 < m ∨ 922337203685477580 < n
        · have RV := Lib.hid (show r = none by rw [HR.out, HD2.out, if_pos q]; rfl)
          have qb : (decide ((m : Int) < 48) || decide ((57 : Int) < (m : Int)) || decide ((922337203685477580 : Int) < (n : Int))) = true := by
            simp only [Bool.or_eq_true, decide_eq_true_eq]; omega
          obtain ⟨b1, hb1⟩ : ∃ b, decide ((m : Int) < 48) = b := ⟨_, rfl⟩
          obtain ⟨b2, hb2⟩ : ∃ b, decide ((57 : Int) < (m : Int)) = b := ⟨_, rfl⟩
          obtain ⟨b3, hb3⟩ : ∃ b, decide ((922337203685477580 : Int) < (n : Int)) = b := ⟨_, rfl⟩
          rw [hb1, hb2, hb3] at qb
          clear q HD2
          rcases b1 with _ | _
          · rcases b2 with _ | _
            · rcases b3 with _ | _
              · cases qb
              · clear qb
                go_wp2_with fail
                go_ret2
                rw [RV.out]
                exact ⟨rfl, FR.out.out⟩
            · clear qb
              go_wp2_with fail
              go_ret2
              rw [RV.out]
              exact ⟨rfl, FR.out.out⟩
          · clear qb
            go_wp2_with fail
            go_ret2
            rw [RV.out]
            exact ⟨rfl, FR.out.out⟩
        · rw [if_neg q] at HD2
          have b1 : decide ((m : Int) < 48) = false := by simp; omega
          have b2 : decide ((57 : Int) < (m : Int)) = false := by simp; omega
          have b3 : decide ((922337203685477580 : Int) < (n : Int)) = false := by simp; omega
          obtain ⟨x, hx⟩ : ∃ x : Nat, m - 48 = x := ⟨_, rfl⟩
          have g1 : IntKind.u64.wrap (10 * (n : Int)) = ((10 * n : Nat) : Int) := (IntWalk.u64_in _ (by omega)).trans (by omega)
          have g2 : IntKind.u8.wrap ((m : Int) - 48) = (x : Int) := (IntWalk.u8_in _ (by omega)).trans (by omega)
          have g3 : IntKind.u64.wrap (x : Int) = (x : Int) := IntWalk.u64_in _ (by omega)
          obtain ⟨y, hy⟩ : ∃ y : Nat, 10 * n = y := ⟨_, rfl⟩
          rw [hy] at g1
          have g4 : IntKind.u64.wrap ((y : Int) + (x : Int)) = ((y + x : Nat) : Int) := (IntWalk.u64_in _ (by omega)).trans (by omega)
          obtain ⟨z, hz⟩ : ∃ z : Nat, y + x = z := ⟨_, rfl⟩
          rw [hz] at g4
          rw [hx, hy, hz] at HD2
          have ZB := Lib.hid (show z ≤ 9223372036854775809 by omega)
          clear q hx hy hz hn9
          go_wp2_with fail
          exact ⟨⟨z, i + 1, by omega, by omega, rfl, by go_num, ZB.out, HD2.out, FR.out.out⟩, by simp [intOf]; omega⟩
      · obtain rfl : i = N := by omega
        rw [List.drop_of_length_le (i := i) (by rw [lenS]; omega)] at HD
        have HD2 := Lib.hid (show decF 0 (s.data.toList.drop 1) = some n from HD.out)
        rw [HD2.out] at HR
        by_cases c4 : n ≤ 9223372036854775808
        · have q4 : (n : Int) ≤ 9223372036854775808 := by omega
          have RV := Lib.hid (show r = some (-(n : Int)) by rw [HR.out]; exact if_pos c4)
          obtain ⟨b, hb⟩ : ∃ b : Int, (n : Int) - 1 = b := ⟨_, rfl⟩
          obtain ⟨a, e1, e2⟩ : ∃ a : Int, IntKind.u64.wrap ((n : Int) - 1) = a ∧ IntKind.i64.wrap a = b := ⟨_, rfl, by
            by_cases c5 : n = 0
            · rw [← hb, c5]; decide
            · rw [IntWalk.u64_in _ (by omega), hb]; exact IntWalk.i64_in _ (by omega)⟩
          have e3 : IntKind.i64.wrap (-b) = -b := IntWalk.i64_in _ (by omega)
          have e4 : IntKind.i64.wrap (-b - 1) = -(n : Int) := (IntWalk.i64_in _ (by omega)).trans (by omega)
          clear c4 hn9 hb
          go_wp2_with fail
          go_ret2
          rw [RV.out]
          exact ⟨rfl, FR.out.out⟩
        · have q4 : ¬ (n : Int) ≤ 9223372036854775808 := by omega
          have RV := Lib.hid (show r = none by rw [HR.out]; exact if_neg c4)
          clear c4 hn9
          go_wp2_with fail
          go_ret2
          rw [RV.out]
          exact ⟨rfl, FR.out.out⟩
  · have t0 : (((s[0]'hs0).toNat : Int) == 45) = false := by simpa using fun e => c45 (UInt8.toNat_inj.1 (by have e48 : (48 : UInt8).toNat = 48 := rfl; have e45 : (45 : UInt8).toNat = 45 := rfl; omega))
    rw [numD_plus (by rw [HS.out]; exact fun h => c45 (Option.some.inj h)), LN.out] at HR
    clear c45
    have p1 : ((N : Int) == 0) = false := by simpa using (by omega : ¬ (N : Int) = 0)
    by_cases c2 : 20 < N
    · have p2 : (20 : Int) < (N : Int) := by omega
      have RV := Lib.hid (show r = none by rw [HR.out, if_pos (.inr (.inl c2))])
      clear c2
      go_enter Tryd.func18, Tryd.ntmps18
      go_wp2_with fail
      go_ret2
      rw [RV.out]
      exact ⟨rfl, FR.out.out⟩
    have p2 : ¬ (20 : Int) < (N : Int) := by omega
    by_cases c3 : (s[0]'hs0) = 48 ∧ 1 < N
    · have t3 : (((s[0]'hs0).toNat : Int) == 48) = true := by rw [c3.1]; rfl
      have p3 : (1 : Int) < (N : Int) := by omega
      have RV := Lib.hid (show r = none by rw [HR.out, if_pos (.inr (.inr ⟨by rw [HS.out, c3.1], c3.2⟩))])
      clear c3
      go_enter Tryd.func18, Tryd.ntmps18
      go_wp2_with fail
      go_ret2
      rw [RV.out]
      exact ⟨rfl, FR.out.out⟩
    rw [if_neg (by rw [HS.out]; intro h; rcases h with h | h | h; omega; omega; exact c3 ⟨Option.some.inj h.1, h.2⟩)] at HR
    rw [show s.data.toList = s.data.toList.drop 0 from rfl] at HR
    have C3 := Lib.hid c3
    clear c2 c3
    go_enter Tryd.func18, Tryd.ntmps18
    by_cases c3 : (s[0]'hs0) = 48
    · have t3 : (((s[0]'hs0).toNat : Int) == 48) = true := by rw [c3]; rfl
      have p3 : ¬ (1 : Int) < (N : Int) := fun h => C3.out ⟨c3, by omega⟩
      clear c3
      go_wp2_with fail
      go_loopw [6, 7] (fun a ii wr => ∃ (n i : Nat), 0 ≤ i ∧ i ≤ N ∧ a = .int .u64 n ∧ ii = .int .i64 i ∧ n ≤ 9223372036854775809 ∧ decF 0 (s.data.toList.drop 0) = decF n (s.data.toList.drop i) ∧ Below w.heap.size w wr) (fun _ ii _ => N - (intOf ii).toNat)
      case atStart => exact ⟨0, 0, Nat.le_refl _, by omega, rfl, rfl, by omega, rfl, FR.out.out⟩
      case round =>
        obtain ⟨n, i, hf, hi, rfl, rfl, hn9, hd, hb⟩ := hrel
        have FR : Hid (Far w wr) := Lib.hid ⟨hb⟩
        have HD := Lib.hid hd
        have NB := Lib.hid hn9
        clear hb hd
        by_cases hlt : i < N
        · have q1 : (i : Int) < (N : Int) := by omega
          have his : i < s.size := by omega
          have AL := Lib.hid (at_list his)
          obtain ⟨c, hc⟩ : ∃ c, (s[i]'his) = c := ⟨_, rfl⟩
          rw [AL.out, hc] at HD
          have cb : c.toNat < 256 := c.toNat_lt
          have HD2 := Lib.hid (show decF 0 (s.data.toList.drop 0) = if c.toNat < 48 ∨ 57 < c.toNat ∨ 922337203685477580 < n then none else decF (10 * n + (c.toNat - 48)) (s.data.toList.drop (i + 1)) from HD.out.trans rfl)
          have gi : IntKind.i64.wrap ((i : Int) + 1) = ((i + 1 : Nat) : Int) := (IntWalk.i64_in _ (by omega)).trans (by simp)
          have hcI : ((s[i]'his).toNat : Int) = (c.toNat : Int) := by rw [hc]
          obtain ⟨m, hm⟩ : ∃ m, c.toNat = m := ⟨_, rfl⟩
          rw [hm] at hcI HD2 cb
          clear hc hm HD AL
          by_cases q : m < 48 ∨ 57 < m ∨ 922337203685477580 < n
          · have RV := Lib.hid (show r = none by rw [HR.out, HD2.out, if_pos q]; rfl)
            have qb : (decide ((m : Int) < 48) || decide ((57 : Int) < (m : Int)) || decide ((922337203685477580 : Int) < (n : Int))) = true := by
              simp only [Bool.or_eq_true, decide_eq_true_eq]; omega
            obtain ⟨b1, hb1⟩ : ∃ b, decide ((m : Int) < 48) = b := ⟨_, rfl⟩
            obtain ⟨b2, hb2⟩ : ∃ b, decide ((57 : Int) < (m : Int)) = b := ⟨_, rfl⟩
            obtain ⟨b3, hb3⟩ : ∃ b, decide ((922337203685477580 : Int) < (n : Int)) = b := ⟨_, rfl⟩
            rw [hb1, hb2, hb3] at qb
            clear q HD2
            rcases b1 with _ | _
            · rcases b2 with _ | _
              · rcases b3 with _ | _
                · cases qb
                · clear qb
                  go_wp2_with fail
                  go_ret2
                  rw [RV.out]
                  exact ⟨rfl, FR.out.out⟩
              · clear qb
                go_wp2_with fail
                go_ret2
                rw [RV.out]
                exact ⟨rfl, FR.out.out⟩
            · clear qb
              go_wp2_with fail
              go_ret2
              rw [RV.out]
              exact ⟨rfl, FR.out.out⟩
          · rw [if_neg q] at HD2
            have b1 : decide ((m : Int) < 48) = false := by simp; omega
            have b2 : decide ((57 : Int) < (m : Int)) = false := by simp; omega
            have b3 : decide ((922337203685477580 : Int) < (n : Int)) = false := by simp; omega
            obtain ⟨x, hx⟩ : ∃ x : Nat, m - 48 = x := ⟨_, rfl⟩
            have g1 : IntKind.u64.wrap (10 * (n : Int)) = ((10 * n : Nat) : Int) := (IntWalk.u64_in _ (by omega)).trans (by omega)
            have g2 : IntKind.u8.wrap ((m : Int) - 48) = (x : Int) := (IntWalk.u8_in _ (by omega)).trans (by omega)
            have g3 : IntKind.u64.wrap (x : Int) = (x : Int) := IntWalk.u64_in _ (by omega)
            obtain ⟨y, hy⟩ : ∃ y : Nat, 10 * n = y := ⟨_, rfl⟩
            rw [hy] at g1
            have g4 : IntKind.u64.wrap ((y : Int) + (x : Int)) = ((y + x : Nat) : Int) := (IntWalk.u64_in _ (by omega)).trans (by omega)
            obtain ⟨z, hz⟩ : ∃ z : Nat, y + x = z := ⟨_, rfl⟩
            rw [hz] at g4
            rw [hx, hy, hz] at HD2
            have ZB := Lib.hid (show z ≤ 9223372036854775809 by omega)
            clear q hx hy hz hn9
            go_wp2_with fail
            exact ⟨⟨z, i + 1, by omega, by omega, rfl, by go_num, ZB.out, HD2.out, FR.out.out⟩, by simp [intOf]; omega⟩
        · obtain rfl : i = N := by omega
          rw [List.drop_of_length_le (i := i) (by rw [lenS]; omega)] at HD
          have HD2 := Lib.hid (show decF 0 (s.data.toList.drop 0) = some n from HD.out)
          rw [HD2.out] at HR
          by_cases c4 : ¬ 9223372036854775807 < n
          · have q4 : ¬ (9223372036854775807 : Int) < (n : Int) := by omega
            have RV := Lib.hid (show r = some (n : Int) by rw [HR.out]; exact if_neg c4)
            have e1 : IntKind.i64.wrap (n : Int) = (n : Int) := IntWalk.i64_in _ (by omega)
            clear c4 hn9
            go_wp2_with fail
            go_ret2
            rw [RV.out]
            exact ⟨rfl, FR.out.out⟩
          · have q4 : (9223372036854775807 : Int) < (n : Int) := by omega
            have RV := Lib.hid (show r = none by rw [HR.out]; exact if_pos (by omega))
            clear c4 hn9
            go_wp2_with fail
            go_ret2
            rw [RV.out]
            exact ⟨rfl, FR.out.out⟩
    · have t3 : (((s[0]'hs0).toNat : Int) == 48) = false := by simpa using fun e => c3 (UInt8.toNat_inj.1 (by have e48 : (48 : UInt8).toNat = 48 := rfl; have e45 : (45 : UInt8).toNat = 45 := rfl; omega))
      clear c3
      go_wp2_with fail
      go_loopw [6, 7] (fun a ii wr => ∃ (n i : Nat), 0 ≤ i ∧ i ≤ N ∧ a = .int .u64 n ∧ ii = .int .i64 i ∧ n ≤ 9223372036854775809 ∧ decF 0 (s.data.toList.drop 0) = decF n (s.data.toList.drop i) ∧ Below w.heap.size w wr) (fun _ ii _ => N - (intOf ii).toNat)
      case atStart => exact ⟨0, 0, Nat.le_refl _, by omega, rfl, rfl, by omega, rfl, FR.out.out⟩
      case round =>
        obtain ⟨n, i, hf, hi, rfl, rfl, hn9, hd, hb⟩ := hrel
        have FR : Hid (Far w wr) := Lib.hid ⟨hb⟩
        have HD := Lib.hid hd
        have NB := Lib.hid hn9
        clear hb hd
        by_cases hlt : i < N
        · have q1 : (i : Int) < (N : Int) := by omega
          have his : i < s.size := by omega
          have AL := Lib.hid (at_list his)
          obtain ⟨c, hc⟩ : ∃ c, (s[i]'his) = c := ⟨_, rfl⟩
          rw [AL.out, hc] at HD
          have cb : c.toNat < 256 := c.toNat_lt
          have HD2 := Lib.hid (show decF 0 (s.data.toList.drop 0) = if c.toNat < 48 ∨ 57 < c.toNat ∨ 922337203685477580 < n then none else decF (10 * n + (c.toNat - 48)) (s.data.toList.drop (i + 1)) from HD.out.trans rfl)
          have gi : IntKind.i64.wrap ((i : Int) + 1) = ((i + 1 : Nat) : Int) := (IntWalk.i64_in _ (by omega)).trans (by simp)
          have hcI : ((s[i]'his).toNat : Int) = (c.toNat : Int) := by rw [hc]
          obtain ⟨m, hm⟩ : ∃ m, c.toNat = m := ⟨_, rfl⟩
          rw [hm] at hcI HD2 cb
          clear hc hm HD AL
          by_cases q : m < 48 ∨ 57 < m ∨ 922337203685477580 < n
          · have RV := Lib.hid (show r = none by rw [HR.out, HD2.out, if_pos q]; rfl)
            have qb : (decide ((m : Int) < 48) || decide ((57 : Int) < (m : Int)) || decide ((922337203685477580 : Int) < (n : Int))) = true := by
              simp only [Bool.or_eq_true, decide_eq_true_eq]; omega
            obtain ⟨b1, hb1⟩ : ∃ b, decide ((m : Int) < 48) = b := ⟨_, rfl⟩
            obtain ⟨b2, hb2⟩ : ∃ b, decide ((57 : Int) < (m : Int)) = b := ⟨_, rfl⟩
            obtain ⟨b3, hb3⟩ : ∃ b, decide ((922337203685477580 : Int) < (n : Int)) = b := ⟨_, rfl⟩
            rw [hb1, hb2, hb3] at qb
            clear q HD2
            rcases b1 with _ | _
            · rcases b2 with _ | _
              · rcases b3 with _ | _
                · cases qb
                · clear qb
                  go_wp2_with fail
                  go_ret2
                  rw [RV.out]
                  exact ⟨rfl, FR.out.out⟩
              · clear qb
                go_wp2_with fail
                go_ret2
                rw [RV.out]
                exact ⟨rfl, FR.out.out⟩
            · clear qb
              go_wp2_with fail
              go_ret2
              rw [RV.out]
              exact ⟨rfl, FR.out.out⟩
          · rw [if_neg q] at HD2
            have b1 : decide ((m : Int) < 48) = false := by simp; omega
            have b2 : decide ((57 : Int) < (m : Int)) = false := by simp; omega
            have b3 : decide ((922337203685477580 : Int) < (n : Int)) = false := by simp; omega
            obtain ⟨x, hx⟩ : ∃ x : Nat, m - 48 = x := ⟨_, rfl⟩
            have g1 : IntKind.u64.wrap (10 * (n : Int)) = ((10 * n : Nat) : Int) := (IntWalk.u64_in _ (by omega)).trans (by omega)
            have g2 : IntKind.u8.wrap ((m : Int) - 48) = (x : Int) := (IntWalk.u8_in _ (by omega)).trans (by omega)
            have g3 : IntKind.u64.wrap (x : Int) = (x : Int) := IntWalk.u64_in _ (by omega)
            obtain ⟨y, hy⟩ : ∃ y : Nat, 10 * n = y := ⟨_, rfl⟩
            rw [hy] at g1
            have g4 : IntKind.u64.wrap ((y : Int) + (x : Int)) = ((y + x : Nat) : Int) := (IntWalk.u64_in _ (by omega)).trans (by omega)
            obtain ⟨z, hz⟩ : ∃ z : Nat, y + x = z := ⟨_, rfl⟩
            rw [hz] at g4
            rw [hx, hy, hz] at HD2
            have ZB := Lib.hid (show z ≤ 9223372036854775809 by omega)
            clear q hx hy hz hn9
            go_wp2_with fail
            exact ⟨⟨z, i + 1, by omega, by omega, rfl, by go_num, ZB.out, HD2.out, FR.out.out⟩, by simp [intOf]; omega⟩
        · obtain rfl : i = N := by omega
          rw [List.drop_of_length_le (i := i) (by rw [lenS]; omega)] at HD
          have HD2 := Lib.hid (show decF 0 (s.data.toList.drop 0) = some n from HD.out)
          rw [HD2.out] at HR
          by_cases c4 : ¬ 9223372036854775807 < n
          · have q4 : ¬ (9223372036854775807 : Int) < (n : Int) := by omega
            have RV := Lib.hid (show r = some (n : Int) by rw [HR.out]; exact if_neg c4)
            have e1 : IntKind.i64.wrap (n : Int) = (n : Int) := IntWalk.i64_in _ (by omega)
            clear c4 hn9
            go_wp2_with fail
            go_ret2
            rw [RV.out]
            exact ⟨rfl, FR.out.out⟩
          · have q4 : (9223372036854775807 : Int) < (n : Int) := by omega
            have RV := Lib.hid (show r = none by rw [HR.out]; exact if_pos (by omega))
            clear c4 hn9
            go_wp2_with fail
            go_ret2
            rw [RV.out]
            exact ⟨rfl, FR.out.out⟩
end Go.Proofs.YthnhknomjepijaaDoor
