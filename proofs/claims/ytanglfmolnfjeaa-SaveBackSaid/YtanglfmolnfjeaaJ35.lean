/-
  Numbers read off bytes (layer 6): the document's Get.
  Conditions: none.
-/
import Derived.Test.YtanglfmolnfjeaaChecked
import Derived.Test.YtanglfmolnfjeaaJ05
namespace Go.Proofs.Ytanglfmolnfjeaa
set_option linter.unusedVariables false
set_option linter.unusedSimpArgs false
open Go.RowKit Go.ChangeShapes Go.WideShapes
set_option maxRecDepth 100000
set_option maxHeartbeats 4000000

/-- Where the first byte below 128 lies, as far as k. -/
def lebFirst (j k : Nat) : Int := if k ≤ j then -1 else (j : Int)

theorem rlebGet_none (A : Option Addr) (n cap : Nat) (l : List Int) (w : World) (hs : Sl (tInt .u8) w (blo w.heap.size) A n cap l) (hbig : ∀ j, j < 10 → j < n → 128 ≤ l.getD j 0) :
    Calls Try.prog 48 #[.slice A n cap] w fun e w' => RetLeb (lebGetV l) e ∧ w' = w := by
  have hm : n ≤ 9223372036854775807 := Nat.le_trans hs.cap_le hs.max_le
  have H := Lib.hid hs
  have HN := Lib.hid hs.n_eq
  have HB := Lib.hid hbig
  obtain ⟨r, hr⟩ : ∃ r, lebGetV l = r := ⟨_, rfl⟩
  have HR := Lib.hid hr
  rw [hr]
  clear hs hr hbig
  go_enter Try.func48, Try.ntmps48
  go_wp2_with fail
  go_loopw [5, 6] (fun x i wr => ∃ k : Nat, k ≤ 10 ∧ k ≤ n ∧ i = .int .i64 k ∧ x = .int .i64 (-1) ∧ wr = w) (fun _ i _ => n - (intOf i).toNat)
  case atStart => exact ⟨0, Nat.zero_le _, Nat.zero_le _, rfl, rfl, rfl⟩
  case round =>
    obtain ⟨k, hk, hkn, rfl, rfl, rfl⟩ := hrel
    by_cases hlt : k < n ∧ k < 10
    · obtain ⟨hl1, hl2⟩ := hlt
      have p1 : (k : Int) < (n : Int) := by omega
      have p2 : (k : Int) < 10 := by omega
      obtain ⟨b, off, rfl, _, _, c0, i0⟩ := H.out.int_at k hl1
      have q := HB.out k hl2 hl1
      obtain ⟨c, hc⟩ : ∃ c, l.getD k 0 = c := ⟨_, rfl⟩
      rw [hc] at c0 i0 q
      rw [inK_u8] at i0
      obtain ⟨i1, i2⟩ := i0
      have t1 : decide (c < 128) = false := by simp; omega
      clear hc
      go_wp2_with fail
      exact ⟨⟨k + 1, by omega, by omega, by go_num, rfl, by trivial⟩, by simp [intOf]; omega⟩
    · by_cases hn : n < 10
      · obtain rfl : k = n := by omega
        have hn' : k ≤ 9 := by omega
        have R := Lib.hid (show r = (0, 0, 20) by rw [← HR.out]; exact lebGetV_short (by rw [HN.out]; exact hn) (fun j hj => by rw [HN.out] at hj; exact HB.out j (by omega) hj))
        have t1 : decide (10 ≤ (k : Int)) = false := by simp; omega
        clear hlt hkn hk
        go_wp2_with fail
        go_ret3
        exact ⟨by rw [R.out]; rfl, by trivial⟩
      · obtain rfl : k = 10 := by omega
        have R := Lib.hid (show r = (0, 0, 21) by rw [← HR.out]; exact lebGetV_form ⟨fun j hj => HB.out j hj (by omega), by rw [HN.out]; omega⟩)
        have t1 : decide (10 ≤ (n : Int)) = true := by simp; omega
        clear hlt hk
        go_wp2_with fail
        all_goals go_ret3
        all_goals exact ⟨by rw [R.out]; rfl, by trivial⟩

theorem rlebGet_some (j : Nat) (hj9 : j ≤ 9) (A : Option Addr) (n cap : Nat) (l : List Int) (w : World) (hs : Sl (tInt .u8) w (blo w.heap.size) A n cap l) (hjn : j < n) (hsm : l.getD j 0 < 128) (hbig : ∀ i, i < j → 128 ≤ l.getD i 0) :
    Calls Try.prog 48 #[.slice A n cap] w fun e w' => RetLeb (lebGetV l) e ∧ w' = w := by
  have hm : n ≤ 9223372036854775807 := Nat.le_trans hs.cap_le hs.max_le
  have H := Lib.hid hs
  have HN := Lib.hid hs.n_eq
  have HB := Lib.hid hbig
  have HS := Lib.hid hsm
  obtain ⟨r, hr⟩ : ∃ r, lebGetV l = r := ⟨_, rfl⟩
  have HR := Lib.hid (show r = if (j = 9 ∧ 1 < l.getD 9 0) ∨ (0 < j ∧ l.getD j 0 = 0) then (0, 0, 21) else (lebSum l (j + 1), j + 1, 0) by rw [← hr, lebGetV_at hj9 (by rw [hs.n_eq]; exact hjn) hsm hbig])
  rw [hr]
  clear hs hr hbig hsm
  go_enter Try.func48, Try.ntmps48
  go_wp2_with fail
  go_loopw [5, 6] (fun x i wr => ∃ k : Nat, k ≤ 10 ∧ k ≤ n ∧ i = .int .i64 k ∧ x = .int .i64 (lebFirst j k) ∧ wr = w) (fun _ i _ => n - (intOf i).toNat)
  case atStart => exact ⟨0, Nat.zero_le _, Nat.zero_le _, rfl, by simp [lebFirst], rfl⟩
  case round =>
    obtain ⟨k, hk, hkn, rfl, rfl, rfl⟩ := hrel
    by_cases hlt : k < n ∧ k < 10
    · obtain ⟨hl1, hl2⟩ := hlt
      have p1 : (k : Int) < (n : Int) := by omega
      have p2 : (k : Int) < 10 := by omega
      obtain ⟨b, off, rfl, _, _, c0, i0⟩ := H.out.int_at k hl1
      have LA := Lib.hid (show lebFirst j k = if k ≤ j then -1 else (j : Int) from rfl)
      have LB := Lib.hid (show lebFirst j (k + 1) = if k + 1 ≤ j then -1 else (j : Int) from rfl)
      have QB := Lib.hid (HB.out k)
      have QS := Lib.hid (show k = j → l.getD k 0 < 128 from fun e => by rw [e]; exact HS.out)
      obtain ⟨c, hc⟩ : ∃ c, l.getD k 0 = c := ⟨_, rfl⟩
      rw [hc] at c0 i0 QB QS
      rw [inK_u8] at i0
      obtain ⟨i1, i2⟩ := i0
      clear hc
      obtain ⟨f, hf⟩ : ∃ f, lebFirst j k = f := ⟨_, rfl⟩
      rw [hf] at LA ⊢
      clear hf
      by_cases q1 : k < j
      · have fe : f = -1 := by rw [LA.out, if_pos (by omega)]
        subst fe
        have q := QB.out q1
        have L2 := Lib.hid (show lebFirst j (k + 1) = -1 by rw [LB.out, if_pos (by omega)])
        have t1 : decide (c < 128) = false := by simp; omega
        clear LA LB QB QS
        go_wp2_with fail
        exact ⟨⟨k + 1, by omega, by omega, by go_num, by rw [L2.out], by trivial⟩, by simp [intOf]; omega⟩
      · by_cases q2 : k = j
        · have fe : f = -1 := by rw [LA.out, if_pos (by omega)]
          subst fe
          have q := QS.out q2
          have L2 := Lib.hid (show lebFirst j (k + 1) = (k : Int) by rw [LB.out, if_neg (by omega), q2])
          have t1 : decide (c < 128) = true := by simp; omega
          clear LA LB QB QS q2
          go_wp2_with fail
          exact ⟨⟨k + 1, by omega, by omega, by go_num, by rw [L2.out], by trivial⟩, by simp [intOf]; omega⟩
        · have fe : f = (j : Int) := by rw [LA.out, if_neg (by omega)]
          have L2 := Lib.hid (show lebFirst j (k + 1) = f by rw [LB.out, if_neg (by omega), fe])
          have t1 : decide (f < 0) = false := by simp; omega
          have b1 : 0 ≤ f := by omega
          clear LA LB QB QS q2 fe
          go_wp2_with fail
          exact ⟨⟨k + 1, by omega, by omega, by go_num, by rw [L2.out], by trivial⟩, by simp [intOf]; omega⟩
    · have LE := Lib.hid (show lebFirst j k = (j : Int) by unfold lebFirst; rw [if_neg (by omega)])
      rw [LE.out]
      have T1 := Lib.hid (show (decide ((k : Int) < (n : Int)) && decide ((k : Int) < 10)) = false by simp; omega)
      clear LE
      have BD := Lib.hid (show ∀ i, 0 ≤ l.getD i 0 ∧ l.getD i 0 ≤ 255 from fun i => by have := H.out.allK i; rw [inK_u8] at this; exact this)
      have HX := Lib.hid (show k = n ∨ k = 10 from by omega)
      obtain ⟨b, off, rfl, _, _, cj, ij⟩ := H.out.int_at j hjn
      have CK := Lib.hid (fun (w' : Nat) (h : w' < n) => H.out.int_at w' h)
      obtain ⟨c, hc⟩ : ∃ c, l.getD j 0 = c := ⟨_, rfl⟩
      have HC := Lib.hid hc
      rw [hc] at cj ij HS
      have C9 := Lib.hid (show j = 9 → wr.cell? ⟨b, off + 9, none⟩ = some (.int .u8 c) from fun e => by have h := cj; rw [e] at h; exact h)
      rw [inK_u8] at ij
      obtain ⟨i1, i2⟩ := ij
      have n9 : j = 9 → decide (10 ≤ (n : Int)) = true := fun e => by simp; omega
      clear hc hlt T1
      have hj0 : decide ((j : Int) < 0) = false := by simp
      have NX := Lib.hid (show ((k : Int) < n → ¬ (k : Int) < 10) from by rcases HX.out with h | h <;> omega)
      by_cases hA : j = 9 ∧ 1 < c
      · obtain ⟨rfl, h1⟩ := hA
        have R := Lib.hid (show r = (0, 0, 21) by rw [HR.out, if_pos (.inl ⟨rfl, by rw [HC.out]; exact h1⟩)])
        have m9 := n9 rfl
        have t1 : decide (1 < c) = true := by simp [h1]
        clear HR n9 HC C9
        rcases HX.out with rfl | rfl
        all_goals clear HX NX
        all_goals go_wp2_with fail
        all_goals first | (exfalso; omega) | skip
        all_goals go_ret3
        all_goals exact ⟨by rw [R.out]; rfl, by trivial⟩
      · have TS := Lib.hid (show ((j : Int) == 9) = true ∧ decide (1 < c) = false ∧ j = 9 ∨ ((j : Int) == 9) = false from by
          by_cases e : j = 9
          · left; have := fun h => hA ⟨e, h⟩; exact ⟨by subst e; simp, by simpa using this, e⟩
          · right; first | (simp; done) | (simp; omega))
        have N1 := Lib.hid (show ¬ (j = 9 ∧ 1 < l.getD 9 0) from fun h => hA ⟨h.1, by have := h.2; rw [← h.1, HC.out] at this; exact this⟩)
        clear hA
        by_cases hB : 0 < j ∧ c = 0
        · obtain ⟨h1, rfl⟩ := hB
          have R := Lib.hid (show r = (0, 0, 21) by rw [HR.out, if_pos (.inr ⟨h1, HC.out⟩)])
          have t1 : decide (0 < (j : Int)) = true := by simp; omega
          have t2 : decide (0 < j) = true := by simp; omega
          rcases TS.out with ⟨s1, s2, e9⟩ | s1
          · have m9 := n9 e9
            have c9 := C9.out e9
            have q9 : 9 ≤ j := by omega
            clear HR n9 C9 TS N1 HC e9
            rcases HX.out with rfl | rfl
            all_goals clear HX NX
            all_goals go_wp2_with fail
            all_goals first | (exfalso; omega) | skip
            all_goals go_ret3
            all_goals exact ⟨by rw [R.out]; rfl, by trivial⟩
          · clear HR n9 C9 TS N1 HC
            rcases HX.out with rfl | rfl
            all_goals clear HX NX
            all_goals go_wp2_with fail
            all_goals first | (exfalso; omega) | skip
            all_goals go_ret3
            all_goals exact ⟨by rw [R.out]; rfl, by trivial⟩
        · have R := Lib.hid (show r = (lebSum l (j + 1), j + 1, 0) by rw [HR.out, if_neg (by rintro (h | ⟨h, h'⟩); exact N1.out h; rw [HC.out] at h'; exact hB ⟨h, h'⟩)])
          have TZ := Lib.hid (show decide (0 < (j : Int)) = false ∧ decide (0 < j) = false ∨ decide (0 < (j : Int)) = true ∧ decide (0 < j) = true ∧ (c == 0) = false from by
            by_cases e : 0 < j
            · right; have := fun h => hB ⟨e, h⟩; exact ⟨by simp; omega, by simp; omega, by simp; omega⟩
            · left; exact ⟨by simp; omega, by simp; omega⟩)
          have lt := lebSum_top l j hj9 (fun e => ⟨(BD.out 9).1, Int.not_lt.1 fun h => N1.out ⟨e, h⟩⟩)
          obtain ⟨t, ht⟩ : ∃ t, lebSum l (j + 1) = t := ⟨_, rfl⟩
          have T := Lib.hid ht
          rw [ht] at lt R
          clear ht hB
          rcases TS.out with ⟨s1, s2, e9⟩ | s1
          · have m9 := n9 e9
            have c9 := C9.out e9
            have q9 : 9 ≤ j := by omega
            clear HR n9 C9 TS N1 HC e9
            rcases TZ.out with ⟨u1, u1'⟩ | ⟨u1, u1', u2⟩
            all_goals clear TZ
            all_goals rcases HX.out with rfl | rfl
            all_goals clear HX NX
            all_goals go_wp2_with fail
            all_goals first | (exfalso; omega) | skip
            all_goals (
            go_loopw [7, 8] (fun x i wx => ∃ m y : Nat, m ≤ j + 1 ∧ i = .int .i64 ((m : Int) - 1) ∧ x = .int .u64 (y : Int) ∧ lebSum l m + y * 128 ^ m = t ∧ wx = wr) (fun _ i _ => (intOf i + 1).toNat)
            case atStart => exact ⟨j + 1, 0, Nat.le_refl _, by go_num, rfl, by rw [← T.out]; omega, rfl⟩
            case round =>
              obtain ⟨m, y, hm1, rfl, rfl, hsum, rfl⟩ := hrel
              have SU := Lib.hid hsum
              by_cases hm0 : 0 < m
              · obtain ⟨i, rfl⟩ : ∃ i, m = i + 1 := ⟨m - 1, by omega⟩
                have e0 : ((i + 1 : Nat) : Int) - 1 = (i : Int) := by omega
                rw [e0]
                have p3 : (0 : Int) ≤ (i : Int) := by omega
                obtain ⟨_, _, ha, _, _, ci, ii⟩ := CK.out i (by omega)
                simp only [Option.some.injEq, Addr.mk.injEq] at ha
                obtain ⟨rfl, rfl, _⟩ := ha
                have ST := Lib.hid (lebSum_step l i y t hsum)
                obtain ⟨c2, hc2⟩ : ∃ x, l.getD i 0 = x := ⟨_, rfl⟩
                rw [hc2] at ci ii ST
                rw [inK_u8] at ii
                obtain ⟨j1, j2⟩ := ii
                obtain ⟨d, hd⟩ : ∃ d : Nat, c2 % 128 = (d : Int) := ⟨(c2 % 128).toNat, by omega⟩
                rw [hd, Int.toNat_natCast] at ST
                have hpos : 0 < 128 ^ i := Nat.pow_pos (by decide)
                have hle : y * 128 + d ≤ t := Nat.le_trans (Nat.le_mul_of_pos_right _ hpos) (Nat.le_trans (Nat.le_add_left _ _) (Nat.le_of_eq ST.out))
                clear hsum SU hc2 hpos
                go_wp2_with fail
                exact ⟨⟨i, y * 128 + d, by omega, by go_num, by go_num, ST.out, by trivial⟩, by first | (simp [intOf]; done) | (simp [intOf]; omega)⟩
              · obtain rfl : m = 0 := by omega
                obtain rfl : y = t := by simpa [lebSum] using hsum
                clear hsum SU
                go_wp2_with fail
                go_ret3
                exact ⟨by rw [R.out]; rfl, by trivial⟩)
          · clear HR n9 C9 TS N1 HC
            rcases TZ.out with ⟨u1, u1'⟩ | ⟨u1, u1', u2⟩
            all_goals clear TZ
            all_goals rcases HX.out with rfl | rfl
            all_goals clear HX NX
            all_goals go_wp2_with fail
            all_goals first | (exfalso; omega) | skip
            all_goals (
            go_loopw [7, 8] (fun x i wx => ∃ m y : Nat, m ≤ j + 1 ∧ i = .int .i64 ((m : Int) - 1) ∧ x = .int .u64 (y : Int) ∧ lebSum l m + y * 128 ^ m = t ∧ wx = wr) (fun _ i _ => (intOf i + 1).toNat)
            case atStart => exact ⟨j + 1, 0, Nat.le_refl _, by go_num, rfl, by rw [← T.out]; omega, rfl⟩
            case round =>
              obtain ⟨m, y, hm1, rfl, rfl, hsum, rfl⟩ := hrel
              have SU := Lib.hid hsum
              by_cases hm0 : 0 < m
              · obtain ⟨i, rfl⟩ : ∃ i, m = i + 1 := ⟨m - 1, by omega⟩
                have e0 : ((i + 1 : Nat) : Int) - 1 = (i : Int) := by omega
                rw [e0]
                have p3 : (0 : Int) ≤ (i : Int) := by omega
                obtain ⟨_, _, ha, _, _, ci, ii⟩ := CK.out i (by omega)
                simp only [Option.some.injEq, Addr.mk.injEq] at ha
                obtain ⟨rfl, rfl, _⟩ := ha
                have ST := Lib.hid (lebSum_step l i y t hsum)
                obtain ⟨c2, hc2⟩ : ∃ x, l.getD i 0 = x := ⟨_, rfl⟩
                rw [hc2] at ci ii ST
                rw [inK_u8] at ii
                obtain ⟨j1, j2⟩ := ii
                obtain ⟨d, hd⟩ : ∃ d : Nat, c2 % 128 = (d : Int) := ⟨(c2 % 128).toNat, by omega⟩
                rw [hd, Int.toNat_natCast] at ST
                have hpos : 0 < 128 ^ i := Nat.pow_pos (by decide)
                have hle : y * 128 + d ≤ t := Nat.le_trans (Nat.le_mul_of_pos_right _ hpos) (Nat.le_trans (Nat.le_add_left _ _) (Nat.le_of_eq ST.out))
                clear hsum SU hc2 hpos
                go_wp2_with fail
                exact ⟨⟨i, y * 128 + d, by omega, by go_num, by go_num, ST.out, by trivial⟩, by first | (simp [intOf]; done) | (simp [intOf]; omega)⟩
              · obtain rfl : m = 0 := by omega
                obtain rfl : y = t := by simpa [lebSum] using hsum
                clear hsum SU
                go_wp2_with fail
                go_ret3
                exact ⟨by rw [R.out]; rfl, by trivial⟩)
theorem rlebGet_any (A : Option Addr) (n cap : Nat) (l : List Int) (w : World) (hs : Sl (tInt .u8) w (blo w.heap.size) A n cap l) :
    Calls Try.prog 48 #[.slice A n cap] w fun e w' => RetLeb (lebGetV l) e ∧ w' = w := by
  cases he : lebEnd l 10 0 with
  | none => exact rlebGet_none A n cap l w hs fun j h1 h2 => lebEnd_none 10 he j (Nat.zero_le _) (by omega) (by rw [hs.n_eq]; exact h2)
  | some j =>
    obtain ⟨a, b, c, d, e⟩ := lebEnd_some 10 he
    exact rlebGet_some j (by omega) A n cap l w hs (by rw [← hs.n_eq]; exact c) d fun i hi => e i (Nat.zero_le _) hi
end Go.Proofs.Ytanglfmolnfjeaa
