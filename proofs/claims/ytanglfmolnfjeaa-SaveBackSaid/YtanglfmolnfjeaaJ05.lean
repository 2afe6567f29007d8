/-
  Numbers read off bytes (layer 6): leb.Get.
  Conditions: none.
-/
import Derived.Test.YtanglfmolnfjeaaChecked
import Derived.Test.YtanglfmolnfjeaaJ02
import Derived.Test.YtanglfmolnfjeaaJ04
namespace Go.Proofs.Ytanglfmolnfjeaa
set_option linter.unusedVariables false
set_option linter.unusedSimpArgs false
open Go.RowKit Go.ChangeShapes Go.WideShapes
set_option maxRecDepth 100000
set_option maxHeartbeats 4000000

theorem shl_7 (P : Program) (x k : Nat) (hk : k ≤ 9) (hx : x * 128 ^ k < 18446744073709551616) (t : TypeId) (w : World) : (binOp .shl t (.int .u64 (x : Int)) (.int .i64 (7 * (k : Int)))).run P w = .ok (.int .u64 ((x * 128 ^ k : Nat) : Int)) w := by
  rw [binOp_shl, shift_shl_any _ _ _ _ (by omega)]
  have e : (7 * (k : Int)).toNat = 7 * k := by omega
  rw [e, show IntKind.u64.bits = 64 from rfl, Nat.min_eq_left (by omega)]
  have e2 : (x : Int) * 2 ^ (7 * k) = ((x * 128 ^ k : Nat) : Int) := by
    rw [show (128 : Nat) = 2 ^ 7 from rfl, ← Nat.pow_mul]
    simp
  rw [e2]
  obtain ⟨y, hy⟩ : ∃ y, x * 128 ^ k = y := ⟨_, rfl⟩
  rw [hy] at hx ⊢
  have : IntKind.u64.wrap (y : Int) = (y : Int) := by
    simp only [IntKind.wrap, IntKind.signed, IntKind.bits]
    simp
    omega
  rw [this]
  rfl

/-- What a number that is read hands back. -/
def RetLeb (v : Nat × Nat × Int) (e : Ending) : Prop := e = .returned (.tuple #[.int .u64 (v.1 : Int), .int .i64 (v.2.1 : Int), .int .i64 v.2.2])

theorem lebGet_any (A : Option Addr) (n cap : Nat) (l : List Int) (w : World) (hs : Sl (tInt .u8) w (blo w.heap.size) A n cap l) :
    Calls Try.prog 53 #[.slice A n cap] w fun e w' => RetLeb (lebGetV l) e ∧ w' = w := by
  have hm : n ≤ 9223372036854775807 := Nat.le_trans hs.cap_le hs.max_le
  have H := Lib.hid hs
  have HN := Lib.hid hs.n_eq
  obtain ⟨r, hr⟩ : ∃ r, lebGetV l = r := ⟨_, rfl⟩
  have HR := Lib.hid hr
  rw [hr]
  clear hs hr
  go_enter Try.func53, Try.ntmps53
  go_wp2_with fail
  go_step3
  go_wp2_with fail
  go_step3
  go_wp2_with fail
  go_loopw [5, 6, 11] (fun x s i wr => ∃ k : Nat, k ≤ 9 ∧ k ≤ n ∧ i = .int .i64 k ∧ s = .int .i64 0 ∧ x = .int .u64 (lebSum l k : Nat) ∧ (∀ j, j < k → 128 ≤ l.getD j 0) ∧ wr = w) (fun _ _ i _ => n - (intOf i).toNat)
  case atStart => exact ⟨0, Nat.zero_le _, Nat.zero_le _, rfl, rfl, rfl, fun j hj => absurd hj (Nat.not_lt_zero _), rfl⟩
  case round =>
    obtain ⟨k, hk, hkn, rfl, rfl, rfl, hbig, rfl⟩ := hrel
    have HB := Lib.hid hbig
    clear hbig
    by_cases hlt : k < n
    · have p1 : (k : Int) < (n : Int) := by omega
      obtain ⟨b, off, rfl, _, _, c0, i0⟩ := H.out.int_at k hlt
      have hkl : k < l.length := by rw [HN.out]; exact hlt
      have HL := Lib.hid hkl
      have HS := Lib.hid (show lebSum l (k + 1) = lebSum l k + ((l.getD k 0) % 128).toNat * 128 ^ k from rfl)
      have HC := Lib.hid (rfl : l.getD k 0 = l.getD k 0)
      have sk := lebSum_lt l k
      have SK := Lib.hid sk
      obtain ⟨c, hc⟩ : ∃ c, l.getD k 0 = c := ⟨_, rfl⟩
      rw [hc] at c0 i0 HS
      have HC := Lib.hid hc
      rw [inK_u8] at i0
      obtain ⟨i1, i2⟩ := i0
      clear hc hkl sk
      by_cases ha : k = 9 ∧ 1 < c
      · obtain ⟨rfl, hc1⟩ := ha
        have R := Lib.hid (show r = (0, 0, 21) by rw [← HR.out]; exact lebGetV_nine HL.out (by rw [HC.out]; exact hc1) HB.out)
        have t1 : decide (1 < c) = true := by simp [hc1]
        clear HS SK HC hk hkn hlt
        go_wp2_with fail
        go_ret3
        exact ⟨by rw [R.out]; rfl, by trivial⟩
      · have K9 := Lib.hid (show k = 9 → 0 ≤ c ∧ c ≤ 1 from fun e => ⟨i1, by have := fun h => ha ⟨e, h⟩; omega⟩)
        have TS := Lib.hid (show (((k : Int) == 9) = true ∧ decide (1 < c) = false ∨ ((k : Int) == 9) = false) from by
          by_cases e : k = 9
          · left; have := K9.out e; subst e; simp; omega
          · right; simp; omega)
        clear ha
        by_cases hz : c < 128 ∧ c = 0 ∧ 0 < k
        · obtain ⟨_, rfl, hk0⟩ := hz
          have R := Lib.hid (show r = (0, 0, 21) by rw [← HR.out]; rw [lebGetV_at hk HL.out (by rw [HC.out]; omega) HB.out, if_pos (.inr ⟨hk0, HC.out⟩)])
          have t4 : decide (0 < (k : Int)) = true := by simp; omega
          have t5 : decide (0 < k) = true := by simp; omega
          clear HS SK
          rcases TS.out with ⟨s1, s2⟩ | s1
          all_goals (
            clear TS HC K9 HL HB
            go_wp2_with fail
            go_ret3
            exact ⟨by rw [R.out]; rfl, by trivial⟩)
        · have KZ := Lib.hid (show ¬ ((k = 9 ∧ 1 < l.getD 9 0) ∨ (0 < k ∧ l.getD k 0 = 0)) ∨ 128 ≤ c from by
            by_cases q : c < 128
            · left
              rintro (⟨e, h⟩ | ⟨e, h⟩)
              · subst e; rw [HC.out] at h; have := (K9.out rfl).2; omega
              · rw [HC.out] at h; exact hz ⟨q, h, e⟩
            · right; omega)
          have TZ := Lib.hid (show (decide (c < 128) = false ∨ decide (c < 128) = true ∧ (c == 0) = false ∨ decide (c < 128) = true ∧ (c == 0) = true ∧ decide (0 < (k : Int)) = false) from by
            by_cases q : c < 128
            · by_cases q2 : c = 0
              · right; right; subst q2; simp; omega
              · right; left; simp; omega
            · left; simp; omega)
          obtain ⟨d, hd⟩ : ∃ d, (c % 128).toNat = d := ⟨_, rfl⟩
          have a7 : bits .and .u8 c 127 = (d : Int) := by rw [and_127 c i1 i2]; omega
          have d1 : d ≤ 127 := by omega
          rw [hd] at HS
          have ltop := lebSum_top l k hk (fun e => by have := K9.out e; subst e; rw [HC.out]; exact this)
          rw [HS.out] at ltop
          have SH := Lib.hid (fun t w => shl_7 Try.prog d k hk (by omega) t w)
          have ho := or_u64 (lebSum l k) (d * 128 ^ k) (by omega) (by omega)
          rw [or_add _ _ _ SK.out] at ho
          obtain ⟨y, hy⟩ : ∃ y, d * 128 ^ k = y := ⟨_, rfl⟩
          rw [hy] at ho ltop HS SH
          have HB2 := Lib.hid (show 128 ≤ c → ∀ j, j < k + 1 → 128 ≤ l.getD j 0 from fun q j hj => by
            by_cases e : j = k
            · subst e; rw [HC.out]; exact q
            · exact HB.out j (by omega))
          have RA := Lib.hid (show c < 128 → r = (lebSum l (k + 1), k + 1, 0) from fun q => by
            rw [← HR.out, lebGetV_at hk HL.out (by rw [HC.out]; exact q) HB.out, if_neg]
            rcases KZ.out with h | h
            · exact h
            · omega)
          have N9 := Lib.hid (show 128 ≤ c → k + 1 ≤ 9 from fun q => by
            by_cases e : k = 9
            · have := (K9.out e).2; omega
            · omega)
          have ZS := Lib.hid HS.out.symm
          obtain ⟨a, hae⟩ : ∃ y, lebSum l k = y := ⟨_, rfl⟩
          rw [hae] at ho ltop HS ZS
          rw [hae]
          obtain ⟨z, hz2⟩ : ∃ z, a + y = z := ⟨_, rfl⟩
          rw [hz2] at ho ltop ZS
          clear hae hy hz2 HS hd KZ SK HC K9 hz HL
          rcases TS.out with ⟨s1, s2⟩ | s1
          all_goals (
            rcases TZ.out with t1 | ⟨t1, t2⟩ | ⟨t1, t2, t3⟩
            · have q : 128 ≤ c := by simpa using t1
              clear TS TZ
              go_wp2_with (refine wpList_op2 rfl .shl _ _ (.tmp 37) (.tmp 39) rfl (.int .u64 (d : Int)) (.int .i64 (7 * (k : Int))) (.int .u64 (y : Int)) rfl rfl (fun _ => rfl) (fun _ => SH.out _ _) ?_; simp only [Act.put, List.getElem_toArray, List.getElem_cons_succ, List.getElem_cons_zero, List.setIfInBounds_toArray, List.set_cons_zero, List.set_cons_succ])
              exact ⟨⟨k + 1, N9.out q, by omega, by go_num, rfl, by rw [← ZS.out], HB2.out q, by trivial⟩, by simp [intOf]; omega⟩
            · have q : c < 128 := by simpa using t1
              have R := Lib.hid (RA.out q)
              have k1 : ((k : Int) + 1 == 0) = false := by simp; omega
              clear TS TZ HB2 N9 RA
              go_wp2_with (refine wpList_op2 rfl .shl _ _ (.tmp 37) (.tmp 39) rfl (.int .u64 (d : Int)) (.int .i64 (7 * (k : Int))) (.int .u64 (y : Int)) rfl rfl (fun _ => rfl) (fun _ => SH.out _ _) ?_; simp only [Act.put, List.getElem_toArray, List.getElem_cons_succ, List.getElem_cons_zero, List.setIfInBounds_toArray, List.set_cons_zero, List.set_cons_succ])
              go_ret3
              exact ⟨by rw [R.out, ← ZS.out]; rfl, by trivial⟩
            · have q : c < 128 := by simpa using t1
              have R := Lib.hid (RA.out q)
              have k1 : ((k : Int) + 1 == 0) = false := by simp; omega
              have t4 : decide (0 < k) = false := by simp at t3 ⊢; omega
              clear TS TZ HB2 N9 RA
              go_wp2_with (refine wpList_op2 rfl .shl _ _ (.tmp 37) (.tmp 39) rfl (.int .u64 (d : Int)) (.int .i64 (7 * (k : Int))) (.int .u64 (y : Int)) rfl rfl (fun _ => rfl) (fun _ => SH.out _ _) ?_; simp only [Act.put, List.getElem_toArray, List.getElem_cons_succ, List.getElem_cons_zero, List.setIfInBounds_toArray, List.set_cons_zero, List.set_cons_succ])
              go_ret3
              exact ⟨by rw [R.out, ← ZS.out]; rfl, by trivial⟩)
    · obtain rfl : k = n := by omega
      have R := Lib.hid (show r = (0, 0, 20) by rw [← HR.out]; exact lebGetV_short (by rw [HN.out]; omega) (by rw [HN.out]; exact HB.out))
      clear hlt hkn
      go_wp2_with fail
      rw [Exit.noGoto_ret]
      go_ret3
      exact ⟨by rw [R.out]; rfl, by trivial⟩
end Go.Proofs.Ytanglfmolnfjeaa
