/-
  slices' symMerge at []int: two rows in order, one behind the other, become one row in order.
  Conditions: within the row; fewer than 2^60 elements; the test agrees with a strict order between the two rows.
-/
import Derived.Test.YtlbijkafcododaaChecked
import Derived.Test.YtlbijkafcododaaStabB
import Derived.Shelf.SlSortCmp.Insertion1
namespace Go.Proofs.Ytlbijkafcododaa
set_option linter.unusedVariables false
set_option linter.unusedSimpArgs false
open Go.RowKit Go.ChangeShapes Go.WideShapes Go.Shelf Go.Lib Go.Sort Go.Proofs.Ytlbijkafcododaa.Sta
set_option maxRecDepth 100000
variable {α : Type} [Inhabited α]

set_option maxHeartbeats 4000000 in
theorem symMerge_left (enc : α → Value) (cf : α → α → Int) (L : α → α → Bool) (hT : Tr L) (hA : As L) (g : Nat) (cb : Array Value) (blk off cap : Nat) (d0 : Array α) (w0 : World)
    (eg : ∀ args w, (callFunc g args).run Try.prog w = .ok (.enter g args) w) (hcmp : CmpLays1 Try.prog g cb enc cf blk off d0.size w0) (R : Row1 enc w0 blk off d0) (hsz : d0.size < 1152921504606846976)
    (a m b : Nat) (d : Array α) (w : World) (hs : d0.size = d.size) (S : SW enc w0 blk off d w)
    (hm : m = a + 1) (h2 : m < b) (h3 : b ≤ d.size) (hB : Asc L m b d) (hX : Cross (ltOf cf) L a m b d) :
    Calls Try.prog 165 #[.slice (some ⟨blk, off, none⟩) d.size cap, .int .i64 a, .int .i64 m, .int .i64 b, .func (.func g) #[] cb] w fun e w' => e = .returned (.tuple #[]) ∧ ∃ d', Merged L a b d d' ∧ SW enc w0 blk off d' w' := by
  have mixed : Try.prog.follows .mixedOrders = true := by kernel_rfl
  have hcl0 := R.hO.cells
  simp only [Value.cells] at hcl0
  have hst := R.hO.store Try.prog
  have S0 : Aside (SW enc w0 blk off d w) := S
  have HC : Aside _ := hcmp
  have hds : d.size < 1152921504606846976 := by omega
  have HS := Lib.hid hs
  clear S hcmp hs
  have HM := Lib.hid (by rw [hm] at hB hX ⊢; exact mono_one hT hA hB hX : Mono (fun h => ltOf cf d[h]! d[a]!) m b)
  have HF := Lib.hid (fun (i : Nat) (k1 : m ≤ i) (k2 : i ≤ b) (hl : ∀ h, m ≤ h → h < i → ltOf cf d[h]! d[a]! = true) (hr : ∀ h, i ≤ h → h < b → ltOf cf d[h]! d[a]! = false) => (by subst hm; exact merge_one_left h3 hB hX k1 k2 hl hr : Merged L a b d (shiftR d a (i - 1 - a))))
  have e1 : IntKind.i64.wrap ((m : Int) - (a : Int)) = (m : Int) - (a : Int) := IntWalk.i64_in _ (by omega)
  have t0 : ((m : Int) - (a : Int) == 1) = true := by simp; omega
  have hm1 : m ≤ a + 1 := by omega
  have hm2 : a + 1 ≤ m := by omega
  clear hm hB hX hT hA
  go_enter Try.func165, Try.ntmps165
  go_wp2_with fail
  clear e1 t0
  go_loopw [10, 11] (fun vi vj wr => ∃ i j : Nat, vi = .int .i64 i ∧ vj = .int .i64 j ∧ Hid (Bin (fun h => ltOf cf d[h]! d[a]!) m b i j) ∧ Aside (SW enc w0 blk off d wr)) (fun vi vj _ => (intOf vj).toNat - (intOf vi).toNat)
  case atStart => exact ⟨m, b, rfl, rfl, Lib.hid (Bin.start _ _ _ (by omega)), S0⟩
  case round =>
    clear S0
    obtain ⟨i, j, rfl, rfl, HB, SJ⟩ := hrel
    have q1 := HB.out.l
    have q2 := HB.out.m
    have q3 := HB.out.h
    by_cases hlt : i < j
    · have hltz : (i : Int) < (j : Int) := by omega
      cases hlv : (ltOf cf d[(i + j) / 2]! d[a]!) with
      | true =>
        have HL := Lib.hid hlv
        obtain ⟨xN, hxN⟩ : ∃ q, q = (i + j) / 2 := ⟨_, rfl⟩
        obtain ⟨yN, hyN⟩ : ∃ q, q = a := ⟨_, rfl⟩
        have ea : (((i : Int) + (j : Int)) / 2).toNat = xN := by omega
        have pa : (0 : Int) ≤ ((i : Int) + (j : Int)) / 2 := by omega
        have ba : ((i : Int) + (j : Int)) / 2 < (d.size : Int) := by omega
        have ec : ((a : Int)).toNat = yN := by omega
        have pc : (0 : Int) ≤ (a : Int) := by omega
        have bc : (a : Int) < (d.size : Int) := by omega
        obtain ⟨x, hx⟩ : ∃ x, x = d[(i + j) / 2]! := ⟨_, rfl⟩
        obtain ⟨y, hy⟩ : ∃ x, x = d[a]! := ⟨_, rfl⟩
        have l1 := SJ.out.cl R (by rw [HS.out]) ((i + j) / 2) (by omega)
        have l2 := SJ.out.cl R (by rw [HS.out]) (a) (by omega)
        rw [← hx, ← hxN] at l1
        rw [← hy, ← hyN] at l2
        have hc := SJ.out.cmp HC.out (by rw [HS.out]) x y
        have hv : cf x y < 0 := by rw [hx, hy]; exact of_decide_eq_true hlv
        have hd : decide (cf x y < 0) = true := decide_eq_true hv
        clear hx hy hxN hyN hlv
        go_wp2_with fail
        go_quiet_grown (first | (go_at_fn g; refine Calls.grown_of (hc _ _)))
        have S2 : Aside (SW enc w0 blk off d (grow (wr.drewN nq) osq)) := SJ.out.grown nq osq
        clear l1 l2 hc SJ
        generalize grow (wr.drewN nq) osq = w2 at S2 ⊢
        clear nq osq ea ec
        go_wp2_with fail
        exact ⟨⟨(i + j) / 2 + 1, j, by congr 1 <;> omega, rfl, Lib.hid (HB.out.up HM.out (by omega) (by omega) (by exact HL.out)), S2⟩, by simp [intOf]; omega⟩
      | false =>
        have HL := Lib.hid hlv
        obtain ⟨xN, hxN⟩ : ∃ q, q = (i + j) / 2 := ⟨_, rfl⟩
        obtain ⟨yN, hyN⟩ : ∃ q, q = a := ⟨_, rfl⟩
        have ea : (((i : Int) + (j : Int)) / 2).toNat = xN := by omega
        have pa : (0 : Int) ≤ ((i : Int) + (j : Int)) / 2 := by omega
        have ba : ((i : Int) + (j : Int)) / 2 < (d.size : Int) := by omega
        have ec : ((a : Int)).toNat = yN := by omega
        have pc : (0 : Int) ≤ (a : Int) := by omega
        have bc : (a : Int) < (d.size : Int) := by omega
        obtain ⟨x, hx⟩ : ∃ x, x = d[(i + j) / 2]! := ⟨_, rfl⟩
        obtain ⟨y, hy⟩ : ∃ x, x = d[a]! := ⟨_, rfl⟩
        have l1 := SJ.out.cl R (by rw [HS.out]) ((i + j) / 2) (by omega)
        have l2 := SJ.out.cl R (by rw [HS.out]) (a) (by omega)
        rw [← hx, ← hxN] at l1
        rw [← hy, ← hyN] at l2
        have hc := SJ.out.cmp HC.out (by rw [HS.out]) x y
        have hv : ¬ cf x y < 0 := by rw [hx, hy]; exact of_decide_eq_false hlv
        have hd : decide (cf x y < 0) = false := decide_eq_false hv
        clear hx hy hxN hyN hlv
        go_wp2_with fail
        go_quiet_grown (first | (go_at_fn g; refine Calls.grown_of (hc _ _)))
        have S2 : Aside (SW enc w0 blk off d (grow (wr.drewN nq) osq)) := SJ.out.grown nq osq
        clear l1 l2 hc SJ
        generalize grow (wr.drewN nq) osq = w2 at S2 ⊢
        clear nq osq ea ec
        go_wp2_with fail
        exact ⟨⟨i, (i + j) / 2, rfl, by congr 1 <;> omega, Lib.hid (HB.out.down HM.out (by omega) (by omega) (by exact HL.out)), S2⟩, by simp [intOf]; omega⟩
    · obtain rfl : i = j := by omega
      have HF2 := Lib.hid (HF.out i q1 q3 HB.out.yes HB.out.no)
      clear HF HM HB hlt
      have e2 : IntKind.i64.wrap ((i : Int) - 1) = (i : Int) - 1 := IntWalk.i64_in _ (by omega)
      go_wp2_with fail
      go_loopw [13] (fun vk wr => ∃ k : Nat, a ≤ k ∧ k + 1 ≤ i ∧ vk = .int .i64 k ∧ Aside (SW enc w0 blk off (shiftR d a (k - a)) wr)) (fun vk _ => i - (intOf vk).toNat)
      case atStart => exact ⟨a, Nat.le_refl _, by omega, rfl, by rw [Nat.sub_self]; exact SJ⟩
      case round =>
        clear SJ
        obtain ⟨k, p1, p2, rfl, SJ⟩ := hrel
        by_cases hlt : k + 1 < i
        · have hltz : (k : Int) < (i : Int) - 1 := by omega
          have hz : (shiftR d a (k - a)).size = d.size := shiftR_size _ _ _
          have hzl : (shiftR d a (k - a)).size = d0.size := by rw [hz, HS.out]
          have HN := Lib.hid (show shiftR d a (k + 1 - a) = swp (shiftR d a (k - a)) k (k + 1) by rw [show k + 1 - a = (k - a) + 1 by omega, shiftR, show a + (k - a) = k by omega])
          generalize shiftR d a (k - a) = dk at *
          obtain ⟨xN, hxN⟩ : ∃ q, q = k := ⟨_, rfl⟩
          obtain ⟨yN, hyN⟩ : ∃ q, q = k + 1 := ⟨_, rfl⟩
          have ea : ((k : Int)).toNat = xN := by omega
          have pa : (0 : Int) ≤ (k : Int) := by omega
          have ba : (k : Int) < (d.size : Int) := by omega
          have ec : ((k : Int) + 1).toNat = yN := by omega
          have pc : (0 : Int) ≤ (k : Int) + 1 := by omega
          have bc : (k : Int) + 1 < (d.size : Int) := by omega
          have ra : IntKind.i64.wrap ((k : Int)) = (k : Int) := IntWalk.i64_in _ (by omega)
          have rc : IntKind.i64.wrap ((k : Int) + 1) = (k : Int) + 1 := IntWalk.i64_in _ (by omega)
          obtain ⟨x, hx⟩ : ∃ x, x = dk[k]! := ⟨_, rfl⟩
          obtain ⟨y, hy⟩ : ∃ x, x = dk[k + 1]! := ⟨_, rfl⟩
          have S3 : Aside (SW enc w0 blk off (swp dk (k) (k + 1)) ((wr.setCell ⟨blk, off + xN, none⟩ (enc y)).setCell ⟨blk, off + yN, none⟩ (enc x)).drew) := by rw [hxN, hyN, hx, hy]; exact SJ.out.swapped R (k) (k + 1) (by omega) (by omega)
          have c1 := SJ.out.c1 R hzl (k) (by omega)
          have c2 := SJ.out.c1 R hzl (k + 1) (by omega)
          have f1 := SJ.out.f1 R hzl (k) (by omega)
          have f2 := SJ.out.f1 R hzl (k + 1) (by omega)
          obtain ⟨u, c3⟩ := SJ.out.c2 R hzl (k) (k + 1) (by omega) (by omega) (enc y)
          rw [← hyN, ← hxN] at c3
          rw [← hx, ← hxN] at c1
          rw [← hy, ← hyN] at c2
          rw [← hxN] at f1
          rw [← hyN] at f2
          rw [← HN.out] at S3
          clear SJ hx hy hxN hyN hz hzl HN
          go_wp2_with fail
          go_big_region
          clear c1 c2 c3 f1 f2
          generalize ((wr.setCell ⟨blk, off + xN, none⟩ (enc y)).setCell ⟨blk, off + yN, none⟩ (enc x)).drew = w3 at S3 ⊢
          clear ea ec
          go_wp2_with fail
          exact ⟨⟨k + 1, by omega, by omega, by go_num, S3⟩, by simp [intOf]; omega⟩
        · have hltz : ¬ (k : Int) < (i : Int) - 1 := by omega
          go_wp2_with fail
          refine bodyPost_ret (results_none rfl _ _ _) rfl ?_
          exact ⟨rfl, _, HF2.out, by rw [show i - 1 - a = k - a by omega]; exact SJ.out⟩

set_option maxHeartbeats 4000000 in
theorem symMerge_right (enc : α → Value) (cf : α → α → Int) (L : α → α → Bool) (hT : Tr L) (hA : As L) (g : Nat) (cb : Array Value) (blk off cap : Nat) (d0 : Array α) (w0 : World)
    (eg : ∀ args w, (callFunc g args).run Try.prog w = .ok (.enter g args) w) (hcmp : CmpLays1 Try.prog g cb enc cf blk off d0.size w0) (R : Row1 enc w0 blk off d0) (hsz : d0.size < 1152921504606846976)
    (a m b : Nat) (d : Array α) (w : World) (hs : d0.size = d.size) (S : SW enc w0 blk off d w)
    (hb : b = m + 1) (h2 : a + 1 < m) (h3 : b ≤ d.size) (hB : Asc L a m d) (hX : Cross (ltOf cf) L a m b d) :
    Calls Try.prog 165 #[.slice (some ⟨blk, off, none⟩) d.size cap, .int .i64 a, .int .i64 m, .int .i64 b, .func (.func g) #[] cb] w fun e w' => e = .returned (.tuple #[]) ∧ ∃ d', Merged L a b d d' ∧ SW enc w0 blk off d' w' := by
  have mixed : Try.prog.follows .mixedOrders = true := by kernel_rfl
  have hcl0 := R.hO.cells
  simp only [Value.cells] at hcl0
  have hst := R.hO.store Try.prog
  have S0 : Aside (SW enc w0 blk off d w) := S
  have HC : Aside _ := hcmp
  have hds : d.size < 1152921504606846976 := by omega
  have HS := Lib.hid hs
  clear S hcmp hs
  have HM := Lib.hid (by rw [hb] at hX; exact mono_two hT hA hB hX : Mono (fun h => !ltOf cf d[m]! d[h]!) a m)
  have HF := Lib.hid (fun (i : Nat) (k1 : a ≤ i) (k2 : i ≤ m) (hl : ∀ h, a ≤ h → h < i → ltOf cf d[m]! d[h]! = false) (hr : ∀ h, i ≤ h → h < m → ltOf cf d[m]! d[h]! = true) => (by subst hb; exact merge_one_right (by omega) hB hX k1 k2 hl hr : Merged L a b d (shiftL d m (m - i))))
  have e1 : IntKind.i64.wrap ((m : Int) - (a : Int)) = (m : Int) - (a : Int) := IntWalk.i64_in _ (by omega)
  have t0 : ((m : Int) - (a : Int) == 1) = false := by simp; omega
  have e2 : IntKind.i64.wrap ((b : Int) - (m : Int)) = (b : Int) - (m : Int) := IntWalk.i64_in _ (by omega)
  have t2 : ((b : Int) - (m : Int) == 1) = true := by simp; omega
  have hm1 : m + 1 ≤ b := by omega
  have hm2 : b ≤ m + 1 := by omega
  clear hb hB hX hT hA
  go_enter Try.func165, Try.ntmps165
  go_wp2_with fail
  clear e1 t0 e2 t2
  go_loopw [14, 15] (fun vi vj wr => ∃ i j : Nat, vi = .int .i64 i ∧ vj = .int .i64 j ∧ Hid (Bin (fun h => !ltOf cf d[m]! d[h]!) a m i j) ∧ Aside (SW enc w0 blk off d wr)) (fun vi vj _ => (intOf vj).toNat - (intOf vi).toNat)
  case atStart => exact ⟨a, m, rfl, rfl, Lib.hid (Bin.start _ _ _ (by omega)), S0⟩
  case round =>
    clear S0
    obtain ⟨i, j, rfl, rfl, HB, SJ⟩ := hrel
    have q1 := HB.out.l
    have q2 := HB.out.m
    have q3 := HB.out.h
    by_cases hlt : i < j
    · have hltz : (i : Int) < (j : Int) := by omega
      cases hlv : (ltOf cf d[m]! d[(i + j) / 2]!) with
      | false =>
        have HL := Lib.hid hlv
        obtain ⟨xN, hxN⟩ : ∃ q, q = m := ⟨_, rfl⟩
        obtain ⟨yN, hyN⟩ : ∃ q, q = (i + j) / 2 := ⟨_, rfl⟩
        have ea : ((m : Int)).toNat = xN := by omega
        have pa : (0 : Int) ≤ (m : Int) := by omega
        have ba : (m : Int) < (d.size : Int) := by omega
        have ec : (((i : Int) + (j : Int)) / 2).toNat = yN := by omega
        have pc : (0 : Int) ≤ ((i : Int) + (j : Int)) / 2 := by omega
        have bc : ((i : Int) + (j : Int)) / 2 < (d.size : Int) := by omega
        obtain ⟨x, hx⟩ : ∃ x, x = d[m]! := ⟨_, rfl⟩
        obtain ⟨y, hy⟩ : ∃ x, x = d[(i + j) / 2]! := ⟨_, rfl⟩
        have l1 := SJ.out.cl R (by rw [HS.out]) (m) (by omega)
        have l2 := SJ.out.cl R (by rw [HS.out]) ((i + j) / 2) (by omega)
        rw [← hx, ← hxN] at l1
        rw [← hy, ← hyN] at l2
        have hc := SJ.out.cmp HC.out (by rw [HS.out]) x y
        have hv : ¬ cf x y < 0 := by rw [hx, hy]; exact of_decide_eq_false hlv
        have hd : decide (cf x y < 0) = false := decide_eq_false hv
        clear hx hy hxN hyN hlv
        go_wp2_with fail
        go_quiet_grown (first | (go_at_fn g; refine Calls.grown_of (hc _ _)))
        have S2 : Aside (SW enc w0 blk off d (grow (wr.drewN nq) osq)) := SJ.out.grown nq osq
        clear l1 l2 hc SJ
        generalize grow (wr.drewN nq) osq = w2 at S2 ⊢
        clear nq osq ea ec
        go_wp2_with fail
        exact ⟨⟨(i + j) / 2 + 1, j, by congr 1 <;> omega, rfl, Lib.hid (HB.out.up HM.out (by omega) (by omega) (by simp only [HL.out]; rfl)), S2⟩, by simp [intOf]; omega⟩
      | true =>
        have HL := Lib.hid hlv
        obtain ⟨xN, hxN⟩ : ∃ q, q = m := ⟨_, rfl⟩
        obtain ⟨yN, hyN⟩ : ∃ q, q = (i + j) / 2 := ⟨_, rfl⟩
        have ea : ((m : Int)).toNat = xN := by omega
        have pa : (0 : Int) ≤ (m : Int) := by omega
        have ba : (m : Int) < (d.size : Int) := by omega
        have ec : (((i : Int) + (j : Int)) / 2).toNat = yN := by omega
        have pc : (0 : Int) ≤ ((i : Int) + (j : Int)) / 2 := by omega
        have bc : ((i : Int) + (j : Int)) / 2 < (d.size : Int) := by omega
        obtain ⟨x, hx⟩ : ∃ x, x = d[m]! := ⟨_, rfl⟩
        obtain ⟨y, hy⟩ : ∃ x, x = d[(i + j) / 2]! := ⟨_, rfl⟩
        have l1 := SJ.out.cl R (by rw [HS.out]) (m) (by omega)
        have l2 := SJ.out.cl R (by rw [HS.out]) ((i + j) / 2) (by omega)
        rw [← hx, ← hxN] at l1
        rw [← hy, ← hyN] at l2
        have hc := SJ.out.cmp HC.out (by rw [HS.out]) x y
        have hv : cf x y < 0 := by rw [hx, hy]; exact of_decide_eq_true hlv
        have hd : decide (cf x y < 0) = true := decide_eq_true hv
        clear hx hy hxN hyN hlv
        go_wp2_with fail
        go_quiet_grown (first | (go_at_fn g; refine Calls.grown_of (hc _ _)))
        have S2 : Aside (SW enc w0 blk off d (grow (wr.drewN nq) osq)) := SJ.out.grown nq osq
        clear l1 l2 hc SJ
        generalize grow (wr.drewN nq) osq = w2 at S2 ⊢
        clear nq osq ea ec
        go_wp2_with fail
        exact ⟨⟨i, (i + j) / 2, rfl, by congr 1 <;> omega, Lib.hid (HB.out.down HM.out (by omega) (by omega) (by simp only [HL.out]; rfl)), S2⟩, by simp [intOf]; omega⟩
    · obtain rfl : i = j := by omega
      have HF2 := Lib.hid (HF.out i q1 q3 (fun h k1 k2 => by simpa using HB.out.yes h k1 k2) (fun h k1 k2 => by simpa using HB.out.no h k1 k2))
      clear HF HM HB hlt
      go_wp2_with fail
      go_loopw [17] (fun vk wr => ∃ k : Nat, i ≤ k ∧ k ≤ m ∧ vk = .int .i64 k ∧ Aside (SW enc w0 blk off (shiftL d m (m - k)) wr)) (fun vk _ => (intOf vk).toNat)
      case atStart => exact ⟨m, q3, Nat.le_refl _, rfl, by rw [Nat.sub_self]; exact SJ⟩
      case round =>
        clear SJ
        obtain ⟨k, p1, p2, rfl, SJ⟩ := hrel
        by_cases hlt : i < k
        · have hltz : (i : Int) < (k : Int) := by omega
          have hz : (shiftL d m (m - k)).size = d.size := shiftL_size _ _ _
          have hzl : (shiftL d m (m - k)).size = d0.size := by rw [hz, HS.out]
          have HN := Lib.hid (show shiftL d m (m - (k - 1)) = swp (shiftL d m (m - k)) k (k - 1) by rw [show m - (k - 1) = (m - k) + 1 by omega, shiftL, show m - (m - k) = k by omega])
          generalize shiftL d m (m - k) = dk at *
          obtain ⟨xN, hxN⟩ : ∃ q, q = k := ⟨_, rfl⟩
          obtain ⟨yN, hyN⟩ : ∃ q, q = k - 1 := ⟨_, rfl⟩
          have ea : ((k : Int)).toNat = xN := by omega
          have pa : (0 : Int) ≤ (k : Int) := by omega
          have ba : (k : Int) < (d.size : Int) := by omega
          have ec : ((k : Int) - 1).toNat = yN := by omega
          have pc : (0 : Int) ≤ (k : Int) - 1 := by omega
          have bc : (k : Int) - 1 < (d.size : Int) := by omega
          have ra : IntKind.i64.wrap ((k : Int)) = (k : Int) := IntWalk.i64_in _ (by omega)
          have rc : IntKind.i64.wrap ((k : Int) - 1) = (k : Int) - 1 := IntWalk.i64_in _ (by omega)
          obtain ⟨x, hx⟩ : ∃ x, x = dk[k]! := ⟨_, rfl⟩
          obtain ⟨y, hy⟩ : ∃ x, x = dk[k - 1]! := ⟨_, rfl⟩
          have S3 : Aside (SW enc w0 blk off (swp dk (k) (k - 1)) ((wr.setCell ⟨blk, off + xN, none⟩ (enc y)).setCell ⟨blk, off + yN, none⟩ (enc x)).drew) := by rw [hxN, hyN, hx, hy]; exact SJ.out.swapped R (k) (k - 1) (by omega) (by omega)
          have c1 := SJ.out.c1 R hzl (k) (by omega)
          have c2 := SJ.out.c1 R hzl (k - 1) (by omega)
          have f1 := SJ.out.f1 R hzl (k) (by omega)
          have f2 := SJ.out.f1 R hzl (k - 1) (by omega)
          obtain ⟨u, c3⟩ := SJ.out.c2 R hzl (k) (k - 1) (by omega) (by omega) (enc y)
          rw [← hyN, ← hxN] at c3
          rw [← hx, ← hxN] at c1
          rw [← hy, ← hyN] at c2
          rw [← hxN] at f1
          rw [← hyN] at f2
          rw [← HN.out] at S3
          clear SJ hx hy hxN hyN hz hzl HN
          go_wp2_with fail
          go_big_region
          clear c1 c2 c3 f1 f2
          generalize ((wr.setCell ⟨blk, off + xN, none⟩ (enc y)).setCell ⟨blk, off + yN, none⟩ (enc x)).drew = w3 at S3 ⊢
          clear ea ec
          go_wp2_with fail
          exact ⟨⟨k - 1, by omega, by omega, by congr 1 <;> omega, S3⟩, by simp [intOf]; omega⟩
        · have hltz : ¬ (i : Int) < (k : Int) := by omega
          go_wp2_with fail
          refine bodyPost_ret (results_none rfl _ _ _) rfl ?_
          exact ⟨rfl, _, HF2.out, by rw [show m - i = m - k by omega]; exact SJ.out⟩

def SymSaid (enc : α → Value) (cf : α → α → Int) (L : α → α → Bool) (g : Nat) (cb : Array Value) (blk off cap : Nat) (d0 : Array α) (w0 : World) (n : Nat) : Prop :=
  ∀ (a m b : Nat) (d : Array α) (w : World), b - a ≤ n → a < m → m < b → b ≤ d.size → d0.size = d.size → SW enc w0 blk off d w → Asc L a m d → Asc L m b d → Cross (ltOf cf) L a m b d →
    Calls Try.prog 165 #[.slice (some ⟨blk, off, none⟩) d.size cap, .int .i64 a, .int .i64 m, .int .i64 b, .func (.func g) #[] cb] w fun e w' => e = .returned (.tuple #[]) ∧ ∃ d', Merged L a b d d' ∧ SW enc w0 blk off d' w'

theorem turned_not {s m e : Nat} (d : Array α) (h : ¬ (s < m ∧ m < e)) (h1 : s ≤ m) (h2 : m ≤ e) : Turned s m e d d := by
  refine ⟨rfl, fun k => ?_, permIn_refl _ _ _⟩
  congr 1
  unfold rotIdx
  (repeat' split) <;> omega
end Go.Proofs.Ytlbijkafcododaa
