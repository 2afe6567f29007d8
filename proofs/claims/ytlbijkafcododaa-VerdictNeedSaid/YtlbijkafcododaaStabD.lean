/-
  slices' symMerge at []int: two rows in order, one behind the other, become one row in order.
  Conditions: within the row; fewer than 2^60 elements; the test agrees with a strict order between the two rows.
-/
import Derived.Test.YtlbijkafcododaaChecked
import Derived.Test.YtlbijkafcododaaStabC
import Derived.BigQuiet
import Derived.Deep.DeepCutAuto
import Derived.Deep.CutRange
namespace Go.Proofs.Ytlbijkafcododaa
set_option linter.unusedVariables false
set_option linter.unusedSimpArgs false
open Go.RowKit Go.ChangeShapes Go.WideShapes Go.Shelf Go.Lib Go.Sort Go.Proofs.Ytlbijkafcododaa.Sta
set_option maxRecDepth 100000
variable {α : Type} [Inhabited α]

set_option maxHeartbeats 8000000 in
theorem symMerge_cut (enc : α → Value) (cf : α → α → Int) (L : α → α → Bool) (hT : Tr L) (hA : As L) (g : Nat) (cb : Array Value) (blk off cap : Nat) (d0 : Array α) (w0 : World)
    (eg : ∀ args w, (callFunc g args).run Try.prog w = .ok (.enter g args) w) (hcmp : CmpLays1 Try.prog g cb enc cf blk off d0.size w0) (R : Row1 enc w0 blk off d0) (hsz : d0.size < 1152921504606846976)
    (a m b : Nat) (d : Array α) (w : World) (hs : d0.size = d.size) (S : SW enc w0 blk off d w)
    (n : Nat) (hn : b - a ≤ n + 1) (IH : SymSaid enc cf L g cb blk off cap d0 w0 n) (h1 : a + 1 < m) (h2 : m + 1 < b) (h3 : b ≤ d.size) (hB1 : Asc L a m d) (hB2 : Asc L m b d) (hX : Cross (ltOf cf) L a m b d) :
    Calls Try.prog 165 #[.slice (some ⟨blk, off, none⟩) d.size cap, .int .i64 a, .int .i64 m, .int .i64 b, .func (.func g) #[] cb] w fun e w' => e = .returned (.tuple #[]) ∧ ∃ d', Merged L a b d d' ∧ SW enc w0 blk off d' w' := by
  have mixed : Try.prog.follows .mixedOrders = true := by kernel_rfl
  have hcl0 := R.hO.cells
  simp only [Value.cells] at hcl0
  have hst := R.hO.store Try.prog
  have S0 : Aside (SW enc w0 blk off d w) := S
  have HC : Aside _ := hcmp
  have hds : d.size < 1152921504606846976 := by omega
  have HS := Lib.hid hs
  clear S hcmp hs
  obtain ⟨k1, k2, k3, k4, k5, k6⟩ := cut_bounds (a := a) (m := m) (b := b) (by omega) (by omega)
  obtain ⟨lo, hlo⟩ : ∃ x, cutLo a m b = x := ⟨_, rfl⟩
  obtain ⟨hi, hhi⟩ : ∃ x, cutHi a m b = x := ⟨_, rfl⟩
  obtain ⟨mid, hmid⟩ : ∃ x, (a + b) / 2 = x := ⟨_, rfl⟩
  have HM := Lib.hid (mono_cut hT hA (by omega) (by omega) hB1 hB2 hX : Mono (fun c => !ltOf cf d[(a + b) / 2 + m - 1 - c]! d[c]!) (cutLo a m b) (cutHi a m b))
  have HV := Lib.hid (fun (s : Nat) (q1 : cutLo a m b ≤ s) (q2 : s ≤ cutHi a m b) (y1 : ∀ c, cutLo a m b ≤ c → c < s → ltOf cf d[(a + b) / 2 + m - 1 - c]! d[c]! = false) (y2 : ∀ c, s ≤ c → c < cutHi a m b → ltOf cf d[(a + b) / 2 + m - 1 - c]! d[c]! = true) (d' : Array α) (hd : Turned s m ((a + b) / 2 + m - s) d d') =>
    search_stay_lt hT (by omega) (by omega) hB1 hB2 hX q1 q2 y1 y2 hd)
  have hc := (show (mid < m ∧ lo = mid + m - b ∧ hi = mid) ∨ (m ≤ mid ∧ lo = a ∧ hi = m) from by
    rw [← hlo, ← hhi]; unfold cutLo cutHi
    by_cases h : m > (a + b) / 2
    · rw [if_pos h, if_pos h]; left; omega
    · rw [if_neg h, if_neg h]; right; omega)
  rw [hlo, hhi, hmid] at HM HV
  rw [hlo] at k1 k2 k5
  rw [hhi] at k2 k3 k4 k6
  rw [hmid] at k4 k5 k6
  have M1 : 2 * mid ≤ a + b := by omega
  have M2 : a + b ≤ 2 * mid + 1 := by omega
  have HI := Lib.hid IH
  have HCC := Lib.hid hc
  clear IH hT hA hB1 hB2 hX hlo hhi hc
  have e1 : IntKind.i64.wrap ((m : Int) - (a : Int)) = (m : Int) - (a : Int) := IntWalk.i64_in _ (by omega)
  have t0 : ((m : Int) - (a : Int) == 1) = false := by simp; omega
  have e2 : IntKind.i64.wrap ((b : Int) - (m : Int)) = (b : Int) - (m : Int) := IntWalk.i64_in _ (by omega)
  have t2 : ((b : Int) - (m : Int) == 1) = false := by simp; omega
  have e3 : ((a : Int) + (b : Int)) / 2 = (mid : Int) := by omega
  have e4 : IntKind.i64.wrap ((mid : Int) + (m : Int)) = (mid : Int) + (m : Int) := IntWalk.i64_in _ (by omega)
  have e5 : IntKind.i64.wrap ((mid : Int) + (m : Int) - 1) = (mid : Int) + (m : Int) - 1 := IntWalk.i64_in _ (by omega)
  clear hmid
  go_enter Try.func165, Try.ntmps165
  go_upto_if 140 with (fail)
  go_cut [20, 21] (fun v u wx => v = .int .i64 lo ∧ u = .int .i64 hi ∧ Aside (SW enc w0 blk off d wx))
  case first =>
    as_aux_lemma =>
    rcases HCC.out with ⟨g1, g2, g3⟩ | ⟨g1, g2, g3⟩
    · have y1 : decide ((mid : Int) < (m : Int)) = true := by simp; omega
      have e6 : IntKind.i64.wrap ((mid : Int) + (m : Int) - (b : Int)) = (lo : Int) := by rw [IntWalk.i64_in _ (by omega)]; omega
      have G3 := Lib.hid g3
      clear g2 g3
      go_wp2_with fail
      go_meet
      case rel => exact ⟨rfl, by rw [G3.out], S0⟩
    · have y1 : decide ((mid : Int) < (m : Int)) = false := by simp; omega
      have G2 := Lib.hid g2
      have G3 := Lib.hid g3
      clear g2 g3
      go_wp2_with fail
      go_meet
      case rel => exact ⟨by rw [G2.out], by rw [G3.out], S0⟩
  case rest =>
    obtain ⟨rfl, rfl, S1⟩ := hcut
    clear S0 HCC
    go_wp2_with fail
    clear e1 t0 e2 t2 e3 e4 e5
    go_loopw [20, 21] (fun vi vj wr => ∃ s r : Nat, vi = .int .i64 s ∧ vj = .int .i64 r ∧ Hid (Bin (fun c => !ltOf cf d[mid + m - 1 - c]! d[c]!) lo hi s r) ∧ Aside (SW enc w0 blk off d wr)) (fun vi vj _ => (intOf vj).toNat - (intOf vi).toNat)
    case atStart => exact ⟨lo, hi, rfl, rfl, Lib.hid (Bin.start _ _ _ (by omega)), S1⟩
    case round =>
      clear S1
      obtain ⟨s, r, rfl, rfl, HB, SJ⟩ := hrel
      have q1 := HB.out.l
      have q2 := HB.out.m
      have q3 := HB.out.h
      by_cases hlt : s < r
      · have hltz : (s : Int) < (r : Int) := by omega
        cases hlv : (ltOf cf d[mid + m - 1 - (s + r) / 2]! d[(s + r) / 2]!) with
        | false =>
          as_aux_lemma =>
          have HL := Lib.hid hlv
          have rp : IntKind.i64.wrap ((mid : Int) + (m : Int) - 1 - ((s : Int) + (r : Int)) / 2) = (mid : Int) + (m : Int) - 1 - ((s : Int) + (r : Int)) / 2 := IntWalk.i64_in _ (by omega)

          obtain ⟨xN, hxN⟩ : ∃ q, q = mid + m - 1 - (s + r) / 2 := ⟨_, rfl⟩
          obtain ⟨yN, hyN⟩ : ∃ q, q = (s + r) / 2 := ⟨_, rfl⟩
          have ea : ((mid : Int) + (m : Int) - 1 - ((s : Int) + (r : Int)) / 2).toNat = xN := by omega
          have pa : (0 : Int) ≤ (mid : Int) + (m : Int) - 1 - ((s : Int) + (r : Int)) / 2 := by omega
          have ba : (mid : Int) + (m : Int) - 1 - ((s : Int) + (r : Int)) / 2 < (d.size : Int) := by omega
          have ec : (((s : Int) + (r : Int)) / 2).toNat = yN := by omega
          have pc : (0 : Int) ≤ ((s : Int) + (r : Int)) / 2 := by omega
          have bc : ((s : Int) + (r : Int)) / 2 < (d.size : Int) := by omega
          obtain ⟨x, hx⟩ : ∃ x, x = d[mid + m - 1 - (s + r) / 2]! := ⟨_, rfl⟩
          obtain ⟨y, hy⟩ : ∃ x, x = d[(s + r) / 2]! := ⟨_, rfl⟩
          have l1 := SJ.out.cl R (by rw [HS.out]) (mid + m - 1 - (s + r) / 2) (by omega)
          have l2 := SJ.out.cl R (by rw [HS.out]) ((s + r) / 2) (by omega)
          rw [← hx, ← hxN] at l1
          rw [← hy, ← hyN] at l2
          have hc := SJ.out.cmp HC.out (by rw [HS.out]) x y
          have hv : ¬ cf x y < 0 := by rw [hx, hy]; exact of_decide_eq_false hlv
          have hd : decide (cf x y < 0) = false := decide_eq_false hv
          clear hx hy hxN hyN hlv
          go_wp2_with fail
          refine wp_region_quiet_grown (by assumption) (by kernel_rfl) ?_
          repeat (go_big_quiet_step (first | (go_at_fn g; refine Calls.grown_of (hc _ _))))
          refine wpQuiet_nil ?_
          intro _ hw'
          obtain ⟨⟨nq, osq⟩, hw''⟩ := hw'
          subst hw''
          have S2 : Aside (SW enc w0 blk off d (grow (wr.drewN nq) osq)) := SJ.out.grown nq osq
          clear l1 l2 hc SJ
          generalize grow (wr.drewN nq) osq = w2 at S2 ⊢
          clear nq osq ea ec
          go_wp2_with fail
          exact ⟨⟨(s + r) / 2 + 1, r, by congr 1 <;> omega, rfl, Lib.hid (HB.out.up HM.out (by omega) (by omega) (by simp only [HL.out]; rfl)), S2⟩, by simp [intOf]; omega⟩
        | true =>
          as_aux_lemma =>
          have HL := Lib.hid hlv
          have rp : IntKind.i64.wrap ((mid : Int) + (m : Int) - 1 - ((s : Int) + (r : Int)) / 2) = (mid : Int) + (m : Int) - 1 - ((s : Int) + (r : Int)) / 2 := IntWalk.i64_in _ (by omega)

          obtain ⟨xN, hxN⟩ : ∃ q, q = mid + m - 1 - (s + r) / 2 := ⟨_, rfl⟩
          obtain ⟨yN, hyN⟩ : ∃ q, q = (s + r) / 2 := ⟨_, rfl⟩
          have ea : ((mid : Int) + (m : Int) - 1 - ((s : Int) + (r : Int)) / 2).toNat = xN := by omega
          have pa : (0 : Int) ≤ (mid : Int) + (m : Int) - 1 - ((s : Int) + (r : Int)) / 2 := by omega
          have ba : (mid : Int) + (m : Int) - 1 - ((s : Int) + (r : Int)) / 2 < (d.size : Int) := by omega
          have ec : (((s : Int) + (r : Int)) / 2).toNat = yN := by omega
          have pc : (0 : Int) ≤ ((s : Int) + (r : Int)) / 2 := by omega
          have bc : ((s : Int) + (r : Int)) / 2 < (d.size : Int) := by omega
          obtain ⟨x, hx⟩ : ∃ x, x = d[mid + m - 1 - (s + r) / 2]! := ⟨_, rfl⟩
          obtain ⟨y, hy⟩ : ∃ x, x = d[(s + r) / 2]! := ⟨_, rfl⟩
          have l1 := SJ.out.cl R (by rw [HS.out]) (mid + m - 1 - (s + r) / 2) (by omega)
          have l2 := SJ.out.cl R (by rw [HS.out]) ((s + r) / 2) (by omega)
          rw [← hx, ← hxN] at l1
          rw [← hy, ← hyN] at l2
          have hc := SJ.out.cmp HC.out (by rw [HS.out]) x y
          have hv : cf x y < 0 := by rw [hx, hy]; exact of_decide_eq_true hlv
          have hd : decide (cf x y < 0) = true := decide_eq_true hv
          clear hx hy hxN hyN hlv
          go_wp2_with fail
          refine wp_region_quiet_grown (by assumption) (by kernel_rfl) ?_
          repeat (go_big_quiet_step (first | (go_at_fn g; refine Calls.grown_of (hc _ _))))
          refine wpQuiet_nil ?_
          intro _ hw'
          obtain ⟨⟨nq, osq⟩, hw''⟩ := hw'
          subst hw''
          have S2 : Aside (SW enc w0 blk off d (grow (wr.drewN nq) osq)) := SJ.out.grown nq osq
          clear l1 l2 hc SJ
          generalize grow (wr.drewN nq) osq = w2 at S2 ⊢
          clear nq osq ea ec
          go_wp2_with fail
          exact ⟨⟨s, (s + r) / 2, rfl, by congr 1 <;> omega, Lib.hid (HB.out.down HM.out (by omega) (by omega) (by simp only [HL.out]; rfl)), S2⟩, by simp [intOf]; omega⟩
      · obtain rfl : s = r := by omega
        have HV2 := Lib.hid (fun d' hd => HV.out s q1 q3 (fun c h h' => by simpa using HB.out.yes c h h') (fun c h h' => by simpa using HB.out.no c h h') d' hd)
        obtain ⟨E, hE⟩ : ∃ E, mid + m - s = E := ⟨_, rfl⟩
        rw [hE] at HV2
        have e7 : IntKind.i64.wrap ((mid : Int) + (m : Int) - (s : Int)) = (E : Int) := by rw [IntWalk.i64_in _ (by omega)]; omega
        have E1 : E + s ≤ mid + m := by omega
        have E2 : mid + m ≤ E + s := by omega
        clear HV HM HB hlt hE
        go_upto_region 39 with (fail)
        go_cut [185] (fun v wx => v = .bool (decide (s < m ∧ m < E)) ∧ wx = wr)
        case first =>
          as_aux_lemma =>
          by_cases g1 : s < m
          · have y1 : decide ((s : Int) < (m : Int)) = true := by simp; omega
            by_cases g2 : m < E
            · have y2 : decide ((m : Int) < (E : Int)) = true := by simp; omega
              have y3 := Lib.hid (show decide (s < m ∧ m < E) = true by simp; omega)
              go_wp2_with fail
              go_meet
              case rel => exact ⟨by rw [y3.out], rfl⟩
            · have y2 : decide ((m : Int) < (E : Int)) = false := by simp; omega
              have y3 := Lib.hid (show decide (s < m ∧ m < E) = false by simp; omega)
              go_wp2_with fail
              go_meet
              case rel => exact ⟨by rw [y3.out], rfl⟩
          · have y1 : decide ((s : Int) < (m : Int)) = false := by simp; omega
            have y3 := Lib.hid (show decide (s < m ∧ m < E) = false by simp; omega)
            go_wp2_with fail
            go_meet
            case rel => exact ⟨by rw [y3.out], rfl⟩
        case rest =>
          obtain ⟨rfl, rfl⟩ := hcut
          go_upto_if 185 with (fail)
          go_cut [] (fun wx => ∃ d1, Hid (Turned s m E d d1) ∧ Aside (SW enc w0 blk off d1 wx))
          case first =>
            as_aux_lemma =>
            by_cases c1 : s < m ∧ m < E
            · have y3 : decide (s < m ∧ m < E) = true := by simp; omega
              go_wp2_with fail
              refine (rotate_s enc blk off cap s m E (.func (.func g) #[] cb) d0 d w0 _ R (by rw [HS.out]) SJ.out c1.1 c1.2 (by omega) hds).mono ?_
              rintro e w1 ⟨rfl, d1, T1, s1⟩
              have HT1 := Lib.hid T1
              have S1 : Aside (SW enc w0 blk off d1 w1) := s1
              clear T1 s1
              go_wp2_with fail
              go_meet
              case rel => exact ⟨d1, HT1, S1⟩
            · have y3 : decide (s < m ∧ m < E) = false := by simp; omega
              go_wp2_with fail
              go_meet
              case rel => exact ⟨d, Lib.hid (turned_not d c1 (by omega) (by omega)), SJ⟩
          case rest =>
            obtain ⟨d1, HT1, S1⟩ := hcut
            have HH := Lib.hid (HV2.out d1 HT1.out)
            have HP := Lib.hid (permIn_mono d d1 s E a b (by omega) (by omega) h3 HT1.out.perm)
            have z1 := HT1.out.size
            have Z1 := Lib.hid (show d0.size = d1.size by rw [z1]; exact HS.out)
            have hb1 : b ≤ d1.size := by omega
            rw [← z1]
            clear SJ HV2 HT1
            obtain ⟨wr, hwr⟩ : ∃ wr, wr = wc := ⟨_, rfl⟩
            rw [← hwr] at S1 ⊢
            clear hwr z1
            go_upto_region 41 with (fail)
            go_cut [199] (fun v wx => v = .bool (decide (a < s ∧ s < mid)) ∧ wx = wr)
            case first =>
              as_aux_lemma =>
              by_cases g1 : a < s
              · have y1 : decide ((a : Int) < (s : Int)) = true := by simp; omega
                by_cases g2 : s < mid
                · have y2 : decide ((s : Int) < (mid : Int)) = true := by simp; omega
                  have y3 := Lib.hid (show decide (a < s ∧ s < mid) = true by simp; omega)
                  go_wp2_with fail
                  go_meet
                  case rel => exact ⟨by rw [y3.out], rfl⟩
                · have y2 : decide ((s : Int) < (mid : Int)) = false := by simp; omega
                  have y3 := Lib.hid (show decide (a < s ∧ s < mid) = false by simp; omega)
                  go_wp2_with fail
                  go_meet
                  case rel => exact ⟨by rw [y3.out], rfl⟩
              · have y1 : decide ((a : Int) < (s : Int)) = false := by simp; omega
                have y3 := Lib.hid (show decide (a < s ∧ s < mid) = false by simp; omega)
                go_wp2_with fail
                go_meet
                case rel => exact ⟨by rw [y3.out], rfl⟩
            case rest =>
              obtain ⟨rfl, rfl⟩ := hcut
              go_upto_if 199 with (fail)
              go_cut [] (fun wx => ∃ d2, Hid (Merged L a mid d1 d2) ∧ Aside (SW enc w0 blk off d2 wx))
              case first =>
                as_aux_lemma =>
                by_cases c1 : a < s ∧ s < mid
                · have y3 : decide (a < s ∧ s < mid) = true := by simp; omega
                  go_wp2_with fail
                  refine (HI.out a s mid d1 _ (by omega) c1.1 c1.2 (by omega) Z1.out S1.out HH.out.l1 HH.out.l2 HH.out.cl).mono ?_
                  rintro e w1 ⟨rfl, d2, T1, s1⟩
                  have HT1 := Lib.hid T1
                  have S2 : Aside (SW enc w0 blk off d2 w1) := s1
                  clear T1 s1
                  go_wp2_with fail
                  go_meet
                  case rel => exact ⟨d2, HT1, S2⟩
                · have y3 : decide (a < s ∧ s < mid) = false := by simp; omega
                  go_wp2_with fail
                  go_meet
                  case rel => exact ⟨d1, Lib.hid (HH.out.left_as c1 (by omega) (by omega)), S1⟩
              case rest =>
                obtain ⟨d2, HT2, S2⟩ := hcut
                have HR := Lib.hid (HH.out.left (by omega) (by omega) (by omega) (by omega) hb1 HT2.out)
                have z2 : d2.size = d1.size := HT2.out.perm.1
                have Z2 := Lib.hid (show d0.size = d2.size by rw [z2]; exact Z1.out)
                have hb2 : b ≤ d2.size := by omega
                rw [← z2]
                clear S1 z2
                obtain ⟨wr, hwr⟩ : ∃ wr, wr = wc := ⟨_, rfl⟩
                rw [← hwr] at S2 ⊢
                clear hwr
                go_upto_region 43 with (fail)
                go_cut [213] (fun v wx => v = .bool (decide (mid < E ∧ E < b)) ∧ wx = wr)
                case first =>
                  as_aux_lemma =>
                  by_cases g1 : mid < E
                  · have y1 : decide ((mid : Int) < (E : Int)) = true := by simp; omega
                    by_cases g2 : E < b
                    · have y2 : decide ((E : Int) < (b : Int)) = true := by simp; omega
                      have y3 := Lib.hid (show decide (mid < E ∧ E < b) = true by simp; omega)
                      go_wp2_with fail
                      go_meet
                      case rel => exact ⟨by rw [y3.out], rfl⟩
                    · have y2 : decide ((E : Int) < (b : Int)) = false := by simp; omega
                      have y3 := Lib.hid (show decide (mid < E ∧ E < b) = false by simp; omega)
                      go_wp2_with fail
                      go_meet
                      case rel => exact ⟨by rw [y3.out], rfl⟩
                  · have y1 : decide ((mid : Int) < (E : Int)) = false := by simp; omega
                    have y3 := Lib.hid (show decide (mid < E ∧ E < b) = false by simp; omega)
                    go_wp2_with fail
                    go_meet
                    case rel => exact ⟨by rw [y3.out], rfl⟩
                case rest =>
                  obtain ⟨rfl, rfl⟩ := hcut
                  as_aux_lemma =>
                  by_cases c1 : mid < E ∧ E < b
                  · have y3 : decide (mid < E ∧ E < b) = true := by simp; omega
                    go_wp2_with fail
                    refine (HI.out mid E b d2 _ (by omega) c1.1 c1.2 (by omega) Z2.out S2.out HR.out.1 HR.out.2.1 HR.out.2.2.1).mono ?_
                    rintro e w1 ⟨rfl, d3, T1, s1⟩
                    have HT3 := Lib.hid T1
                    have S3 : Aside (SW enc w0 blk off d3 w1) := s1
                    clear T1 s1
                    go_wp2_with fail
                    refine bodyPost_end (results_none rfl _ _ _) rfl ?_
                    exact ⟨rfl, d3, merged_perm HP.out (merged_join (by omega) (by omega) hb1 HT2.out HT3.out HR.out.2.2.2), S3.out⟩
                  · have y3 : decide (mid < E ∧ E < b) = false := by simp; omega
                    have FIN := Lib.hid (merged_perm HP.out (merged_join (by omega) (by omega) hb1 HT2.out (right_as HR.out.1 HR.out.2.1 c1 (by omega) (by omega)) HR.out.2.2.2))
                    go_wp2_with fail
                    refine bodyPost_end (results_none rfl _ _ _) rfl ?_
                    exact ⟨rfl, d2, FIN.out, S2.out⟩

theorem symMerge_all (enc : α → Value) (cf : α → α → Int) (L : α → α → Bool) (hT : Tr L) (hA : As L) (g : Nat) (cb : Array Value) (blk off cap : Nat) (d0 : Array α) (w0 : World)
    (eg : ∀ args w, (callFunc g args).run Try.prog w = .ok (.enter g args) w) (hcmp : CmpLays1 Try.prog g cb enc cf blk off d0.size w0) (R : Row1 enc w0 blk off d0) (hsz : d0.size < 1152921504606846976) (n : Nat) : SymSaid enc cf L g cb blk off cap d0 w0 n := by
  induction n with
  | zero => intro a m b d w h1 h2 h3; omega
  | succ n ih =>
    intro a m b d w h1 h2 h3 h4 hs S hB1 hB2 hX
    by_cases c1 : m = a + 1
    · exact symMerge_left enc cf L hT hA g cb blk off cap d0 w0 eg hcmp R hsz a m b d w hs S c1 h3 h4 hB2 hX
    · by_cases c2 : b = m + 1
      · exact symMerge_right enc cf L hT hA g cb blk off cap d0 w0 eg hcmp R hsz a m b d w hs S c2 (by omega) h4 hB1 hX
      · exact symMerge_cut enc cf L hT hA g cb blk off cap d0 w0 eg hcmp R hsz a m b d w hs S n h1 ih (by omega) (by omega) h4 hB1 hB2 hX
end Go.Proofs.Ytlbijkafcododaa
