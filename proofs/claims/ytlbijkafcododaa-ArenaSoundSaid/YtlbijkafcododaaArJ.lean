/-
  Room (layer 28): the walk of ArenaSound.
  Conditions: none.
-/
import Derived.Test.YtlbijkafcododaaChecked
import Derived.Test.YtlbijkafcododaaArI
import Derived.Deep.DeepCutAuto
import Derived.Deep.CutRange
import Derived.StillTailTactics
namespace Go.Proofs.Ytlbijkafcododaa
set_option linter.unusedVariables false
set_option linter.unusedSimpArgs false
open Go.RowKit Go.ChangeShapes Go.WideShapes Go.Proofs.Ytlbijkafcododaa.Ar
set_option maxRecDepth 100000

/-- The law's outer loop has come to i, and all is well. -/
structure Come (sz un at_ : List Int) (n n'' i : Nat) : Prop where
  len : n'' = n
  may : mayOk sz un
  rows : rowsOk sz un at_ i

/-- What the law's flag says: all is well as far as it has come, or it is not, and the answer is so too. -/
def Flag (r : Bool) (Q : Prop) (b : Bool) : Prop := (b = true ∧ Q) ∨ (b = false ∧ r = false)

set_option maxHeartbeats 8000000 in
theorem arenaSound_walk (A : Option Addr) (n c : Nat) (sz : List Int) {W : World} (h : Sl (tInt .i64) W (blo W.heap.size) A n c sz) (A' : Option Addr) (n' c' : Nat) (un : List Int) (h' : Sl (tInt .i64) W (blo W.heap.size) A' n' c' un) (A'' : Option Addr) (n'' c'' : Nat) (at_ : List Int) (h'' : Sl (tInt .i64) W (blo W.heap.size) A'' n'' c'' at_) (w : World) (e : W = w) :
    Calls Try.prog 13 #[.slice A n c, .slice A' n' c', .slice A'' n'' c''] w fun e w' => e = .returned (.bool true) ∧ Below w.heap.size w w' := by
  subst e
  have H := Lib.hid h
  have H' := Lib.hid h'
  have H'' := Lib.hid h''
  have HL := Lib.hid (And.intro h.n_eq (And.intro h'.n_eq h''.n_eq))
  have FR := Lib.hid (Far.refl W)
  clear h h' h''
  by_cases g1 : 24 < n
  · have t1 : decide ((24 : Int) < (n : Int)) = true := by simp; omega
    clear g1
    go_enter Try.func13, Try.ntmps13
    go_wp2_with fail
    refine (known28_any W).mono ?_
    rintro e w2 ⟨rfl, b2⟩
    go_wp2_with fail
    go_ret
    exact ⟨rfl, b2⟩
  have t1 : decide ((24 : Int) < (n : Int)) = false := by simp; omega
  by_cases g2 : 24 < n'
  · have t2 : decide ((24 : Int) < (n' : Int)) = true := by simp; omega
    clear g1 g2
    go_enter Try.func13, Try.ntmps13
    go_wp2_with fail
    refine (known28_any W).mono ?_
    rintro e w2 ⟨rfl, b2⟩
    go_wp2_with fail
    go_ret
    exact ⟨rfl, b2⟩
  have t2 : decide ((24 : Int) < (n' : Int)) = false := by simp; omega
  by_cases g3 : 24 < n''
  · have t3 : decide ((24 : Int) < (n'' : Int)) = true := by simp; omega
    clear g1 g2 g3
    go_enter Try.func13, Try.ntmps13
    go_wp2_with fail
    refine (known28_any W).mono ?_
    rintro e w2 ⟨rfl, b2⟩
    go_wp2_with fail
    go_ret
    exact ⟨rfl, b2⟩
  have t3 : decide ((24 : Int) < (n'' : Int)) = false := by simp; omega
  have m3 : n'' ≤ 24 := by omega
  clear g1 g2 g3
  obtain ⟨r, hr⟩ : ∃ r, decide (soundOk sz un at_) = r := ⟨_, rfl⟩
  have R := Lib.hid hr
  have q1 : (r == r) = true := by simp
  have SO := Lib.hid (show Calls Try.prog 72 #[.slice A n c, .slice A' n' c', .slice A'' n'' c''] W fun e w' => e = .returned (.bool r) ∧ Below W.heap.size W w' by
    rw [← hr]; exact arSound_any A n c A' n' c' A'' n'' c'' sz un at_ W H.out H'.out H''.out)
  have SF := Lib.hid (fun w1 (hb : Below W.heap.size W w1) => show Calls Try.prog 72 #[.slice A n c, .slice A' n' c', .slice A'' n'' c''] w1 fun e w' => e = .returned (.bool r) ∧ Below w1.heap.size w1 w' by
    rw [← hr]; exact arSound_any A n c A' n' c' A'' n'' c'' sz un at_ w1 (H.out.fut hb) (H'.out.fut hb) (H''.out.fut hb))
  clear hr SO
  have MA := Lib.hid (refMay_any A n c A' n' c' sz un W H.out H'.out)
  go_enter Try.func13, Try.ntmps13
  go_upto_region 3 with (fail)
  go_cut [7] (fun v wx => ∃ b : Bool, v = .bool b ∧ Hid (Flag r (Come sz un at_ n n'' 0) b) ∧ W = wx)
  case first =>
    by_cases c0 : mayOk sz un
    · rw [decide_eq_true c0] at MA
      by_cases c1 : n'' = n
      · have t4 : ((n'' : Int) == (n : Int)) = true := by simp; omega
        have X := Lib.hid (show Flag r (Come sz un at_ n n'' 0) true from .inl ⟨rfl, c1, c0, fun j hj => by omega⟩)
        clear c0 c1
        go_wp2_with fail
        refine MA.out.mono ?_
        rintro e w1 ⟨rfl, rfl⟩
        clear MA
        go_wp2_with fail
        go_meet
        case rel => exact ⟨_, rfl, X, rfl⟩
      · have t4 : ((n'' : Int) == (n : Int)) = false := by simp; omega
        have X := Lib.hid (show Flag r (Come sz un at_ n n'' 0) false from .inr ⟨rfl, by rw [← R.out, decide_eq_false_iff_not]; intro e; have := e.2.1; rw [HL.out.1, HL.out.2.2] at this; exact c1 this⟩)
        clear c0 c1
        go_wp2_with fail
        refine MA.out.mono ?_
        rintro e w1 ⟨rfl, rfl⟩
        clear MA
        go_wp2_with fail
        go_meet
        case rel => exact ⟨_, rfl, X, rfl⟩
    · rw [decide_eq_false c0] at MA
      have X := Lib.hid (show Flag r (Come sz un at_ n n'' 0) false from .inr ⟨rfl, by rw [← R.out, decide_eq_false_iff_not]; intro e; exact c0 e.1⟩)
      clear c0
      go_wp2_with fail
      refine MA.out.mono ?_
      rintro e w1 ⟨rfl, rfl⟩
      clear MA
      go_wp2_with fail
      go_meet
      case rel => exact ⟨_, rfl, X, rfl⟩
  case rest =>
    obtain ⟨b0, rfl, X, rfl⟩ := hcut
    clear MA
    go_wp2_with fail
    go_loopw [7, 8] (fun v u wr => ∃ (i : Nat) (b : Bool), i ≤ n'' ∧ u = .int .i64 i ∧ v = .bool b ∧ Hid (Flag r (Come sz un at_ n n'' i) b) ∧ Hid (Far W wr)) (fun _ u _ => n'' - (intOf u).toNat)
    case atStart => exact ⟨0, _, Nat.zero_le _, rfl, rfl, X, FR⟩
    case round =>
      clear FR X
      obtain ⟨i, b, hi, rfl, rfl, X, F⟩ := hrel
      rcases X.out with ⟨rfl, x1, x2, x3⟩ | ⟨rfl, x1⟩
      rotate_left
      · clear X
        have S1 := Lib.hid (SF.out wr F.out.out)
        subst x1
        have KN := Lib.hid (fun w => known28_any w)
        by_cases hlt : i < n''
        · have t5 : decide ((i : Int) < (n'' : Int)) = true := by simp; omega
          go_wp2_with fail
          refine S1.out.mono ?_
          rintro e w2 ⟨rfl, hb⟩
          replace F := Lib.hid (F.out.fut hb)
          clear hb
          go_wp2_with fail
          refine (KN.out _).mono ?_
          rintro e w3 ⟨rfl, hb⟩
          replace F := Lib.hid (F.out.fut hb)
          clear hb
          go_wp2_with fail
          go_ret
          exact ⟨rfl, F.out.out⟩
        · have t5 : decide ((i : Int) < (n'' : Int)) = false := by simp; omega
          go_wp2_with fail
          refine S1.out.mono ?_
          rintro e w2 ⟨rfl, hb⟩
          replace F := Lib.hid (F.out.fut hb)
          clear hb
          go_wp2_with fail
          refine (KN.out _).mono ?_
          rintro e w3 ⟨rfl, hb⟩
          replace F := Lib.hid (F.out.fut hb)
          clear hb
          go_wp2_with fail
          go_ret
          exact ⟨rfl, F.out.out⟩
      clear X
      subst x1
      have HM := Lib.hid x2
      have HR := Lib.hid x3
      have z1 : n'' = n' := by have := x2.1; rw [HL.out.1, HL.out.2.1] at this; exact this
      subst z1
      have HS := Lib.hid (show ∀ j, j < n'' → 0 ≤ sz.getD j 0 ∧ sz.getD j 0 ≤ 1048576 from fun j hj => x2.2.2 j (by rw [HL.out.1]; exact hj))
      clear x2 x3
      by_cases hlt : i < n''
      rotate_left
      · obtain rfl : i = n'' := by omega
        have t5 : decide ((i : Int) < (i : Int)) = false := by simp
        have R2 := Lib.hid (show r = true by rw [← R.out, decide_eq_true_eq]; exact ⟨HM.out, by rw [HL.out.1, HL.out.2.2], by rw [HL.out.2.2]; exact HR.out⟩)
        obtain rfl := R2.out
        have S1 := Lib.hid (SF.out wr F.out.out)
        go_wp2_with fail
        refine S1.out.mono ?_
        rintro e w2 ⟨rfl, hb⟩
        replace F := Lib.hid (F.out.fut hb)
        clear hb
        go_wp2_with fail
        refine (known28_any _).mono ?_
        rintro e w3 ⟨rfl, hb⟩
        replace F := Lib.hid (F.out.fut hb)
        clear hb
        go_wp2_with fail
        go_ret
        exact ⟨rfl, F.out.out⟩
      have t5 : decide ((i : Int) < (n'' : Int)) = true := by simp; omega
      have pi : (i : Int) < (n'' : Int) := by omega
      obtain ⟨a0, off, rfl, _, _, c0, _⟩ := (H''.out.fut F.out.out).int_at i hlt
      obtain ⟨p, hp⟩ : ∃ p, at_.getD i 0 = p := ⟨_, rfl⟩
      rw [hp] at c0
      have HP := Lib.hid hp
      have sbi := HS.out i hlt
      have bad : ¬ (rowOkTo sz un at_ i i) → r = false := fun hb => by
        rw [← R.out, decide_eq_false_iff_not]; intro e
        exact hb (e.2.2 i (by rw [HL.out.2.2]; exact hlt))
      have BAD := Lib.hid bad
      clear bad hp
      have cs : (decide (0 ≤ p) = false ∧ Hid (r = false)) ∨ (decide (0 ≤ p) = true ∧ decide (p ≤ 1099511627776) = false ∧ Hid (r = false)) ∨ (decide (0 ≤ p) = true ∧ decide (p ≤ 1099511627776) = true ∧ Hid (0 ≤ p ∧ p ≤ 1099511627776)) := by
        by_cases g1 : 0 ≤ p
        · by_cases g2 : p ≤ 1099511627776
          · exact .inr (.inr ⟨decide_eq_true g1, decide_eq_true g2, Lib.hid ⟨g1, g2⟩⟩)
          · exact .inr (.inl ⟨decide_eq_true g1, decide_eq_false g2, Lib.hid (BAD.out (fun e => by have := e.2.1; rw [HP.out] at this; omega))⟩)
        · exact .inl ⟨decide_eq_false g1, Lib.hid (BAD.out (fun e => by have := e.1; rw [HP.out] at this; omega))⟩
      have FO := F
      have C0 := Lib.hid (And.intro c0 trivial)
      rcases cs with ⟨y1, y3⟩ | ⟨y1, y2, y3⟩ | ⟨y1, y2, y3⟩
      case' inl => have ST := Lib.hid (show Flag r (0 ≤ p ∧ p ≤ 1099511627776 ∧ ∀ j, j < 0 → pairOk sz un at_ j i) false from .inr ⟨rfl, y3.out⟩)
      case' inr.inl => have ST := Lib.hid (show Flag r (0 ≤ p ∧ p ≤ 1099511627776 ∧ ∀ j, j < 0 → pairOk sz un at_ j i) false from .inr ⟨rfl, y3.out⟩)
      case' inr.inr => have ST := Lib.hid (show Flag r (0 ≤ p ∧ p ≤ 1099511627776 ∧ ∀ j, j < 0 → pairOk sz un at_ j i) true from .inl ⟨rfl, y3.out.1, y3.out.2, fun j hj => by omega⟩)
      all_goals
        clear y3
        go_wp2_with fail
        clear c0
        go_loopw [7, 9] (fun v u wr => ∃ (k : Nat) (b : Bool), k ≤ i ∧ u = .int .i64 k ∧ v = .bool b ∧ Hid (Flag r (0 ≤ p ∧ p ≤ 1099511627776 ∧ ∀ j, j < k → pairOk sz un at_ j i) b) ∧ Hid (Far W wr)) (fun _ u _ => i - (intOf u).toNat)
        case atStart => exact ⟨0, _, Nat.zero_le _, rfl, rfl, ST, FO⟩
        case round =>
          clear F FO ST
          obtain ⟨k, b, hk, rfl, rfl, X, F⟩ := hrel
          rcases X.out with ⟨rfl, x1, x2, x3⟩ | ⟨rfl, x1⟩
          rotate_left
          · clear X
            have ST := Lib.hid (show Flag r (Come sz un at_ n'' n'' (i + 1)) false from .inr ⟨rfl, x1⟩)
            clear x1
            by_cases hlk : k < i
            · have t6 : decide ((k : Int) < (i : Int)) = true := by simp; omega
              go_wp2_with fail
              exact ⟨⟨i + 1, false, by omega, by go_num, rfl, ST, F⟩, by simp [intOf]; omega⟩
            · have t6 : decide ((k : Int) < (i : Int)) = false := by simp; omega
              go_wp2_with fail
              exact ⟨⟨i + 1, false, by omega, by go_num, rfl, ST, F⟩, by simp [intOf]; omega⟩
          clear X
          have HK := Lib.hid x3
          clear x3
          by_cases hlk : k < i
          rotate_left
          · obtain rfl : k = i := by omega
            have t6 : decide ((k : Int) < (k : Int)) = false := by simp
            have ST := Lib.hid (show Flag r (Come sz un at_ n'' n'' (k + 1)) true from .inl ⟨rfl, rfl, HM.out, fun j hj => by
              by_cases e : j = k
              · rw [e]; exact ⟨by rw [HP.out]; exact x1, by rw [HP.out]; exact x2, HK.out⟩
              · exact HR.out j (by omega)⟩)
            go_wp2_with fail
            exact ⟨⟨k + 1, true, by omega, by go_num, rfl, ST, F⟩, by simp [intOf]; omega⟩
          have t6 : decide ((k : Int) < (i : Int)) = true := by simp; omega
          have pk : (k : Int) < (n'' : Int) := by omega
          have qb := HR.out k hlk
          have w1 := qb.1
          have w2 := qb.2.1
          clear qb
          obtain ⟨a1, off1, hA, _, _, c1, _⟩ := (H''.out.fut F.out.out).int_at i hlt
          cases hA
          obtain ⟨a2, off2, hA, _, _, c2, _⟩ := (H''.out.fut F.out.out).int_at k (by omega)
          cases hA
          rw [HP.out] at c1
          have MT := Lib.hid (fun d => meet_any A n'' c A' n'' c' sz un i k p (at_.getD k 0) (wr.drewN d) ((H.out.fut F.out.out).fut (below_drewN (Below.refl _ _) d)) ((H'.out.fut F.out.out).fut (below_drewN (Below.refl _ _) d)) hlt (by omega) (Nat.le_refl _) (by omega) (by omega) sbi (HS.out k (by omega)))
          have MP := Lib.hid (meet_pair (un := un) (at_ := at_) hlk (by rw [HL.out.1]; exact hlt) (fun j hj => (HS.out j (by rw [← HL.out.1]; exact hj)).1))
          rw [HP.out] at MP
          have NX := Lib.hid (show pairOk sz un at_ k i → ∀ j, j < k + 1 → pairOk sz un at_ j i from fun h j hj => by
            by_cases e : j = k
            · rw [e]; exact h
            · exact HK.out j (by omega))
          generalize at_.getD k 0 = q at *
          cases hm : meet sz un i p k q with
          | false =>
            rw [hm] at MT
            have ST := Lib.hid (show Flag r (0 ≤ p ∧ p ≤ 1099511627776 ∧ ∀ j, j < k + 1 → pairOk sz un at_ j i) true from .inl ⟨rfl, x1, x2, NX.out (MP.out.1 hm)⟩)
            clear hm NX MP
            go_wp2_with fail
            go_still_tail 12, (by kernel_rfl)
            change wpList _ _ _ _ _ (wr.drewN 1)
            go_wp2_with fail
            refine (MT.out 1).mono ?_
            rintro e w3 ⟨rfl, rfl⟩
            go_wp2_with fail
            exact ⟨⟨k + 1, true, by omega, by go_num, rfl, ST, Lib.hid (F.out.drewN _)⟩, by simp [intOf]; omega⟩
          | true =>
            rw [hm] at MT
            have ST := Lib.hid (show Flag r (0 ≤ p ∧ p ≤ 1099511627776 ∧ ∀ j, j < k + 1 → pairOk sz un at_ j i) false from .inr ⟨rfl, BAD.out (fun e => by have := MP.out.2 (e.2.2 k hlk); rw [hm] at this; cases this)⟩)
            clear hm NX MP
            go_wp2_with fail
            go_still_tail 12, (by kernel_rfl)
            change wpList _ _ _ _ _ (wr.drewN 1)
            go_wp2_with fail
            refine (MT.out 1).mono ?_
            rintro e w3 ⟨rfl, rfl⟩
            go_wp2_with fail
            exact ⟨⟨k + 1, false, by omega, by go_num, rfl, ST, Lib.hid (F.out.drewN _)⟩, by simp [intOf]; omega⟩
end Go.Proofs.Ytlbijkafcododaa
