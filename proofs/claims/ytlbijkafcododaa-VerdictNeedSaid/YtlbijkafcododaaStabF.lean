/-
  slices.SortStableFunc at []int: the row becomes one in order, by a strict order with which the test agrees between a later and an earlier element.
  Conditions: fewer than 2^60 elements.
-/
import Derived.Test.YtlbijkafcododaaChecked
import Derived.Test.YtlbijkafcododaaStabD
import Derived.Test.YtlbijkafcododaaStabE
import Derived.Shelf.SlSortCmp.Insertion1
import Derived.Deep.DeepCutAuto
import Derived.Deep.CutRange
namespace Go.Proofs
open Go.Shelf
def Try.lIns_ren : Go.Shelf.Ren := ⟨fun | 20 => 164 | n => n, fun | 22 => 29 | 24 => 3 | 25 => 113 | 3 => 3 | 4 => 4 | 0 => 0 | n => n, fun | n => n⟩
theorem Try.lIns : Go.Proofs.SlLaysF.n20 Try.prog Try.lIns_ren := {
  mixed := by kernel_rfl
  f20 := ⟨Try.f164.name, by decide, Try.func164.trans (congrArg some (by kernel_rfl))⟩
  t0 := Try.underlying0
  a0 := Try.isAgg0
  z0 := Try.sizeOf0
  v0 := Try.zeroValue0
  t3 := Try.underlying3
  a3 := Try.isAgg3
  z3 := Try.sizeOf3
  v3 := Try.zeroValue3
  t4 := Try.underlying4
  a4 := Try.isAgg4
  z4 := Try.sizeOf4
  v4 := Try.zeroValue4
  t22 := Try.underlying29
  a22 := Try.isAgg29
  z22 := Try.sizeOf29
  v22 := Try.zeroValue29
  a24 := Try.isAgg3
  z24 := Try.sizeOf3
  t25 := Try.underlying113
  a25 := Try.isAgg113
  z25 := Try.sizeOf113
  v25 := Try.zeroValue113 }
end Go.Proofs
namespace Go.Proofs.Ytlbijkafcododaa
set_option linter.unusedVariables false
set_option linter.unusedSimpArgs false
open Go.RowKit Go.ChangeShapes Go.WideShapes Go.Shelf Go.Lib Go.Sort Go.Proofs.Ytlbijkafcododaa.Sta
set_option maxRecDepth 100000
variable {α : Type} [Inhabited α]

theorem insertion_s (enc : α → Value) (cf : α → α → Int) (g : Nat) (cb : Array Value) (blk off cap : Nat) (d0 : Array α) (w0 : World)
    (eg : ∀ args w, (callFunc g args).run Try.prog w = .ok (.enter g args) w) (hcmp : CmpLays1 Try.prog g cb enc cf blk off d0.size w0) (R : Row1 enc w0 blk off d0) (hsz : d0.size < 1152921504606846976)
    (a b : Nat) (d : Array α) (w : World) (hs : d0.size = d.size) (S : SW enc w0 blk off d w) (hab : a ≤ b) (hb : b ≤ d.size) :
    Calls Try.prog 164 #[.slice (some ⟨blk, off, none⟩) d0.size cap, .int .i64 a, .int .i64 b, .func (.func g) #[] cb] w fun e w' => e = .returned (.tuple #[]) ∧ SW enc w0 blk off (insertionSort (ltOf cf) d a b) w' := by
  rw [hs]
  exact Any.insertionSortCmpFunc_s Try.lIns enc cf g cb blk off cap a b d0 d w0 w eg hcmp R hs S hab hb (by omega)

theorem sym_s (enc : α → Value) (cf : α → α → Int) (L : α → α → Bool) (hT : Tr L) (hA : As L) (g : Nat) (cb : Array Value) (blk off cap : Nat) (d0 : Array α) (w0 : World)
    (eg : ∀ args w, (callFunc g args).run Try.prog w = .ok (.enter g args) w) (hcmp : CmpLays1 Try.prog g cb enc cf blk off d0.size w0) (R : Row1 enc w0 blk off d0) (hsz : d0.size < 1152921504606846976)
    (a m b : Nat) (d : Array α) (w : World) (h1 : a < m) (h2 : m < b) (h3 : b ≤ d0.size) (hs : d.size = d0.size) (S : SW enc w0 blk off d w) (hB1 : Asc L a m d) (hB2 : Asc L m b d) (hX : Cross (ltOf cf) L a m b d) :
    Calls Try.prog 165 #[.slice (some ⟨blk, off, none⟩) d0.size cap, .int .i64 a, .int .i64 m, .int .i64 b, .func (.func g) #[] cb] w fun e w' => e = .returned (.tuple #[]) ∧ ∃ d', Merged L a b d d' ∧ SW enc w0 blk off d' w' := by
  rw [← hs]
  exact symMerge_all enc cf L hT hA g cb blk off cap d0 w0 eg hcmp R hsz (b - a) a m b d w (Nat.le_refl _) h1 h2 (by omega) hs.symm S hB1 hB2 hX

set_option maxHeartbeats 8000000 in
theorem stable_s (enc : α → Value) (cf : α → α → Int) (L : α → α → Bool) (hT : Tr L) (hA : As L) (g : Nat) (cb : Array Value) (blk off cap : Nat) (d0 : Array α) (w0 : World)
    (eg : ∀ args w, (callFunc g args).run Try.prog w = .ok (.enter g args) w) (hcmp : CmpLays1 Try.prog g cb enc cf blk off d0.size w0) (R : Row1 enc w0 blk off d0) (hsz : d0.size < 1152921504606846976)
    (hG : ∀ p q, p < q → q < d0.size → Agree (ltOf cf) L d0[q]! d0[p]!) (S : SW enc w0 blk off d0 w0) :
    Calls Try.prog 129 #[.slice (some ⟨blk, off, none⟩) d0.size cap, .int .i64 d0.size, .func (.func g) #[] cb] w0 fun e w' => e = .returned (.tuple #[]) ∧ ∃ d', Sta.Loc L d0 0 d0.size d' ∧ d'.size = d0.size ∧ SW enc w0 blk off d' w' := by
  have INS := Lib.hid (insertion_s enc cf g cb blk off cap d0 w0 eg hcmp R hsz)
  have SYM := Lib.hid (sym_s enc cf L hT hA g cb blk off cap d0 w0 eg hcmp R hsz)
  have TT := Lib.hid (And.intro hT hA)
  have HG := Lib.hid hG
  have S0 : Aside (SW enc w0 blk off d0 w0) := S
  clear S hG hT hA hcmp eg
  go_enter Try.func129, Try.ntmps129
  go_wp2_with fail
  go_loopw [7, 8] (fun va vb wr => ∃ (a b : Nat) (d : Array α), va = .int .i64 a ∧ vb = .int .i64 b ∧ b ≤ a + 20 ∧ a + 20 ≤ b ∧ a ≤ d0.size ∧ Hid (P1 L d0 20 a d) ∧ Aside (SW enc w0 blk off d wr)) (fun va _ _ => d0.size - (intOf va).toNat)
  case atStart => exact ⟨0, 20, d0, rfl, rfl, by omega, by omega, Nat.zero_le _, Lib.hid (P1.start L d0 20 (by omega)), S0⟩
  case round =>
    clear S0
    obtain ⟨a, b, d, rfl, rfl, b1, b2, b3, HP, SJ⟩ := hrel
    have hz := Lib.hid HP.out.size
    by_cases hlt : b ≤ d0.size
    · have y1 : decide ((b : Int) ≤ (d0.size : Int)) = true := by simp; omega
      have HM := Lib.hid (insertion_merged (lt := ltOf cf) TT.out.1 TT.out.2 (a := a) (b := b) (by omega) (by rw [hz.out]; exact hlt) (HP.out.agree HG.out b hlt))
      go_wp2_with fail
      refine (INS.out a b d wr hz.out.symm SJ.out (by omega) (by rw [hz.out]; exact hlt)).mono ?_
      rintro e w1 ⟨rfl, s1⟩
      have S1 : Aside (SW enc w0 blk off (insertionSort (ltOf cf) d a b) w1) := s1
      clear s1
      have e1 : IntKind.i64.wrap ((b : Int) + 20) = ((b + 20 : Nat) : Int) := by rw [IntWalk.i64_in _ (by omega)]; omega
      go_wp2_with fail
      exact ⟨⟨b, b + 20, _, rfl, rfl, by omega, by omega, hlt, Lib.hid (HP.out.next (by omega) (by omega) hlt HM.out), S1⟩, by simp [intOf]; omega⟩
    · have y1 : decide ((b : Int) ≤ (d0.size : Int)) = false := by simp; omega
      have HM := Lib.hid (insertion_merged (lt := ltOf cf) TT.out.1 TT.out.2 (a := a) (b := d0.size) b3 (by rw [hz.out]; exact Nat.le_refl _) (HP.out.agree HG.out d0.size (Nat.le_refl _)))
      have HD := Lib.hid (HP.out.done (by omega) (by omega) HM.out)
      go_wp2_with fail
      refine (INS.out a d0.size d wr hz.out.symm SJ.out b3 (by rw [hz.out]; exact Nat.le_refl _)).mono ?_
      rintro e w1 ⟨rfl, s1⟩
      have S1 : Aside (SW enc w0 blk off (insertionSort (ltOf cf) d a d0.size) w1) := s1
      clear s1 HM HP SJ hz INS
      generalize insertionSort (ltOf cf) d a d0.size = d at *
      clear hlt y1 b1 b2 b3
      go_wp2_with fail
      go_loopw [6] (fun vs wr => ∃ (s : Nat) (d : Array α), vs = .int .i64 s ∧ 20 ≤ s ∧ s ≤ 2 * d0.size + 20 ∧ Hid (BlocksFrom L d0 s 0 d ∧ d.size = d0.size) ∧ Aside (SW enc w0 blk off d wr)) (fun vs _ => d0.size - (intOf vs).toNat)
      case atStart => exact ⟨20, d, rfl, by omega, by omega, HD, S1⟩
      case round =>
        clear S1 HD
        obtain ⟨s, d, rfl, p1, p2, HD, S1⟩ := hrel
        by_cases hlt : s < d0.size
        · have y1 : decide ((s : Int) < (d0.size : Int)) = true := by simp; omega
          have e1 : IntKind.i64.wrap (2 * (s : Int)) = ((2 * s : Nat) : Int) := by rw [IntWalk.i64_in _ (by omega)]; omega
          have e2 : IntKind.i64.wrap ((s : Int) * 2) = ((2 * s : Nat) : Int) := by rw [IntWalk.i64_in _ (by omega)]; omega
          obtain ⟨wo, hwo⟩ : ∃ wo, wo = wr := ⟨_, rfl⟩
          rw [← hwo] at S1 ⊢
          clear hwo
          go_wp2_with fail
          go_loopw [7, 8] (fun va vb wr => ∃ (a b : Nat) (d : Array α), va = .int .i64 a ∧ vb = .int .i64 b ∧ b ≤ a + 2 * s ∧ a + 2 * s ≤ b ∧ a ≤ d0.size ∧ Hid (P2 L d0 s a d) ∧ Aside (SW enc w0 blk off d wr)) (fun va _ _ => d0.size - (intOf va).toNat)
          case atStart => exact ⟨0, 2 * s, d, rfl, rfl, by omega, by omega, Nat.zero_le _, Lib.hid (P2.start (by omega) HD.out.1 HD.out.2), S1⟩
          case round =>
            clear S1 HD
            obtain ⟨a, b, d, rfl, rfl, b1, b2, b3, HP, SJ⟩ := hrel
            by_cases hb : b ≤ d0.size
            · have y2 : decide ((b : Int) ≤ (d0.size : Int)) = true := by simp; omega
              have HM := Lib.hid (HP.out.merge (m := a + s) (e := b) (by omega) rfl (by omega) (by omega) HG.out)
              have e3 : IntKind.i64.wrap ((a : Int) + (s : Int)) = ((a + s : Nat) : Int) := by rw [IntWalk.i64_in _ (by omega)]; omega
              have e4 : IntKind.i64.wrap ((b : Int) + ((2 * s : Nat) : Int)) = ((b + 2 * s : Nat) : Int) := by rw [IntWalk.i64_in _ (by omega)]; omega
              go_wp2_with fail
              refine (SYM.out a (a + s) b d wr (by omega) (by omega) hb HP.out.size SJ.out HM.out.1 HM.out.2.1 HM.out.2.2.1).mono ?_
              rintro e w1 ⟨rfl, d1, m1, s1⟩
              have HP1 := Lib.hid (HP.out.next (by omega) (by omega) hb m1 (HM.out.2.2.2 d1 m1))
              have S1 : Aside (SW enc w0 blk off d1 w1) := s1
              clear s1 m1 HM
              go_wp2_with fail
              exact ⟨⟨b, b + 2 * s, d1, rfl, rfl, by omega, by omega, hb, HP1, S1⟩, by simp [intOf]; omega⟩
            · have y2 : decide ((b : Int) ≤ (d0.size : Int)) = false := by simp; omega
              have e3 : IntKind.i64.wrap ((a : Int) + (s : Int)) = ((a + s : Nat) : Int) := by rw [IntWalk.i64_in _ (by omega)]; omega
              by_cases hm : a + s < d0.size
              · have y3 : decide (((a + s : Nat) : Int) < (d0.size : Int)) = true := by simp; omega
                have HM := Lib.hid (HP.out.merge (m := a + s) (e := d0.size) (by omega) rfl (by omega) hm HG.out)
                go_wp2_with fail
                refine (SYM.out a (a + s) d0.size d wr (by omega) hm (Nat.le_refl _) HP.out.size SJ.out HM.out.1 HM.out.2.1 HM.out.2.2.1).mono ?_
                rintro e w1 ⟨rfl, d1, m1, s1⟩
                have HP1 := Lib.hid (HP.out.end1 (by omega) (by omega) m1 (HM.out.2.2.2 d1 m1))
                have S1 : Aside (SW enc w0 blk off d1 w1) := s1
                clear s1 m1 HM
                go_wp2_with fail
                exact ⟨⟨2 * s, d1, rfl, by omega, by omega, HP1, S1⟩, by simp [intOf]; omega⟩
              · have y3 : decide (((a + s : Nat) : Int) < (d0.size : Int)) = false := by simp; omega
                have HP1 := Lib.hid (And.intro (HP.out.end2 (by omega) (by omega)) HP.out.size)
                go_wp2_with fail
                exact ⟨⟨2 * s, d, rfl, by omega, by omega, HP1, SJ⟩, by simp [intOf]; omega⟩
        · have y1 : decide ((s : Int) < (d0.size : Int)) = false := by simp; omega
          go_wp2_with fail
          refine bodyPost_end (results_none rfl _ _ _) rfl ?_
          exact ⟨rfl, d, HD.out.1.whole HD.out.2 (by omega), HD.out.2, S1.out⟩

theorem sortStable_s (enc : α → Value) (cf : α → α → Int) (L : α → α → Bool) (hT : Tr L) (hA : As L) (g : Nat) (cb : Array Value) (blk off cap : Nat) (d0 : Array α) (w0 : World)
    (eg : ∀ args w, (callFunc g args).run Try.prog w = .ok (.enter g args) w) (hcmp : CmpLays1 Try.prog g cb enc cf blk off d0.size w0) (R : Row1 enc w0 blk off d0) (hsz : d0.size < 1152921504606846976)
    (hG : ∀ p q, p < q → q < d0.size → Agree (ltOf cf) L d0[q]! d0[p]!) :
    Calls Try.prog 84 #[.slice (some ⟨blk, off, none⟩) d0.size cap, .func (.func g) #[] cb] w0 fun e w' => e = .returned (.tuple #[]) ∧ ∃ d', Sta.Loc L d0 0 d0.size d' ∧ d'.size = d0.size ∧ SW enc w0 blk off d' w' := by
  have ST := Lib.hid (stable_s enc cf L hT hA g cb blk off cap d0 w0 eg hcmp R hsz hG (SW.start R.hH))
  clear hG hcmp eg
  go_enter Try.func84, Try.ntmps84
  go_wp2_with fail
  refine ST.out.mono ?_
  rintro e w1 ⟨rfl, h⟩
  have H := Lib.hid h
  clear h
  go_wp2_with fail
  refine bodyPost_end (results_none rfl _ _ _) rfl ?_
  exact ⟨rfl, H.out⟩
end Go.Proofs.Ytlbijkafcododaa
