/-
  A ring: Leave; Add's refusals (layer 41).
  Conditions: at most 2^40 numbers in all.
-/
import Derived.Test.YtlbijkafcododaaChecked
import Derived.Test.YtlbijkafcododaaRingJ
namespace Go.Proofs.Ytlbijkafcododaa
set_option linter.unusedVariables false
set_option linter.unusedSimpArgs false
open Go.RowKit Go.ChangeShapes Go.WideShapes
set_option maxRecDepth 100000

theorem ringLeave_x (X : Nat → Prop) (g : Nat) (a b : List Int) (m : Int) (w : World) (h : RingX X w g a b m) :
    Calls Try.prog 27 #[.pointer (some ⟨g, 0, none⟩)] w fun e w' => e = .returned (.bool (decide (0 < b.length))) ∧ RingX X w' g a (b.drop 1) m ∧ w.grownBy w' (some g) := by
  have H := Lib.hid h
  clear h
  obtain ⟨y, hy⟩ : ∃ y, b.getD 0 0 = y := ⟨_, rfl⟩
  obtain ⟨t, ht⟩ : ∃ t, decide (0 < b.length) = t := ⟨_, rfl⟩
  have N := Lib.hid (fun w (H : RingX X w g a b m) => ringTurn_x X g a b m w H)
  rw [hy, ht] at N
  rw [ht]
  clear hy ht
  go_enter Try.func27, Try.ntmps27
  go_wp2_with fail
  refine (N.out w H.out).mono ?_
  rintro e w1 ⟨rfl, hr, hg⟩
  clear N H
  have HR := Lib.hid hr
  have HG := Lib.hid hg
  clear hr hg
  go_wp2_with fail
  go_ret
  exact ⟨rfl, HR.out, HG.out⟩

theorem ringAdd_bad (g : Nat) (a b : List Int) (m y : Int) (w : World) (h : RingAt w g a b m) (hn : a.length + b.length ≤ 1099511627776) (hy : y < 1 ∨ (a ++ b).contains y = true) :
    Calls Try.prog 20 #[.pointer (some ⟨g, 0, none⟩), .int .i64 y] w fun e w' => e = .returned (.int .i64 2) ∧ Below w.heap.size w w' := by
  have H := Lib.hid h
  clear h
  by_cases h1 : y < 1
  · have ty : decide (y < 1) = true := by simp; omega
    clear hy h1
    go_enter Try.func20, Try.ntmps20
    go_wp2_with fail
    go_ret
    exact ⟨rfl, Below.refl _ _⟩
  · have hc : (a ++ b).contains y = true := by
      rcases hy with h | h
      · exact absurd h h1
      · exact h
    have ty : decide (y < 1) = false := by simp; omega
    have CT := Lib.hid (fun A n cap w h => contains_any A n cap (a ++ b) y w h)
    rw [hc] at CT
    clear hy h1 hc
    go_enter Try.func20, Try.ntmps20
    go_wp2_with fail
    refine (ringList_any g a b m w H.out hn).mono ?_
    rintro e w1 ⟨B, q, r, rfl, hs, hb⟩
    have S1 := Lib.hid (hs.more bin_blo)
    have B1 := Lib.hid hb
    clear hs hb
    go_wp2_with fail
    refine (CT.out B q r w1 S1.out).mono ?_
    rintro e w2 ⟨rfl, hb⟩
    have B2 := below_call B1.out hb B1.out.size
    clear hb CT
    go_wp2_with fail
    go_ret
    exact ⟨rfl, B2⟩

theorem ringAdd_full (g : Nat) (a b : List Int) (m y : Int) (w : World) (h : RingAt w g a b m) (hn : ((a.length + b.length : Nat) : Int) = m) (hm : 0 ≤ m ∧ m ≤ 1073741824) (hy : 1 ≤ y) (hc : (a ++ b).contains y = false) :
    Calls Try.prog 20 #[.pointer (some ⟨g, 0, none⟩), .int .i64 y] w fun e w' => e = .returned (.int .i64 4) ∧ Below w.heap.size w w' := by
  have H := Lib.hid h
  have hq0 : a.length + b.length ≤ 1099511627776 := by omega
  have R := Lib.hid (fun w H => ringRoom_any g a b m w H hq0 ⟨hm.1, by omega⟩)
  have hr : ((m - ((a.length + b.length : Nat) : Int)) == 0) = true := by simp; omega
  have CT := Lib.hid (fun A n cap w h => contains_any A n cap (a ++ b) y w h)
  rw [hc] at CT
  have ty : decide (y < 1) = false := by simp; omega
  have L := Lib.hid (fun w H => ringList_any g a b m w H hq0)
  generalize (m - ((a.length + b.length : Nat) : Int)) = room at *
  clear h hc hn hm hq0
  go_enter Try.func20, Try.ntmps20
  go_wp2_with fail
  refine (L.out w H.out).mono ?_
  rintro e w1 ⟨B, q, r, rfl, hs, hb⟩
  have S1 := Lib.hid (hs.more bin_blo)
  have B1 := Lib.hid hb
  clear hs hb
  go_wp2_with fail
  refine (CT.out B q r w1 S1.out).mono ?_
  rintro e w2 ⟨rfl, hb⟩
  have B2 := Lib.hid (below_call B1.out hb B1.out.size)
  clear hb
  go_wp2_with fail
  refine (R.out w2 (H.out.later B2.out)).mono ?_
  rintro e w0 ⟨rfl, hb⟩
  have B3 := below_call B2.out hb B2.out.size
  clear hb L R CT
  go_wp2_with fail
  go_ret
  exact ⟨rfl, B3⟩
end Go.Proofs.Ytlbijkafcododaa
