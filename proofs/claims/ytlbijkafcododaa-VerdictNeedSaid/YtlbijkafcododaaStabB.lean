/-
  slices' swapRange and rotate at []int (or what stands for places in it): what they leave in the row.
  Conditions: within the row; fewer than 2^60 elements.
-/
import Derived.Test.YtlbijkafcododaaChecked
import Derived.Test.YtlbijkafcododaaStabA
import Derived.Test.YtlbijkafcododaaOwn
import Derived.Shelf.SlSortCmp.Kit1
import Derived.IntWalk
import Derived.BigRegion
import Derived.Deep.LoopGhost
namespace Go.Proofs.Ytlbijkafcododaa
set_option linter.unusedVariables false
set_option linter.unusedSimpArgs false
open Go.RowKit Go.ChangeShapes Go.WideShapes Go.Shelf Go.Lib Go.Sort Go.Proofs.Ytlbijkafcododaa.Sta
set_option maxRecDepth 100000
variable {α : Type} [Inhabited α]

set_option maxHeartbeats 2000000 in
theorem swapRange_s (enc : α → Value) (blk off cap a b n : Nat) (F : Value) (d0 d : Array α) (w0 w : World) (R : Row1 enc w0 blk off d0) (hs : d0.size = d.size) (S : SW enc w0 blk off d w)
    (h1 : a + n ≤ b) (h2 : b + n ≤ d.size) (hsz : d.size < 1152921504606846976) :
    Calls Try.prog 209 #[.slice (some ⟨blk, off, none⟩) d.size cap, .int .i64 a, .int .i64 b, .int .i64 n, F] w fun e w' => e = .returned (.tuple #[]) ∧ SW enc w0 blk off (swpRange d a b n) w' := by
  have hcl0 := R.hO.cells
  simp only [Value.cells] at hcl0
  have hst := R.hO.store Try.prog
  have S0 : Aside (SW enc w0 blk off d w) := S
  clear S
  have HS := Lib.hid hs
  clear hs
  go_enter Try.func209, Try.ntmps209
  go_wp2_with fail
  go_loopw [10] (fun vi wr => ∃ k : Nat, k ≤ n ∧ vi = .int .i64 k ∧ Aside (SW enc w0 blk off (swpRange d a b k) wr)) (fun vi _ => n - (intOf vi).toNat)
  case atStart => exact ⟨0, Nat.zero_le _, rfl, S0⟩
  case round =>
    clear S0
    obtain ⟨k, hk, rfl, SJ⟩ := hrel
    by_cases hlt : k < n
    · have hltz : (k : Int) < (n : Int) := by omega
      have hz : (swpRange d a b k).size = d.size := swpRange_size _ _ _ _
      have hzl : (swpRange d a b k).size = d0.size := by rw [hz, HS.out]
      have HN := Lib.hid (show swpRange d a b (k + 1) = swp (swpRange d a b k) (a + k) (b + k) from rfl)
      generalize swpRange d a b k = dk at *
      obtain ⟨iN, hiN⟩ : ∃ q, q = a + k := ⟨_, rfl⟩
      obtain ⟨jN, hjN⟩ : ∃ q, q = b + k := ⟨_, rfl⟩
      have ea : ((a : Int) + (k : Int)).toNat = iN := by omega
      have pa : (0 : Int) ≤ (a : Int) + (k : Int) := by omega
      have ba : (a : Int) + (k : Int) < (d.size : Int) := by omega
      have ec : ((b : Int) + (k : Int)).toNat = jN := by omega
      have pc : (0 : Int) ≤ (b : Int) + (k : Int) := by omega
      have bc : (b : Int) + (k : Int) < (d.size : Int) := by omega
      have ra : IntKind.i64.wrap ((a : Int) + (k : Int)) = (a : Int) + (k : Int) := IntWalk.i64_in _ (by omega)
      have rc : IntKind.i64.wrap ((b : Int) + (k : Int)) = (b : Int) + (k : Int) := IntWalk.i64_in _ (by omega)
      obtain ⟨x, hx⟩ : ∃ x, x = dk[a + k]! := ⟨_, rfl⟩
      obtain ⟨y, hy⟩ : ∃ x, x = dk[b + k]! := ⟨_, rfl⟩
      have S3 : Aside (SW enc w0 blk off (swp dk (a + k) (b + k)) ((wr.setCell ⟨blk, off + iN, none⟩ (enc y)).setCell ⟨blk, off + jN, none⟩ (enc x)).drew) := by rw [hiN, hjN, hx, hy]; exact SJ.out.swapped R (a + k) (b + k) (by omega) (by omega)
      have c1 := SJ.out.c1 R hzl (a + k) (by omega)
      have c2 := SJ.out.c1 R hzl (b + k) (by omega)
      have f1 := SJ.out.f1 R hzl (a + k) (by omega)
      have f2 := SJ.out.f1 R hzl (b + k) (by omega)
      obtain ⟨u, c3⟩ := SJ.out.c2 R hzl (a + k) (b + k) (by omega) (by omega) (enc y)
      rw [← hjN, ← hiN] at c3
      rw [← hx, ← hiN] at c1
      rw [← hy, ← hjN] at c2
      rw [← hiN] at f1
      rw [← hjN] at f2
      rw [← HN.out] at S3
      clear SJ hx hy hiN hjN hz hzl HN
      go_wp2_with fail
      go_big_region
      clear c1 c2 c3 f1 f2
      generalize ((wr.setCell ⟨blk, off + iN, none⟩ (enc y)).setCell ⟨blk, off + jN, none⟩ (enc x)).drew = w3 at S3 ⊢
      clear ea ec
      go_wp2_with fail
      exact ⟨⟨k + 1, by omega, by go_num, S3⟩, by simp [intOf]; omega⟩
    · obtain rfl : k = n := by omega
      go_wp2_with fail
      refine bodyPost_end (results_none rfl _ _ _) rfl ?_
      exact ⟨rfl, SJ.out⟩

set_option maxHeartbeats 2000000 in
theorem rotate_s (enc : α → Value) (blk off cap a m b : Nat) (F : Value) (d0 d : Array α) (w0 w : World) (R : Row1 enc w0 blk off d0) (hs : d0.size = d.size) (S : SW enc w0 blk off d w)
    (h1 : a < m) (h2 : m < b) (h3 : b ≤ d.size) (hsz : d.size < 1152921504606846976) :
    Calls Try.prog 188 #[.slice (some ⟨blk, off, none⟩) d.size cap, .int .i64 a, .int .i64 m, .int .i64 b, F] w fun e w' => e = .returned (.tuple #[]) ∧ ∃ d', Turned a m b d d' ∧ SW enc w0 blk off d' w' := by
  have T0 := Lib.hid (Rot.start d h1 h2)
  have S0 : Aside (SW enc w0 blk off d w) := S
  clear S
  have HS := Lib.hid hs
  clear hs
  have e1 : IntKind.i64.wrap ((m : Int) - (a : Int)) = (m : Int) - (a : Int) := IntWalk.i64_in _ (by omega)
  have e2 : IntKind.i64.wrap ((b : Int) - (m : Int)) = (b : Int) - (m : Int) := IntWalk.i64_in _ (by omega)
  go_enter Try.func188, Try.ntmps188
  go_wp2_with fail
  clear e1 e2
  go_loopw [10, 11] (fun vi vj wr => ∃ (i j : Nat) (dk : Array α), vi = .int .i64 i ∧ vj = .int .i64 j ∧ Hid (Rot a m b d i j dk) ∧ Aside (SW enc w0 blk off dk wr)) (fun vi vj _ => (intOf vi).toNat + (intOf vj).toNat)
  case atStart => exact ⟨m - a, b - m, d, by congr 1; omega, by congr 1; omega, T0, S0⟩
  case round =>
    clear S0 T0
    obtain ⟨i, j, dk, rfl, rfl, HT, SJ⟩ := hrel
    have z := HT.out.size
    have p1 := HT.out.hi
    have p2 := HT.out.hj
    have p3 := HT.out.la
    have p4 := HT.out.lb
    have r1 : IntKind.i64.wrap ((m : Int) - (i : Int)) = ((m - i : Nat) : Int) := by rw [IntWalk.i64_in _ (by omega)]; omega
    rw [← z]
    have z' := Lib.hid z
    have hsz2 : dk.size < 1152921504606846976 := by omega
    have hb2 : b ≤ dk.size := by omega
    clear z
    by_cases hij : i = j
    · subst hij
      have t0 : ((i : Int) != (i : Int)) = false := by simp
      go_wp2_with fail
      refine (swapRange_s enc blk off cap (m - i) m i F d0 dk w0 wr R (by rw [HS.out, z'.out]) SJ.out (by omega) (by omega) (by omega)).mono ?_
      rintro e w1 ⟨rfl, s1⟩
      have S1 : Aside (SW enc w0 blk off (swpRange dk (m - i) m i) w1) := s1
      clear s1
      go_wp2_with fail
      refine bodyPost_end (results_none rfl _ _ _) rfl ?_
      exact ⟨rfl, _, HT.out.done h3, S1.out⟩
    · have t0 : ((i : Int) != (j : Int)) = true := by simp; omega
      by_cases hgt : j < i
      · have t1 : decide ((j : Int) < (i : Int)) = true := by simp; omega
        have r2 : IntKind.i64.wrap ((i : Int) - (j : Int)) = ((i - j : Nat) : Int) := by rw [IntWalk.i64_in _ (by omega)]; omega
        clear hij
        go_wp2_with fail
        refine (swapRange_s enc blk off cap (m - i) m j F d0 dk w0 wr R (by rw [HS.out, z'.out]) SJ.out (by omega) (by omega) (by omega)).mono ?_
        rintro e w1 ⟨rfl, s1⟩
        have S1 : Aside (SW enc w0 blk off (swpRange dk (m - i) m j) w1) := s1
        clear s1
        go_wp2_with fail
        exact ⟨⟨i - j, j, _, rfl, rfl, Lib.hid (HT.out.left h3 hgt), S1⟩, by simp [intOf]; omega⟩
      · have hlt3 : i < j := by omega
        have t1 : decide ((j : Int) < (i : Int)) = false := by simp; omega
        have r2 : IntKind.i64.wrap ((j : Int) - (i : Int)) = ((j - i : Nat) : Int) := by rw [IntWalk.i64_in _ (by omega)]; omega
        have r3 : IntKind.i64.wrap ((m : Int) + (j : Int)) = (m : Int) + (j : Int) := IntWalk.i64_in _ (by omega)
        have r4 : IntKind.i64.wrap ((m : Int) + (j : Int) - (i : Int)) = ((m + j - i : Nat) : Int) := by rw [IntWalk.i64_in _ (by omega)]; omega
        clear hij
        go_wp2_with fail
        refine (swapRange_s enc blk off cap (m - i) (m + j - i) i F d0 dk w0 wr R (by rw [HS.out, z'.out]) SJ.out (by omega) (by omega) (by omega)).mono ?_
        rintro e w1 ⟨rfl, s1⟩
        have S1 : Aside (SW enc w0 blk off (swpRange dk (m - i) (m + j - i) i) w1) := s1
        clear s1
        go_wp2_with fail
        exact ⟨⟨i, j - i, _, rfl, rfl, Lib.hid (HT.out.right h3 hlt3), S1⟩, by simp [intOf]; omega⟩
end Go.Proofs.Ytlbijkafcododaa
