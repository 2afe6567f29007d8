/-
  Sums of bytes (layer 7): the document's Step, run, Of.
  Conditions: none.
  Sums of bytes (layer 7): the document's Of.
  Conditions: none.
-/
import Derived.Test.YtanglfmolnfjeaaChecked
import Derived.Test.YtanglfmolnfjeaaJ27
import Derived.Test.YtanglfmolnfjeaaJ03
import Derived.Test.YtanglfmolnfjeaaJ04
namespace Go.Proofs.Ytanglfmolnfjeaa
set_option linter.unusedVariables false
set_option linter.unusedSimpArgs false
open Go.RowKit Go.ChangeShapes Go.WideShapes
set_option maxRecDepth 100000
set_option maxHeartbeats 4000000

theorem v32_odd (v : BitVec 32) : v32 v % 2 = if v.getLsbD 0 then 1 else 0 := by
  unfold v32 BitVec.getLsbD
  rw [Nat.testBit_zero]
  by_cases h : v.toNat % 2 = 1
  · simp [h]; omega
  · simp [h]; omega
theorem rstep_any (v : BitVec 32) (w : World) : Calls Try.prog 57 #[.int .u32 (v32 v)] w fun e w' => e = .returned (.int .u32 (v32 (cstep v))) ∧ w' = w := by
  have ho := v32_odd v
  obtain ⟨b1, b2⟩ := v32_in v
  have hq : v32 v / (2 : Int) = v32 (v >>> 1) := shr_v32 v 1
  have hx : bits .xor .u32 (v32 (v >>> 1)) 3988292384 = v32 (v >>> 1 ^^^ 3988292384#32) := xor_v32 (v >>> 1) 3988292384#32
  obtain ⟨c1, c2⟩ := v32_in (v >>> 1)
  obtain ⟨d1, d2⟩ := v32_in (v >>> 1 ^^^ 3988292384#32)
  have CS := Lib.hid (show cstep v = if v.getLsbD 0 then (v >>> 1) ^^^ 3988292384#32 else v >>> 1 from rfl)
  cases hg : v.getLsbD 0 with
  | true =>
    rw [hg] at CS ho
    rw [if_pos rfl] at ho
    have C2 := Lib.hid (show v32 (cstep v) = v32 (v >>> 1 ^^^ 3988292384#32) by rw [CS.out]; rfl)
    rw [C2.out]
    clear CS hg C2
    generalize v32 (v >>> 1 ^^^ 3988292384#32) = z at *
    generalize v32 (v >>> 1) = y at *
    generalize v32 v = x at *
    have t1 : (x % 2 == 1) = true := by simp [ho]
    clear ho
    go_enter Try.func57, Try.ntmps57
    go_wp2_with fail
    go_ret
    exact ⟨rfl, rfl⟩
  | false =>
    rw [hg] at CS ho
    rw [if_neg (by decide)] at ho
    have C2 := Lib.hid (show v32 (cstep v) = v32 (v >>> 1) by rw [CS.out]; rfl)
    rw [C2.out]
    clear CS hg C2 hx d1 d2
    generalize v32 (v >>> 1) = y at *
    generalize v32 v = x at *
    have t1 : (x % 2 == 1) = false := by simp [ho]
    clear ho
    go_enter Try.func57, Try.ntmps57
    go_wp2_with fail
    go_ret
    exact ⟨by show Ending.returned (.int .u32 (x / 2)) = _; rw [hq], rfl⟩

/-- What a row of bytes makes of a sum. -/
def crunTo (v : BitVec 32) (l : List Int) : Nat → BitVec 32
  | 0 => v
  | k + 1 => cbyte (crunTo v l k) (BitVec.ofInt 32 (l.getD k 0))
theorem xor_byte (v : BitVec 32) (c : Int) (h1 : 0 ≤ c) (h2 : c ≤ 255) : bits .xor .u32 (v32 v) c = v32 (v ^^^ BitVec.ofInt 32 c) := by
  have : c = v32 (BitVec.ofInt 32 c) := by
    unfold v32
    rw [BitVec.toNat_ofInt]
    omega
  conv => lhs; rw [this]
  exact xor_v32 _ _

theorem rcrun_any (v : BitVec 32) (A : Option Addr) (n cap : Nat) (l : List Int) (w : World) (hs : Sl (tInt .u8) w (blo w.heap.size) A n cap l) :
    Calls Try.prog 47 #[.int .u32 (v32 v), .slice A n cap] w fun e w' => e = .returned (.int .u32 (v32 (crunTo v l n))) ∧ w' = w := by
  have hm : n ≤ 9223372036854775807 := Nat.le_trans hs.cap_le hs.max_le
  have H := Lib.hid hs
  clear hs
  go_enter Try.func47, Try.ntmps47
  go_wp2_with fail
  go_loopw [0, 5] (fun x i wr => ∃ k : Nat, k ≤ n ∧ i = .int .i64 k ∧ x = .int .u32 (v32 (crunTo v l k)) ∧ wr = w) (fun _ i _ => n - (intOf i).toNat)
  case atStart => exact ⟨0, Nat.zero_le _, rfl, rfl, rfl⟩
  case round =>
    obtain ⟨k, hk, rfl, rfl, rfl⟩ := hrel
    by_cases hlt : k < n
    · have p1 : (k : Int) < (n : Int) := by omega
      obtain ⟨b, off, rfl, _, _, c0, i0⟩ := H.out.int_at k hlt
      have CN := Lib.hid (show crunTo v l (k + 1) = csteps (crunTo v l k ^^^ BitVec.ofInt 32 (l.getD k 0)) 8 from rfl)
      obtain ⟨c, hc⟩ : ∃ c, l.getD k 0 = c := ⟨_, rfl⟩
      rw [hc] at c0 i0 CN
      rw [inK_u8] at i0
      obtain ⟨i1, i2⟩ := i0
      obtain ⟨s, hs⟩ : ∃ s, crunTo v l k = s := ⟨_, rfl⟩
      rw [hs] at CN ⊢
      have hx := xor_byte s c i1 i2
      obtain ⟨d1, d2⟩ := v32_in (s ^^^ BitVec.ofInt 32 c)
      clear hc hs
      go_wp2_with fail
      obtain ⟨s2, hs2⟩ : ∃ x, s ^^^ BitVec.ofInt 32 c = x := ⟨_, rfl⟩
      rw [hs2] at CN ⊢
      clear hx d1 d2 hs2
      go_loopw [0, 6] (fun x i wx => ∃ j : Nat, j ≤ 8 ∧ i = .int .i64 j ∧ x = .int .u32 (v32 (csteps s2 j)) ∧ wx = wr) (fun _ i _ => 8 - (intOf i).toNat)
      case atStart => exact ⟨0, Nat.zero_le _, rfl, rfl, rfl⟩
      case round =>
        obtain ⟨j, hj, rfl, rfl, rfl⟩ := hrel
        by_cases hlj : j < 8
        · have p2 : (j : Int) < 8 := by omega
          have ST := Lib.hid (fun w => rstep_any (csteps s2 j) w)
          have SN := Lib.hid (show csteps s2 (j + 1) = cstep (csteps s2 j) from rfl)
          obtain ⟨q, hq⟩ : ∃ q, csteps s2 j = q := ⟨_, rfl⟩
          rw [hq] at ST SN ⊢
          clear hq
          go_wp2_with fail
          refine (ST.out _).mono ?_
          rintro e w' ⟨rfl, rfl⟩
          go_wp2_with fail
          exact ⟨⟨j + 1, by omega, by go_num, by rw [SN.out], by trivial⟩, by simp [intOf]; omega⟩
        · obtain rfl : j = 8 := by omega
          clear hlj hj
          go_wp2_with fail
          exact ⟨⟨k + 1, by omega, by go_num, by rw [CN.out], by trivial⟩, by simp [intOf]; omega⟩
    · obtain rfl : k = n := by omega
      go_wp2_with fail
      go_ret
      exact ⟨rfl, by trivial⟩
end Go.Proofs.Ytanglfmolnfjeaa
namespace Go.Proofs.Ytanglfmolnfjeaa
set_option linter.unusedVariables false
set_option linter.unusedSimpArgs false
open Go.RowKit Go.ChangeShapes Go.WideShapes
set_option maxRecDepth 100000
set_option maxHeartbeats 4000000

/-- The sum of a row of bytes. -/
def crcV (l : List Int) : BitVec 32 := 4294967295#32 ^^^ crunTo 4294967295#32 l l.length
theorem rcrcOf_any (A : Option Addr) (n cap : Nat) (l : List Int) (w : World) (hs : Sl (tInt .u8) w (blo w.heap.size) A n cap l) :
    Calls Try.prog 31 #[.slice A n cap] w fun e w' => e = .returned (.int .u32 (v32 (crcV l))) ∧ w' = w := by
  have RR := Lib.hid (rcrun_any 4294967295#32 A n cap l w hs)
  have CV := Lib.hid (show crcV l = 4294967295#32 ^^^ crunTo 4294967295#32 l n by rw [← hs.n_eq]; rfl)
  obtain ⟨r, hr⟩ : ∃ r, crunTo 4294967295#32 l n = r := ⟨_, rfl⟩
  rw [hr] at RR CV
  rw [CV.out]
  have hx : bits .xor .u32 4294967295 (v32 r) = v32 (4294967295#32 ^^^ r) := xor_v32 4294967295#32 r
  obtain ⟨z, hz⟩ : ∃ z, v32 (4294967295#32 ^^^ r) = z := ⟨_, rfl⟩
  obtain ⟨y, hy⟩ : ∃ y, v32 r = y := ⟨_, rfl⟩
  rw [hz, hy] at hx
  rw [hz]
  rw [hy] at RR
  clear hs hr hz hy CV
  go_enter Try.func31, Try.ntmps31
  go_wp2_with fail
  refine RR.out.mono ?_
  rintro e w' ⟨rfl, rfl⟩
  go_wp2_with fail
  go_ret
  exact ⟨congrArg (fun x => Ending.returned (.int .u32 x)) (show bits .xor .u32 IntKind.u32.max y = z from hx), rfl⟩
end Go.Proofs.Ytanglfmolnfjeaa
