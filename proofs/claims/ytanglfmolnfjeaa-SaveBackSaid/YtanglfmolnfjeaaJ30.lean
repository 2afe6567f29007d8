/-
  Sums of bytes (layer 7): crc.run, crc.Of.
  Conditions: none.
  Four bytes of a number of 32 digits (layer 8): octet.Put32.
  Conditions: numbers below 2^32.
-/
import Derived.Test.YtanglfmolnfjeaaChecked
import Derived.Test.YtanglfmolnfjeaaJ29
import Derived.Test.YtanglfmolnfjeaaJ19
namespace Go.Proofs.Ytanglfmolnfjeaa
set_option linter.unusedVariables false
set_option linter.unusedSimpArgs false
open Go.RowKit Go.ChangeShapes Go.WideShapes
set_option maxRecDepth 100000
set_option maxHeartbeats 4000000

theorem low_nat (s : BitVec 32) : ∃ i : Nat, i < 16 ∧ v32 (s &&& 15#32) = (i : Int) ∧ BitVec.ofNat 32 i = s &&& 15#32 := by
  refine ⟨(s &&& 15#32).toNat, ?_, rfl, by simp⟩
  rw [BitVec.toNat_and]
  exact Nat.lt_of_le_of_lt Nat.and_le_right (by decide)
/-- Half a byte. -/
def chalf (s : BitVec 32) : BitVec 32 := s >>> 4 ^^^ csteps (s &&& 15#32) 4
theorem cbyte_half (v b : BitVec 32) : cbyte v b = chalf (chalf (v ^^^ b)) := cbyte_two v b

theorem crun_any (v : BitVec 32) (A : Option Addr) (n cap : Nat) (l : List Int) (w : World) (hs : Sl (tInt .u8) w (blo w.heap.size) A n cap l) :
    Calls Try.prog 39 #[.int .u32 (v32 v), .slice A n cap] w fun e w' => e = .returned (.int .u32 (v32 (crunTo v l n))) ∧ Below w.heap.size w w' := by
  have hm : n ≤ 9223372036854775807 := Nat.le_trans hs.cap_le hs.max_le
  have H := Lib.hid hs
  clear hs
  go_enter Try.func39, Try.ntmps39
  go_wp2_with fail
  refine (table_any _).mono ?_
  rintro e w2 ⟨rfl, hb⟩
  have FR := Lib.hid (show Far w w2 from ⟨hb⟩)
  clear hb
  go_wp2_with (refine wpList_store_all rfl 90 (.tmp 5) (.tmp 8) rfl w2.heap.size (ctab 16) rfl rfl _ _ (Blk.now _ _ _ _ rfl) (by rw [ctab_size]; rfl) (by rw [ctab_size]; kernel_rfl) (ctab_one 16) ?_; intro w3 B3 g3; have BT := Lib.hid B3; have G3 := Lib.hid (show Below w2.heap.size w2 w3 from ((Below.refl _ _).alloc (Nat.le_refl _) _).grown g3 (by simp) (fun k h => by have := Option.some.inj h; omega)); clear g3 B3)
  replace FR := Lib.hid (FR.out.fut G3.out)
  obtain ⟨g, hg⟩ : ∃ g, w2.heap.size = g := ⟨_, rfl⟩
  rw [hg] at BT ⊢
  clear hg G3
  go_loopw [0, 11] (fun x i wr => ∃ k : Nat, k ≤ n ∧ i = .int .i64 k ∧ x = .int .u32 (v32 (crunTo v l k)) ∧ wr = w3) (fun _ i _ => n - (intOf i).toNat)
  case atStart => exact ⟨0, Nat.zero_le _, rfl, rfl, rfl⟩
  case round =>
    obtain ⟨k, hk, rfl, rfl, rfl⟩ := hrel
    by_cases hlt : k < n
    · have p1 : (k : Int) < (n : Int) := by omega
      obtain ⟨b, off, rfl, _, _, c0, i0⟩ := (H.out.later FR.out.out (Nat.le_refl _)).int_at k hlt
      have CN := Lib.hid (show crunTo v l (k + 1) = cbyte (crunTo v l k) (BitVec.ofInt 32 (l.getD k 0)) from rfl)
      obtain ⟨c, hc⟩ : ∃ c, l.getD k 0 = c := ⟨_, rfl⟩
      rw [hc] at c0 i0 CN
      rw [inK_u8] at i0
      obtain ⟨i1, i2⟩ := i0
      obtain ⟨s, hs⟩ : ∃ s, crunTo v l k = s := ⟨_, rfl⟩
      rw [hs, cbyte_half] at CN
      rw [hs]
      have hx := xor_byte s c i1 i2
      obtain ⟨s2, hs2⟩ : ∃ x, s ^^^ BitVec.ofInt 32 c = x := ⟨_, rfl⟩
      rw [hs2] at hx CN
      obtain ⟨j1, q1, r1, t1⟩ := low_nat s2
      have a1 : bits .and .u32 (v32 s2) 15 = (j1 : Int) := by rw [← r1]; exact and_v32 s2 15#32
      have d1 := BT.out.cell j1
      rw [ctab_at 16 j1 q1, if_pos q1, t1] at d1
      have x1 : bits .xor .u32 (v32 (s2 >>> 4)) (v32 (csteps (s2 &&& 15#32) 4)) = v32 (chalf s2) := xor_v32 _ _
      have SH1 := Lib.hid (fun t w => shr_c32 Try.prog 4 (by decide) s2 t w)
      obtain ⟨s3, hs3⟩ : ∃ x, chalf s2 = x := ⟨_, rfl⟩
      rw [hs3] at x1 CN
      obtain ⟨j2, q2, r2, t2⟩ := low_nat s3
      have a2 : bits .and .u32 (v32 s3) 15 = (j2 : Int) := by rw [← r2]; exact and_v32 s3 15#32
      have d2 := BT.out.cell j2
      rw [ctab_at 16 j2 q2, if_pos q2, t2] at d2
      have x2 : bits .xor .u32 (v32 (s3 >>> 4)) (v32 (csteps (s3 &&& 15#32) 4)) = v32 (chalf s3) := xor_v32 _ _
      have SH2 := Lib.hid (fun t w => shr_c32 Try.prog 4 (by decide) s3 t w)
      rw [← CN.out] at x2
      clear hc hs hs2 hs3 r1 r2 t1 t2
      have b1 := v32_in s
      have b2 := v32_in s2
      have b3 := v32_in (s2 >>> 4)
      have b4 := v32_in (csteps (s2 &&& 15#32) 4)
      have b5 := v32_in s3
      have b6 := v32_in (s3 >>> 4)
      have b7 := v32_in (csteps (s3 &&& 15#32) 4)
      have b8 := v32_in (crunTo v l (k + 1))
      clear CN
      obtain ⟨y8, hy8⟩ : ∃ y, v32 (crunTo v l (k + 1)) = y := ⟨_, rfl⟩
      rw [hy8] at b8 x2
      have Y8 := Lib.hid hy8
      clear hy8
      generalize v32 (csteps (s3 &&& 15#32) 4) = y7 at *
      generalize v32 (s3 >>> 4) = y6 at *
      generalize v32 s3 = y5 at *
      generalize v32 (csteps (s2 &&& 15#32) 4) = y4 at *
      generalize v32 (s2 >>> 4) = y3 at *
      generalize v32 s2 = y2 at *
      generalize v32 s = y1 at *
      go_wp2_with (first | (refine wpList_op2 rfl .shr _ _ (.tmp 19) (.const (.int .u64 4)) rfl (.int .u32 y2) (.int .u64 4) (.int .u32 y3) rfl rfl (fun _ => rfl) (fun _ => SH1.out _ _) ?_; simp only [Act.put, List.getElem_toArray, List.getElem_cons_succ, List.getElem_cons_zero, List.setIfInBounds_toArray, List.set_cons_zero, List.set_cons_succ]) | (refine wpList_op2 rfl .shr _ _ (.tmp 26) (.const (.int .u64 4)) rfl (.int .u32 y5) (.int .u64 4) (.int .u32 y6) rfl rfl (fun _ => rfl) (fun _ => SH2.out _ _) ?_; simp only [Act.put, List.getElem_toArray, List.getElem_cons_succ, List.getElem_cons_zero, List.setIfInBounds_toArray, List.set_cons_zero, List.set_cons_succ]))
      exact ⟨⟨k + 1, by omega, by go_num, by rw [Y8.out], by trivial⟩, by simp [intOf]; omega⟩
    · obtain rfl : k = n := by omega
      go_wp2_with fail
      go_ret
      exact ⟨rfl, FR.out.out⟩

theorem crcOf_any (A : Option Addr) (n cap : Nat) (l : List Int) (w : World) (hs : Sl (tInt .u8) w (blo w.heap.size) A n cap l) :
    Calls Try.prog 21 #[.slice A n cap] w fun e w' => e = .returned (.int .u32 (v32 (crcV l))) ∧ Below w.heap.size w w' := by
  have RR := Lib.hid (crun_any 4294967295#32 A n cap l w hs)
  have CV := Lib.hid (show crcV l = 4294967295#32 ^^^ crunTo 4294967295#32 l n by rw [← hs.n_eq]; rfl)
  obtain ⟨r, hr⟩ : ∃ r, crunTo 4294967295#32 l n = r := ⟨_, rfl⟩
  rw [hr] at RR CV
  rw [CV.out]
  have hx : bits .xor .u32 4294967295 (v32 r) = v32 (4294967295#32 ^^^ r) := xor_v32 4294967295#32 r
  obtain ⟨z, hz⟩ : ∃ z, v32 (4294967295#32 ^^^ r) = z := ⟨_, rfl⟩
  obtain ⟨y, hy⟩ : ∃ y, v32 r = y := ⟨_, rfl⟩
  rw [hz, hy] at hx
  rw [hz]
  rw [hy] at RR
  clear hs hr hz hy CV
  go_enter Try.func21, Try.ntmps21
  go_wp2_with fail
  refine RR.out.mono ?_
  rintro e w' ⟨rfl, hb⟩
  go_wp2_with fail
  go_ret
  exact ⟨congrArg (fun x => Ending.returned (.int .u32 x)) (show bits .xor .u32 IntKind.u32.max y = z from hx), hb⟩
end Go.Proofs.Ytanglfmolnfjeaa
namespace Go.Proofs.Ytanglfmolnfjeaa
set_option linter.unusedVariables false
set_option linter.unusedSimpArgs false
open Go.RowKit Go.ChangeShapes Go.WideShapes
set_option maxRecDepth 100000
set_option maxHeartbeats 4000000

theorem shr_byte (P : Program) (n k : Nat) (hk : k ≤ 4) (t : TypeId) (w : World) : (binOp .shr t (.int .u32 (n : Int)) (.int .i64 (8 * (k : Int)))).run P w = .ok (.int .u32 ((n / 256 ^ k : Nat) : Int)) w := by
  have e : Op.shift .shr .u32 (n : Int) .i64 (8 * (k : Int)) = pure (.int .u32 ((n : Int) / 2 ^ (8 * (k : Int)).toNat)) := shift_shr_u32 .i64 (n : Int) (8 * (k : Int)) (by omega) (by omega)
  have e2 : (n : Int) / 2 ^ (8 * (k : Int)).toNat = ((n / 256 ^ k : Nat) : Int) := by
    rw [show (8 * (k : Int)).toNat = 8 * k by omega, show (256 : Nat) = 2 ^ 8 from rfl, ← Nat.pow_mul]
    simp
  rw [binOp_shr, e, e2]
  rfl

theorem put32_any (n : Nat) (w : World) (hn : n < 4294967296) : Calls Try.prog 20 #[.int .u32 n] w (RetSl (tInt .u8) w (put32V n)) := by
  have FV := Lib.hid (show put32V n = (List.range 4).map fun i => ((n / 256 ^ i % 256 : Nat) : Int) from rfl)
  go_enter Try.func20, Try.ntmps20
  go_wp2_with (at_make; refine wpList_make (t := tInt .u8) (S := fun _ => False) (base := w.heap.size) rfl _ _ rfl ei_u8 .i64 .i64 _ _ 4 rfl rfl rfl rfl ?_ ?_ ?_ 0 ⟨rfl, by decide⟩ (fun _ h => h.elim) ?_; rotate_right; intro w1 hown hg)
  rotate_left
  · omega
  · unfold maxLen; omega
  · simp
  have HO := Lib.hid hown
  have B1 := Lib.hid ((Below.refl w.heap.size w).grown hg (Nat.le_refl _) (by simp))
  clear hown hg
  go_loopw [8] (fun i wr => ∃ k : Nat, k ≤ 4 ∧ i = .int .i64 k ∧ Below w.heap.size w wr ∧
      Own (tInt .u8) wr (fun _ => False) w.heap.size 5 (.slice (some ⟨w.heap.size, 0, none⟩) 4 4) 4 (fillTo (fun i => ((n / 256 ^ i % 256 : Nat) : Int)) 4 k)) (fun i _ => 4 - (intOf i).toNat)
  case atStart => exact ⟨0, Nat.zero_le _, rfl, B1.out, by rw [fillTo_zero]; exact HO.out⟩
  case round =>
    obtain ⟨k, hk, rfl, hb, hown⟩ := hrel
    have HB := Lib.hid hb
    have ON := Lib.hid hown
    clear hb hown B1 HO
    by_cases hlt : k < 4
    · have p1 : (k : Int) < 4 := by omega
      have FS := Lib.hid (fillTo_set (fun i => ((n / 256 ^ i % 256 : Nat) : Int)) 4 k hlt)
      obtain ⟨x0, u0, _, _, c5, c6, c7, _⟩ := ON.out.cell rfl k hlt
      have SH := Lib.hid (fun t w => shr_byte Try.prog n k hk t w)
      obtain ⟨r, hr⟩ : ∃ r, n / 256 ^ k = r := ⟨_, rfl⟩
      rw [hr] at SH
      have HR := Lib.hid hr
      clear hr
      go_wp2_with (refine wpList_op2 rfl .shr _ _ (.tmp 13) (.tmp 15) rfl (.int .u32 (n : Int)) (.int .i64 (8 * (k : Int))) (.int .u32 (r : Int)) rfl rfl (fun _ => rfl) (fun _ => SH.out _ _) ?_; simp only [Act.put, List.getElem_toArray, List.getElem_cons_succ, List.getElem_cons_zero, List.setIfInBounds_toArray, List.set_cons_zero, List.set_cons_succ])
      obtain ⟨o3, g3⟩ := ON.out.set1 rfl k (.int .u8 ((r : Int) % 256)) ((r : Int) % 256) ⟨rfl, by rw [inK_u8]; omega⟩ (fun _ h => h.elim)
      refine ⟨⟨k + 1, by omega, by go_num, HB.out.setCell (Nat.le_refl _) _, ?_⟩, by simp [intOf]; omega⟩
      rw [← FS.out]
      simp only [HR.out]
      rw [Int.natCast_emod]
      exact o3
    · obtain rfl : k = 4 := by omega
      rw [fillTo_all] at ON
      clear hlt hk
      go_wp2_with fail
      go_ret
      rw [FV.out]
      exact ON.out.ret (by decide) HB.out (fun _ h => h.elim)
end Go.Proofs.Ytanglfmolnfjeaa
