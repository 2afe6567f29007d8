/-
  Sums of bytes (layer 7): crc.Table.
  Conditions: none.
-/
import Derived.Test.YtanglfmolnfjeaaChecked
import Derived.Test.YtanglfmolnfjeaaJ28
import Derived.Test.YtanglfmolnfjeaaJ04
import Derived.Test.YtanglfmolnfjeaaJ17
namespace Go.Proofs.Ytanglfmolnfjeaa
set_option linter.unusedVariables false
set_option linter.unusedSimpArgs false
open Go.RowKit Go.ChangeShapes Go.WideShapes
set_option maxRecDepth 100000
set_option maxHeartbeats 4000000

theorem shr_c32 (P : Program) (n : Nat) (hn : n < 32) (x : BitVec 32) (t : TypeId) (w : World) : (binOp .shr t (.int .u32 (v32 x)) (.int .u64 (n : Int))).run P w = .ok (.int .u32 (v32 (x >>> n))) w := by
  have e : Op.shift .shr .u32 (v32 x) .u64 (n : Int) = pure (.int .u32 (v32 x / 2 ^ (n : Int).toNat)) := shift_shr_u32 .u64 (v32 x) (n : Int) (by omega) (by omega)
  rw [binOp_shr, e, Int.toNat_natCast, shr_v32]
  rfl

/-- What is taken off: all digits of the polynomial, or none. -/
theorem mask_v32 (x : BitVec 32) : bits .and .u32 3988292384 (IntKind.u32.wrap (-(bits .and .u32 (v32 x) 1))) = v32 (if x.getLsbD 0 then 3988292384#32 else 0#32) := by
  have h1 : bits .and .u32 (v32 x) 1 = if x.getLsbD 0 then 1 else 0 := by
    rw [show (1 : Int) = v32 1#32 from rfl, and_v32]
    have : x &&& 1#32 = if x.getLsbD 0 then 1#32 else 0#32 := by
      apply BitVec.eq_of_getLsbD_eq
      intro i hi
      rw [BitVec.getLsbD_and]
      by_cases h0 : i = 0
      · subst h0; cases x.getLsbD 0 <;> rfl
      · have : (1#32).getLsbD i = false := by
          rw [BitVec.getLsbD_ofNat]
          have : Nat.testBit 1 i = false := by
            cases i with
            | zero => exact absurd rfl h0
            | succ i => rw [Nat.testBit_succ]; simp
          simp [this]
        rw [this]
        cases x.getLsbD 0 <;> simp [this]
    rw [this]
    cases x.getLsbD 0 <;> rfl
  rw [h1]
  cases x.getLsbD 0 <;> rfl
theorem cstep_mask (x : BitVec 32) : cstep x = (x >>> 1) ^^^ (if x.getLsbD 0 then 3988292384#32 else 0#32) := by
  unfold cstep
  cases x.getLsbD 0 <;> simp

/-- The table, as far as it is filled. -/
def ctab (k : Nat) : Array Value := (Array.range 16).map fun i => if i < k then .int .u32 (v32 (csteps (BitVec.ofNat 32 i) 4)) else .int .u32 0
theorem ctab_at (k i : Nat) (h : i < 16) : (ctab k)[i]? = some (if i < k then .int .u32 (v32 (csteps (BitVec.ofNat 32 i) 4)) else .int .u32 0) := by
  unfold ctab
  rw [Array.getElem?_map, Array.getElem?_range, if_pos h]; rfl
theorem ctab_size (k : Nat) : (ctab k).size = 16 := by simp [ctab]
theorem ctab0 : ctab 0 = #[.int .u32 0, .int .u32 0, .int .u32 0, .int .u32 0, .int .u32 0, .int .u32 0, .int .u32 0, .int .u32 0, .int .u32 0, .int .u32 0, .int .u32 0, .int .u32 0, .int .u32 0, .int .u32 0, .int .u32 0, .int .u32 0] := by kernel_rfl
theorem ctab_set (k : Nat) (h : k < 16) : (ctab k).setIfInBounds k (.int .u32 (v32 (csteps (BitVec.ofNat 32 k) 4))) = ctab (k + 1) := by
  apply Array.ext_getElem?
  intro i
  rw [Array.getElem?_setIfInBounds]
  by_cases hi : i < 16
  · rw [ctab_at k i hi, ctab_at (k + 1) i hi]
    by_cases e : k = i
    · subst e; simp [ctab_size, h]
    · rw [if_neg e]
      by_cases c : i < k
      · rw [if_pos c, if_pos (by omega)]
      · rw [if_neg c, if_neg (by omega)]
  · rw [if_neg (by omega), Array.getElem?_eq_none (by rw [ctab_size]; omega), Array.getElem?_eq_none (by rw [ctab_size]; omega)]

theorem and1_v32 (x : BitVec 32) : bits .and .u32 (v32 x) 1 = if x.getLsbD 0 then 1 else 0 := by
  rw [show (1 : Int) = v32 1#32 from rfl, and_v32]
  have : x &&& 1#32 = if x.getLsbD 0 then 1#32 else 0#32 := by
    apply BitVec.eq_of_getLsbD_eq
    intro i hi
    rw [BitVec.getLsbD_and]
    by_cases h0 : i = 0
    · subst h0; cases x.getLsbD 0 <;> rfl
    · have : (1#32).getLsbD i = false := by
        rw [BitVec.getLsbD_ofNat]
        have : Nat.testBit 1 i = false := by
          cases i with
          | zero => exact absurd rfl h0
          | succ i => rw [Nat.testBit_succ]; simp
        simp [this]
      rw [this]
      cases x.getLsbD 0 <;> simp [this]
  rw [this]
  cases x.getLsbD 0 <;> rfl

theorem ctab_one (k : Nat) : (ctab k).all (·.oneCell') = true := by
  rw [Array.all_eq_true]
  intro i hi
  have h := ctab_at k i (by rw [← ctab_size k]; exact hi)
  rw [Array.getElem?_eq_getElem hi] at h
  have h := Option.some.inj h
  rw [h]
  split <;> rfl
/-- An array is handed back. -/
theorem ret_array {P : Program} {fn : Func} {R : Ending → World → Prop} {a : Act} {w : World} {g : Nat} {e ty el : TypeId} {n : Nat} {cs : Array Value} {p : Tmp} (h : fn.results = #[.cell p ty]) (hb : Blk w g e cs) (hp : a.tmps.getD p undef = .pointer (some ⟨g, 0, none⟩)) (hu : P.underlying ty = some (.array n el)) (hi : (P.info? ty).map (·.size) = some cs.size) (hd : a.defers = [])
    (hR : R (.returned (.agg cs)) w) : bodyPost P fn R .ret a w := by
  refine bodyPost_ret (v := .agg cs) ?_ hd hR
  simp only [results, h]
  have hp' : a.tmps[p]?.getD undef = .pointer (some ⟨g, 0, none⟩) := by simpa using hp
  simp [Sem.run_bind, hp', run_asAddr_ptr, run_loadVar_row w g e ty cs (0, 0) (.array n el) hb.heap hu rfl hi, Result.andThen]

theorem table_any (w : World) : Calls Try.prog 51 #[] w fun e w' => e = .returned (.agg (ctab 16)) ∧ Below w.heap.size w w' := by
  have m1 : bits .and .u32 3988292384 4294967295 = 3988292384 := by kernel_rfl
  have m0 : bits .and .u32 3988292384 0 = 0 := by kernel_rfl
  go_enter Try.func51, Try.ntmps51
  go_wp2_with fail
  obtain ⟨w2, hw2⟩ : ∃ x, (w.alloc (Obj.cells #[.int .u32 0, .int .u32 0, .int .u32 0, .int .u32 0, .int .u32 0, .int .u32 0, .int .u32 0, .int .u32 0, .int .u32 0, .int .u32 0, .int .u32 0, .int .u32 0, .int .u32 0, .int .u32 0, .int .u32 0, .int .u32 0] 90)).alloc (Obj.cells #[.int .u32 0, .int .u32 0, .int .u32 0, .int .u32 0, .int .u32 0, .int .u32 0, .int .u32 0, .int .u32 0, .int .u32 0, .int .u32 0, .int .u32 0, .int .u32 0, .int .u32 0, .int .u32 0, .int .u32 0, .int .u32 0] 90) = x := ⟨_, rfl⟩
  rw [hw2]
  have B0 := Lib.hid (show Blk w2 w.heap.size 90 (ctab 0) by rw [← hw2, ctab0]; exact (Blk.now _ _ _ _ rfl).past _)
  have B1 := Lib.hid (show Blk w2 (w.heap.size + 1) 90 (ctab 0) by rw [← hw2, ctab0]; exact Blk.now _ _ _ _ (by simp))
  have G2 := Lib.hid (show Below w.heap.size w w2 by rw [← hw2]; exact ((Below.refl _ _).alloc (Nat.le_refl _) _).alloc (by simp) _)
  have z2 : w.heap.size + 1 < w2.heap.size := B1.out.lt
  clear hw2
  obtain ⟨h0, e0⟩ : ∃ n, w.heap.size = n := ⟨_, rfl⟩
  rw [e0] at B0 B1 G2 z2
  rw [e0]
  go_loopw [4] (fun i wr => ∃ k : Nat, k ≤ 16 ∧ i = .int .i64 k ∧ Below h0 w wr ∧ Blk wr h0 90 (ctab 0) ∧ Blk wr (h0 + 1) 90 (ctab k)) (fun i _ => 16 - (intOf i).toNat)
  case atStart => exact ⟨0, Nat.zero_le _, rfl, G2.out, B0.out, B1.out⟩
  case round =>
    obtain ⟨k, hk, rfl, hb, hb0, hb1⟩ := hrel
    have HB := Lib.hid hb
    have H0 := Lib.hid hb0
    have H1 := Lib.hid hb1
    clear hb hb0 hb1 B0 B1 G2
    by_cases hlt : k < 16
    · have p1 : (k : Int) < 16 := by omega
      have c0 := H1.out.cell k
      rw [ctab_at k k hlt, if_neg (by omega)] at c0
      have f0 := H1.out.frozen k
      have CS := Lib.hid (ctab_set k hlt)
      have VK := Lib.hid (show ((k : Nat) : Int) = v32 (csteps (BitVec.ofNat 32 k) 0) by show (k : Int) = v32 (BitVec.ofNat 32 k); unfold v32; rw [BitVec.toNat_ofNat]; omega)
      have hkw : (k : Int) % 4294967296 = (k : Int) := by omega
      have DN := Lib.hid (show csteps (BitVec.ofNat 32 k) 4 = csteps (BitVec.ofNat 32 k) 4 from rfl)
      go_wp2_with fail
      obtain ⟨q0, hq0⟩ : ∃ q, BitVec.ofNat 32 k = q := ⟨_, rfl⟩
      rw [hq0] at CS VK
      obtain ⟨wo, hwo⟩ : ∃ x, x = wr := ⟨_, rfl⟩
      rw [← hwo] at HB H0 H1 c0 f0 ⊢
      clear hwo hq0 DN
      go_loopw [3, 9] (fun x i wx => ∃ j : Nat, j ≤ 4 ∧ i = .int .i64 j ∧ x = .int .u32 (v32 (csteps q0 j)) ∧ wx = wo) (fun _ i _ => 4 - (intOf i).toNat)
      case atStart => exact ⟨0, Nat.zero_le _, rfl, by rw [VK.out], rfl⟩
      case round =>
        obtain ⟨j, hj, rfl, rfl, rfl⟩ := hrel
        by_cases hlj : j < 4
        · have p2 : (j : Int) < 4 := by omega
          have SN := Lib.hid (show csteps q0 (j + 1) = cstep (csteps q0 j) from rfl)
          obtain ⟨q, hq⟩ : ∃ q, csteps q0 j = q := ⟨_, rfl⟩
          rw [hq] at SN ⊢
          have SH := Lib.hid (fun t w => shr_c32 Try.prog 1 (by decide) q t w)
          have ha := and1_v32 q
          have hm := cstep_mask q
          obtain ⟨b1, b2⟩ := v32_in q
          obtain ⟨b3, b4⟩ := v32_in (q >>> 1)
          have hx := xor_v32 (q >>> 1) (if q.getLsbD 0 then 3988292384#32 else 0#32)
          rw [← hm, ← SN.out] at hx
          obtain ⟨x, hxq⟩ : ∃ x, v32 q = x := ⟨_, rfl⟩
          obtain ⟨y, hyq⟩ : ∃ x, v32 (q >>> 1) = x := ⟨_, rfl⟩
          obtain ⟨z, hzq⟩ : ∃ x, v32 (csteps q0 (j + 1)) = x := ⟨_, rfl⟩
          have b5 := (v32_in (csteps q0 (j + 1))).1
          have b6 := (v32_in (csteps q0 (j + 1))).2
          rw [hzq] at b5 b6 hx
          rw [hyq] at b3 b4 SH hx
          rw [hxq] at b1 b2 SH ha ⊢
          have ZQ := Lib.hid hzq
          clear hm hzq hyq hxq hq SN
          cases hl : q.getLsbD 0 with
          | true =>
            rw [hl] at ha hx
            rw [if_pos rfl] at ha hx
            rw [show v32 3988292384#32 = 3988292384 from rfl] at hx
            clear hl
            go_wp2_with (refine wpList_op2 rfl .shr _ _ (.tmp 11) (.const (.int .u64 1)) rfl (.int .u32 x) (.int .u64 1) (.int .u32 y) rfl rfl (fun _ => rfl) (fun _ => SH.out _ _) ?_; simp only [Act.put, List.getElem_toArray, List.getElem_cons_succ, List.getElem_cons_zero, List.setIfInBounds_toArray, List.set_cons_zero, List.set_cons_succ])
            exact ⟨⟨j + 1, by omega, by go_num, by rw [ZQ.out], by trivial⟩, by simp [intOf]; omega⟩
          | false =>
            rw [hl] at ha hx
            rw [if_neg (by decide)] at ha hx
            rw [show v32 0#32 = 0 from rfl] at hx
            clear hl
            go_wp2_with (refine wpList_op2 rfl .shr _ _ (.tmp 11) (.const (.int .u64 1)) rfl (.int .u32 x) (.int .u64 1) (.int .u32 y) rfl rfl (fun _ => rfl) (fun _ => SH.out _ _) ?_; simp only [Act.put, List.getElem_toArray, List.getElem_cons_succ, List.getElem_cons_zero, List.setIfInBounds_toArray, List.set_cons_zero, List.set_cons_succ])
            exact ⟨⟨j + 1, by omega, by go_num, by rw [ZQ.out], by trivial⟩, by simp [intOf]; omega⟩
        · obtain rfl : j = 4 := by omega
          clear hlj hj
          go_wp2_with fail
          refine ⟨⟨k + 1, by omega, by go_num, HB.out.setCell (by simp) _, H0.out.far _ _ (by simp), ?_⟩, by simp [intOf]; omega⟩
          rw [← CS.out]
          exact H1.out.set_ _ _
    · obtain rfl : k = 16 := by omega
      clear hlt hk
      go_wp2_with (first | (refine wpList_load_row rfl 90 (.tmp 1) rfl (h0 + 1) rfl _ _ (0, 0) _ H1.out.heap Try.underlying90 rfl (by kernel_rfl) ?_) | (refine wpList_store_all rfl 90 (.tmp 0) (.tmp 23) rfl h0 (ctab 16) rfl rfl _ _ H0.out (by rw [ctab_size, ctab_size]) (by rw [ctab_size]; kernel_rfl) (ctab_one 16) ?_; intro w5 B5 g5))
      refine ret_array rfl B5 rfl Try.underlying90 (by rw [ctab_size]; kernel_rfl) rfl ?_
      exact ⟨rfl, by rw [e0]; exact HB.out.grown g5 (Nat.le_of_lt H0.out.lt) (fun j hj => by have := Option.some.inj hj; omega)⟩
end Go.Proofs.Ytanglfmolnfjeaa
