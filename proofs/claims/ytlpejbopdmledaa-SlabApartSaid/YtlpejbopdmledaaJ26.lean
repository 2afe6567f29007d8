/-
  Which values a node takes (layer 27): takes, there, of; the document's There, second.
  Conditions: none.
  A load of a part of a block, inside a region that draws its order and is walked once (quiet).
  Conditions: none (over any program).
-/
import Derived.Test.YtlpejbopdmledaaChecked
import Derived.Test.YtlpejbopdmledaaJ02
import Derived.Test.YtlpejbopdmledaaJ05
import Derived.BigQuiet
namespace Go.Proofs.Ytlpejbopdmledaa
set_option linter.unusedVariables false
set_option linter.unusedSimpArgs false
open Go.RowKit Go.ChangeShapes Go.WideShapes
set_option maxRecDepth 100000
set_option maxHeartbeats 4000000

def takesV (d : Node) : List Int := if d.kind = 6 then [d.a, d.b] else [d.a]
def secondV (d : Node) : Int := if d.kind = 6 then d.b else d.a
def thereV (d : Node) (many : Int) : Bool := decide (0 ≤ d.a ∧ d.a < many) && (decide (d.kind ≠ 6) || decide (0 ≤ d.b ∧ d.b < many))

theorem takes_any (d : Node) (W : Option Addr) (nw cw : Nat) (B : Option Addr) (nb cb : Nat) (w : World) (ha : InK .i64 d.a) (hb : InK .i64 d.b) :
    Calls Try.prog 24 #[.agg #[.int .i64 d.kind, .int .i64 d.a, .int .i64 d.b, .int .i64 d.k, .int .i64 d.s, .int .i64 d.p, .int .i64 d.out, .int .i8 d.za, .int .i8 d.zb, .slice W nw cw, .slice B nb cb, .int .i32 d.qm, .int .i64 d.qs, .int .i8 d.qz, .int .i32 d.rm, .int .i64 d.rs, .int .i8 d.rz, .int .i8 d.lo, .int .i8 d.hi]] w (RetSl (tInt .i64) w (takesV d)) := by
  have FR := Lib.hid (Far.refl w)
  obtain ⟨w1, hw_w1⟩ : ∃ nw_, w.alloc (.cells #[.int .i64 d.kind, .int .i64 d.a, .int .i64 d.b, .int .i64 d.k, .int .i64 d.s, .int .i64 d.p, .int .i64 d.out, .int .i8 d.za, .int .i8 d.zb, .slice W nw cw, .slice B nb cb, .int .i32 d.qm, .int .i64 d.qs, .int .i8 d.qz, .int .i32 d.rm, .int .i64 d.rs, .int .i8 d.rz, .int .i8 d.lo, .int .i8 d.hi] 53) = nw_ := ⟨_, rfl⟩
  have k_w1 : Below w.heap.size w w1 := by rw [← hw_w1]; exact (Below.refl _ _).alloc (Nat.le_refl _) _
  replace FR := Lib.hid (FR.out.fut k_w1)
  have BN := Lib.hid (show Blk w1 w.heap.size 53 #[.int .i64 d.kind, .int .i64 d.a, .int .i64 d.b, .int .i64 d.k, .int .i64 d.s, .int .i64 d.p, .int .i64 d.out, .int .i8 d.za, .int .i8 d.zb, .slice W nw cw, .slice B nb cb, .int .i32 d.qm, .int .i64 d.qs, .int .i8 d.qz, .int .i32 d.rm, .int .i64 d.rs, .int .i8 d.rz, .int .i8 d.lo, .int .i8 d.hi] by rw [← hw_w1]; exact Blk.now _ _ _ _ rfl)
  clear k_w1
  have c0 := BN.out.cell 0
  have c1 := BN.out.cell 1
  have c2 := BN.out.cell 2
  have l1 : w.heap.size ≤ w1.heap.size := by rw [← hw_w1]; simp
  have HA := Lib.hid ha
  have HB := Lib.hid hb
  clear ha hb
  unfold takesV
  by_cases k6 : d.kind = 6
  · have t6 : (d.kind == 6) = true := by simpa using k6
    rw [if_pos k6]
    clear k6
    go_enter Try.func24, Try.ntmps24
    go_wp2_with fail
    go_ret
    refine ⟨some ⟨w1.heap.size, 0, none⟩, 2, 2, rfl, Sl.lit [d.a, d.b] (heap_now _ _ _ rfl) rfl (by intro x hx; simp at hx; rcases hx with rfl | rfl; exact HA.out; exact HB.out) ⟨l1, by simp⟩ rfl rfl (by simp [maxLen]), FR.out.out.alloc l1 _⟩
  · have t6 : (d.kind == 6) = false := by simpa using k6
    rw [if_neg k6]
    clear k6
    go_enter Try.func24, Try.ntmps24
    go_wp2_with fail
    go_ret
    refine ⟨some ⟨w1.heap.size, 0, none⟩, 1, 1, rfl, Sl.lit [d.a] (heap_now _ _ _ rfl) rfl (by intro x hx; simp at hx; subst hx; exact HA.out) ⟨l1, by simp⟩ rfl rfl (by simp [maxLen]), FR.out.out.alloc l1 _⟩

theorem of_any (d : Node) (W : Option Addr) (nw cw : Nat) (B : Option Addr) (nb cb : Nat) (w : World) (ha : InK .i64 d.a) (hb : InK .i64 d.b) :
    Calls Try.prog 30 #[.agg #[.int .i64 d.kind, .int .i64 d.a, .int .i64 d.b, .int .i64 d.k, .int .i64 d.s, .int .i64 d.p, .int .i64 d.out, .int .i8 d.za, .int .i8 d.zb, .slice W nw cw, .slice B nb cb, .int .i32 d.qm, .int .i64 d.qs, .int .i8 d.qz, .int .i32 d.rm, .int .i64 d.rs, .int .i8 d.rz, .int .i8 d.lo, .int .i8 d.hi]] w fun e w' => e = .returned (.int .i64 (secondV d)) ∧ Below w.heap.size w w' := by
  obtain ⟨r, hr⟩ : ∃ r, secondV d = r := ⟨_, rfl⟩
  rw [hr]
  have TK := Lib.hid (fun w => takes_any d W nw cw B nb cb w ha hb)
  have FR := Lib.hid (Far.refl w)
  obtain ⟨w1, hw_w1⟩ : ∃ nw_, w.alloc (.cells #[.int .i64 d.kind, .int .i64 d.a, .int .i64 d.b, .int .i64 d.k, .int .i64 d.s, .int .i64 d.p, .int .i64 d.out, .int .i8 d.za, .int .i8 d.zb, .slice W nw cw, .slice B nb cb, .int .i32 d.qm, .int .i64 d.qs, .int .i8 d.qz, .int .i32 d.rm, .int .i64 d.rs, .int .i8 d.rz, .int .i8 d.lo, .int .i8 d.hi] 53) = nw_ := ⟨_, rfl⟩
  have k_w1 : Below w.heap.size w w1 := by rw [← hw_w1]; exact (Below.refl _ _).alloc (Nat.le_refl _) _
  replace FR := Lib.hid (FR.out.fut k_w1)
  have BN := Lib.hid (show Blk w1 w.heap.size 53 #[.int .i64 d.kind, .int .i64 d.a, .int .i64 d.b, .int .i64 d.k, .int .i64 d.s, .int .i64 d.p, .int .i64 d.out, .int .i8 d.za, .int .i8 d.zb, .slice W nw cw, .slice B nb cb, .int .i32 d.qm, .int .i64 d.qs, .int .i8 d.qz, .int .i32 d.rm, .int .i64 d.rs, .int .i8 d.rz, .int .i8 d.lo, .int .i8 d.hi] by rw [← hw_w1]; exact Blk.now _ _ _ _ rfl)
  clear k_w1
  unfold takesV at TK
  unfold secondV at hr
  by_cases k6 : d.kind = 6
  · rw [if_pos k6] at TK hr
    have R := Lib.hid hr
    clear k6 hr ha hb
    go_enter Try.func30, Try.ntmps30
    go_wp2_with (refine wpList_load_row rfl 53 (.tmp 1) rfl w.heap.size rfl _ _ (0, 0) _ BN.out.heap Try.underlying53 rfl (by kernel_rfl) ?_)
    refine (TK.out _).mono ?_
    rintro e w2 ⟨A, n, cap, rfl, hs, hb⟩
    obtain rfl : n = 2 := hs.n_eq.symm
    obtain ⟨b, off, rfl, _, _, c1, _⟩ := hs.int_at 1 (by decide)
    rw [show [d.a, d.b].getD 1 0 = d.b from rfl] at c1
    replace FR := Lib.hid (FR.out.fut hb)
    clear hb
    clear hs hw_w1
    go_wp2_with fail
    go_ret
    exact ⟨by rw [← R.out]; rfl, FR.out.out⟩
  · rw [if_neg k6] at TK hr
    have R := Lib.hid hr
    clear k6 hr ha hb
    go_enter Try.func30, Try.ntmps30
    go_wp2_with (refine wpList_load_row rfl 53 (.tmp 1) rfl w.heap.size rfl _ _ (0, 0) _ BN.out.heap Try.underlying53 rfl (by kernel_rfl) ?_)
    refine (TK.out _).mono ?_
    rintro e w2 ⟨A, n, cap, rfl, hs, hb⟩
    obtain rfl : n = 1 := hs.n_eq.symm
    obtain ⟨b, off, rfl, _, _, c1, _⟩ := hs.int_at 0 (by decide)
    rw [show [d.a].getD 0 0 = d.a from rfl, Nat.add_zero] at c1
    replace FR := Lib.hid (FR.out.fut hb)
    clear hb
    clear hs hw_w1
    go_wp2_with fail
    go_ret
    exact ⟨by rw [← R.out]; rfl, FR.out.out⟩

theorem there_any (d : Node) (W : Option Addr) (nw cw : Nat) (B : Option Addr) (nb cb : Nat) (many : Int) (w : World) (ha : InK .i64 d.a) (hb : InK .i64 d.b) :
    Calls Try.prog 23 #[.agg #[.int .i64 d.kind, .int .i64 d.a, .int .i64 d.b, .int .i64 d.k, .int .i64 d.s, .int .i64 d.p, .int .i64 d.out, .int .i8 d.za, .int .i8 d.zb, .slice W nw cw, .slice B nb cb, .int .i32 d.qm, .int .i64 d.qs, .int .i8 d.qz, .int .i32 d.rm, .int .i64 d.rs, .int .i8 d.rz, .int .i8 d.lo, .int .i8 d.hi], .int .i64 many] w fun e w' => e = .returned (.bool (thereV d many)) ∧ Below w.heap.size w w' := by
  obtain ⟨r, hr⟩ : ∃ r, thereV d many = r := ⟨_, rfl⟩
  rw [hr]
  have TK := Lib.hid (fun w => takes_any d W nw cw B nb cb w ha hb)
  have FR := Lib.hid (Far.refl w)
  obtain ⟨w1, hw_w1⟩ : ∃ nw_, w.alloc (.cells #[.int .i64 d.kind, .int .i64 d.a, .int .i64 d.b, .int .i64 d.k, .int .i64 d.s, .int .i64 d.p, .int .i64 d.out, .int .i8 d.za, .int .i8 d.zb, .slice W nw cw, .slice B nb cb, .int .i32 d.qm, .int .i64 d.qs, .int .i8 d.qz, .int .i32 d.rm, .int .i64 d.rs, .int .i8 d.rz, .int .i8 d.lo, .int .i8 d.hi] 53) = nw_ := ⟨_, rfl⟩
  have k_w1 : Below w.heap.size w w1 := by rw [← hw_w1]; exact (Below.refl _ _).alloc (Nat.le_refl _) _
  replace FR := Lib.hid (FR.out.fut k_w1)
  have BN := Lib.hid (show Blk w1 w.heap.size 53 #[.int .i64 d.kind, .int .i64 d.a, .int .i64 d.b, .int .i64 d.k, .int .i64 d.s, .int .i64 d.p, .int .i64 d.out, .int .i8 d.za, .int .i8 d.zb, .slice W nw cw, .slice B nb cb, .int .i32 d.qm, .int .i64 d.qs, .int .i8 d.qz, .int .i32 d.rm, .int .i64 d.rs, .int .i8 d.rz, .int .i8 d.lo, .int .i8 d.hi] by rw [← hw_w1]; exact Blk.now _ _ _ _ rfl)
  clear k_w1
  obtain ⟨l, hl⟩ : ∃ l, takesV d = l := ⟨_, rfl⟩
  rw [hl] at TK
  have R := Lib.hid (show (r = true ↔ ∀ j, j < l.length → 0 ≤ l.getD j 0 ∧ l.getD j 0 < many) ∧ l.length ≤ 2 by
    rw [← hr, ← hl]
    unfold thereV takesV
    by_cases k6 : d.kind = 6
    · rw [if_pos k6]
      refine ⟨?_, by simp⟩
      simp only [k6, Bool.and_eq_true, Bool.or_eq_true, decide_eq_true_eq, ne_eq, not_true_eq_false, false_or]
      constructor
      · intro h j hj
        match j, hj with
        | 0, _ => exact h.1
        | 1, _ => exact h.2
      · intro h; exact ⟨h 0 (by simp), h 1 (by simp)⟩
    · rw [if_neg k6]
      refine ⟨?_, by simp⟩
      simp only [k6, Bool.and_eq_true, Bool.or_eq_true, decide_eq_true_eq, ne_eq, not_false_eq_true, true_or, and_true]
      constructor
      · intro h j hj
        match j, hj with
        | 0, _ => exact h
      · intro h; exact h 0 (by simp))
  clear hl hr ha hb
  go_enter Try.func23, Try.ntmps23
  go_wp2_with (refine wpList_load_row rfl 53 (.tmp 2) rfl w.heap.size rfl _ _ (0, 0) _ BN.out.heap Try.underlying53 rfl (by kernel_rfl) ?_)
  refine (TK.out _).mono ?_
  rintro e w2 ⟨A, n, cap, rfl, hs, hb⟩
  have hn := hs.n_eq
  have HS := Lib.hid hs
  have hn2 := R.out.2
  rw [hn] at hn2
  replace FR := Lib.hid (FR.out.fut hb)
  clear hb
  have HN := Lib.hid hn
  clear hs hw_w1 TK hn
  go_wp2_with fail
  go_loopw [10] (fun i wr => ∃ k : Nat, k ≤ n ∧ i = .int .i64 k ∧ Below w2.heap.size w2 wr ∧ ∀ j, j < k → 0 ≤ l.getD j 0 ∧ l.getD j 0 < many) (fun i _ => n - (intOf i).toNat)
  case atStart => exact ⟨0, Nat.zero_le _, rfl, Below.refl _ _, fun j hj => absurd hj (Nat.not_lt_zero _)⟩
  case round =>
    obtain ⟨k, hk, rfl, hb, hq⟩ := hrel
    have HQ := Lib.hid hq
    have HB := Lib.hid hb
    clear hq hb
    by_cases hlt : k < n
    · obtain ⟨b, off, rfl, _, _, c0, _⟩ := (HS.out.below HB.out (fun _ h => h.2)).int_at k hlt
      have p1 : (k : Int) < (n : Int) := by omega
      obtain ⟨x, hx⟩ : ∃ x, l.getD k 0 = x := ⟨_, rfl⟩
      rw [hx] at c0
      have HX := Lib.hid hx
      clear hx
      by_cases g : 0 ≤ x ∧ x < many
      · have g1 : decide (x < 0) = false := by simp; omega
        have g2 : decide (many ≤ x) = false := by simp; omega
        have G := Lib.hid g
        clear g
        go_wp2_with fail
        refine ⟨⟨k + 1, by omega, by go_num, HB.out, fun j hj => ?_⟩, by simp [intOf]; omega⟩
        by_cases hjk : j < k
        · exact HQ.out j hjk
        · obtain rfl : j = k := by omega
          rw [HX.out]; exact G.out
      · have RF : r = false := by
          cases hr : r with
          | false => rfl
          | true =>
            have h := R.out.1.1 hr k (by rw [HN.out]; exact hlt)
            rw [HX.out] at h
            exact absurd h g
        have RF' := Lib.hid RF
        clear RF
        by_cases g1 : x < 0
        · have t1 : decide (x < 0) = true := decide_eq_true g1
          clear g g1
          go_wp2_with fail
          go_ret
          exact ⟨by rw [RF'.out]; rfl, below_later HB.out FR.out.out⟩
        · have t1 : decide (x < 0) = false := decide_eq_false g1
          have t2 : decide (many ≤ x) = true := by simp; omega
          clear g g1
          go_wp2_with fail
          go_ret
          exact ⟨by rw [RF'.out]; rfl, below_later HB.out FR.out.out⟩
    · obtain rfl : k = n := by omega
      have RT := Lib.hid (R.out.1.2 (by rw [HN.out]; exact HQ.out))
      clear hlt hk
      go_wp2_with fail
      go_ret
      exact ⟨by rw [RT.out]; rfl, below_later HB.out FR.out.out⟩

theorem second_any (d : Node) (W : Option Addr) (nw cw : Nat) (B : Option Addr) (nb cb : Nat) (w : World) :
    Calls Try.prog 22 #[.agg #[.int .i64 d.kind, .int .i64 d.a, .int .i64 d.b, .int .i64 d.k, .int .i64 d.s, .int .i64 d.p, .int .i64 d.out, .int .i8 d.za, .int .i8 d.zb, .slice W nw cw, .slice B nb cb, .int .i32 d.qm, .int .i64 d.qs, .int .i8 d.qz, .int .i32 d.rm, .int .i64 d.rs, .int .i8 d.rz, .int .i8 d.lo, .int .i8 d.hi]] w fun e w' => e = .returned (.int .i64 (secondV d)) ∧ Below w.heap.size w w' := by
  obtain ⟨r, hr⟩ : ∃ r, secondV d = r := ⟨_, rfl⟩
  rw [hr]
  unfold secondV at hr
  have FR := Lib.hid (Far.refl w)
  obtain ⟨w1, hw_w1⟩ : ∃ nw_, w.alloc (.cells #[.int .i64 d.kind, .int .i64 d.a, .int .i64 d.b, .int .i64 d.k, .int .i64 d.s, .int .i64 d.p, .int .i64 d.out, .int .i8 d.za, .int .i8 d.zb, .slice W nw cw, .slice B nb cb, .int .i32 d.qm, .int .i64 d.qs, .int .i8 d.qz, .int .i32 d.rm, .int .i64 d.rs, .int .i8 d.rz, .int .i8 d.lo, .int .i8 d.hi] 53) = nw_ := ⟨_, rfl⟩
  have k_w1 : Below w.heap.size w w1 := by rw [← hw_w1]; exact (Below.refl _ _).alloc (Nat.le_refl _) _
  replace FR := Lib.hid (FR.out.fut k_w1)
  have BN := Lib.hid (show Blk w1 w.heap.size 53 #[.int .i64 d.kind, .int .i64 d.a, .int .i64 d.b, .int .i64 d.k, .int .i64 d.s, .int .i64 d.p, .int .i64 d.out, .int .i8 d.za, .int .i8 d.zb, .slice W nw cw, .slice B nb cb, .int .i32 d.qm, .int .i64 d.qs, .int .i8 d.qz, .int .i32 d.rm, .int .i64 d.rs, .int .i8 d.rz, .int .i8 d.lo, .int .i8 d.hi] by rw [← hw_w1]; exact Blk.now _ _ _ _ rfl)
  clear k_w1
  have c0 := BN.out.cell 0
  have c1 := BN.out.cell 1
  have c2 := BN.out.cell 2
  by_cases k6 : d.kind = 6
  · have t6 : (d.kind == 6) = true := by simpa using k6
    rw [if_pos k6] at hr
    have R := Lib.hid hr
    clear k6 hr
    go_enter Try.func22, Try.ntmps22
    go_wp2_with fail
    go_ret
    exact ⟨by rw [← R.out]; rfl, FR.out.out⟩
  · have t6 : (d.kind == 6) = false := by simpa using k6
    rw [if_neg k6] at hr
    have R := Lib.hid hr
    clear k6 hr
    go_enter Try.func22, Try.ntmps22
    go_wp2_with fail
    go_ret
    exact ⟨by rw [← R.out]; rfl, FR.out.out⟩

theorem rthere_any (d : Node) (W : Option Addr) (nw cw : Nat) (B : Option Addr) (nb cb : Nat) (many : Int) (w : World) :
    Calls Try.prog 20 #[.agg #[.int .i64 d.kind, .int .i64 d.a, .int .i64 d.b, .int .i64 d.k, .int .i64 d.s, .int .i64 d.p, .int .i64 d.out, .int .i8 d.za, .int .i8 d.zb, .slice W nw cw, .slice B nb cb, .int .i32 d.qm, .int .i64 d.qs, .int .i8 d.qz, .int .i32 d.rm, .int .i64 d.rs, .int .i8 d.rz, .int .i8 d.lo, .int .i8 d.hi], .int .i64 many] w fun e w' => e = .returned (.bool (thereV d many)) ∧ Below w.heap.size w w' := by
  obtain ⟨r, hr⟩ : ∃ r, thereV d many = r := ⟨_, rfl⟩
  rw [hr]
  unfold thereV at hr
  have FR := Lib.hid (Far.refl w)
  obtain ⟨w1, hw_w1⟩ : ∃ nw_, w.alloc (.cells #[.int .i64 d.kind, .int .i64 d.a, .int .i64 d.b, .int .i64 d.k, .int .i64 d.s, .int .i64 d.p, .int .i64 d.out, .int .i8 d.za, .int .i8 d.zb, .slice W nw cw, .slice B nb cb, .int .i32 d.qm, .int .i64 d.qs, .int .i8 d.qz, .int .i32 d.rm, .int .i64 d.rs, .int .i8 d.rz, .int .i8 d.lo, .int .i8 d.hi] 53) = nw_ := ⟨_, rfl⟩
  have k_w1 : Below w.heap.size w w1 := by rw [← hw_w1]; exact (Below.refl _ _).alloc (Nat.le_refl _) _
  replace FR := Lib.hid (FR.out.fut k_w1)
  have BN := Lib.hid (show Blk w1 w.heap.size 53 #[.int .i64 d.kind, .int .i64 d.a, .int .i64 d.b, .int .i64 d.k, .int .i64 d.s, .int .i64 d.p, .int .i64 d.out, .int .i8 d.za, .int .i8 d.zb, .slice W nw cw, .slice B nb cb, .int .i32 d.qm, .int .i64 d.qs, .int .i8 d.qz, .int .i32 d.rm, .int .i64 d.rs, .int .i8 d.rz, .int .i8 d.lo, .int .i8 d.hi] by rw [← hw_w1]; exact Blk.now _ _ _ _ rfl)
  clear k_w1
  have c0 := BN.out.cell 0
  have c1 := BN.out.cell 1
  have c2 := BN.out.cell 2
  by_cases h1 : 0 ≤ d.a
  rotate_left
  · have t1 : decide (0 ≤ d.a) = false := decide_eq_false h1
    have R := Lib.hid (show r = false by rw [← hr]; simp; omega)
    clear hr h1
    go_enter Try.func20, Try.ntmps20
    go_wp2_with fail
    go_ret
    exact ⟨by rw [R.out]; rfl, FR.out.out⟩
  have t1 : decide (0 ≤ d.a) = true := decide_eq_true h1
  by_cases h2 : d.a < many
  rotate_left
  · have t2 : decide (d.a < many) = false := decide_eq_false h2
    have R := Lib.hid (show r = false by rw [← hr]; simp; omega)
    clear hr h1 h2
    go_enter Try.func20, Try.ntmps20
    go_wp2_with fail
    go_ret
    exact ⟨by rw [R.out]; rfl, FR.out.out⟩
  have t2 : decide (d.a < many) = true := decide_eq_true h2
  by_cases h3 : d.kind = 6
  rotate_left
  · have t3 : (d.kind != 6) = true := by simpa using h3
    have R := Lib.hid (show r = true by rw [← hr]; simp [h3]; omega)
    clear hr h1 h2 h3
    go_enter Try.func20, Try.ntmps20
    go_wp2_with fail
    go_ret
    exact ⟨by rw [R.out]; rfl, FR.out.out⟩
  have t3 : (d.kind != 6) = false := by simpa using h3
  by_cases h4 : 0 ≤ d.b
  rotate_left
  · have t4 : decide (0 ≤ d.b) = false := decide_eq_false h4
    have R := Lib.hid (show r = false by rw [← hr]; simp [h3]; omega)
    clear hr h1 h2 h3 h4
    go_enter Try.func20, Try.ntmps20
    go_wp2_with fail
    go_ret
    exact ⟨by rw [R.out]; rfl, FR.out.out⟩
  have t4 : decide (0 ≤ d.b) = true := decide_eq_true h4
  by_cases h5 : d.b < many
  · have t5 : decide (d.b < many) = true := decide_eq_true h5
    have R := Lib.hid (show r = true by rw [← hr]; simp [h3]; omega)
    clear hr h1 h2 h3 h4 h5
    go_enter Try.func20, Try.ntmps20
    go_wp2_with fail
    go_ret
    exact ⟨by rw [R.out]; rfl, FR.out.out⟩
  · have t5 : decide (d.b < many) = false := decide_eq_false h5
    have R := Lib.hid (show r = false by rw [← hr]; simp [h3]; omega)
    clear hr h1 h2 h3 h4 h5
    go_enter Try.func20, Try.ntmps20
    go_wp2_with fail
    go_ret
    exact ⟨by rw [R.out]; rfl, FR.out.out⟩
end Go.Proofs.Ytlpejbopdmledaa
set_option linter.unusedVariables false
set_option linter.unusedSimpArgs false
namespace Go.Proofs.Ytlpejbopdmledaa
open Go Go.RowKit

theorem range_blk {w : World} {g off : Nat} {e : TypeId} {cs : Array Value} {vs : List Value} (hb : Blk w g e cs) (hvs : (cs.toList.drop off).take vs.length = vs) : w.rangeAt g off vs := by
  intro j v hv
  rw [hb.cell]
  rw [← hvs, List.getElem?_take] at hv
  split at hv
  · rw [List.getElem?_drop] at hv
    simpa using hv
  · cases hv
theorem range_cells {w : World} {g base off : Nat} {cs : Array Value} {vs : List Value} (hb : ∀ j v, cs[j]? = some v → w.cell? ⟨g, base + j, none⟩ = some v) (hvs : (cs.toList.drop off).take vs.length = vs) : w.rangeAt g (base + off) vs := by
  intro j v hv
  rw [Nat.add_assoc]
  refine hb _ _ ?_
  rw [← hvs, List.getElem?_take] at hv
  split at hv
  · rw [List.getElem?_drop] at hv
    simpa using hv
  · cases hv

theorem wpQuiet_load_mid {P : Program} {ops : Array Oper} {C : World → Prop} {Q : Act → Prop} {a : Act} {o : Oper} {rest : List Oper} (hw : Region.wanted o (yielded ops a.tmps) = true) (ty : TypeId) (x : Operand) (ho : o.op = .load ty x)
    (b off : Nat) (hx : a.eval x = .pointer (some ⟨b, off, none⟩)) (cs : List Value) (d : TypeDesc) (hC : ∀ w, C w → w.rangeAt b off cs)
    (hu : P.underlying ty = some d) (hd : d.isRow = true) (hi : (P.info? ty).map (·.size) = some cs.length) (h : wpQuiet P ops C Q rest (a.put o.dst (.agg cs.toArray))) : wpQuiet P ops C Q (o :: rest) a :=
  BigFrame.wpQuiet_want hw fun K hK => ⟨.agg cs.toArray, fun w hw' => by
    unfold Oper.quietAt execOp
    simp only [ho, hx, Instr.loadAt, Instr.sureAddr, Sem.run_bind, Sem.run_pure, Result.andThen_ok, run_loadVar_mid w b off ty cs d (hC w hw') hu hd hi]
    exact ⟨rfl, rfl⟩, hK _ h⟩
end Go.Proofs.Ytlpejbopdmledaa
