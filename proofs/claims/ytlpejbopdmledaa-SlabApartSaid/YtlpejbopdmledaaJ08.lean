/-
  What a node tells that its kind does not (layer 25): the document's More.
  Conditions: the kind is one.
-/
import Derived.Test.YtlpejbopdmledaaChecked
import Derived.Test.YtlpejbopdmledaaJ07
namespace Go.Proofs.Ytlpejbopdmledaa
set_option linter.unusedVariables false
set_option linter.unusedSimpArgs false
open Go.RowKit Go.ChangeShapes Go.WideShapes
set_option maxRecDepth 100000

def slidesK (k : Int) : Bool := decide (k = 1 ∨ k = 2 ∨ k = 4 ∨ k = 5)
/-- Something is told that the kind does not tell. -/
def moreP (d : Node) : Prop :=
  (sumsK d.kind = false ∧ (0 < d.w.length ∨ 0 < d.bias.length)) ∨ (d.kind ≠ 1 ∧ d.kind ≠ 3 ∧ d.out ≠ 0) ∨ (slidesK d.kind = false ∧ (d.k ≠ 0 ∨ d.s ≠ 0)) ∨ (slidesK d.kind = false ∧ d.kind ≠ 8 ∧ d.p ≠ 0)
    ∨ (d.kind ≠ 6 ∧ (d.b ≠ 0 ∨ d.zb ≠ 0 ∨ d.rm ≠ 0 ∨ d.rs ≠ 0)) ∨ d.rz ≠ 0 ∨ (scaledK d.kind = false ∧ (d.qm ≠ 0 ∨ d.qs ≠ 0 ∨ d.qz ≠ 0 ∨ d.lo ≠ 0 ∨ d.hi ≠ 0)) ∨ (scaledK d.kind = false ∧ d.kind ≠ 8 ∧ d.za ≠ 0)
instance (d : Node) : Decidable (moreP d) := inferInstanceAs (Decidable (_ ∨ _))


set_option maxHeartbeats 4000000 in
theorem more_1 (d : Node) (W : Option Addr) (nw cw : Nat) (B : Option Addr) (nb cb : Nat) (w : World) (hk : d.kind = 1) (hnw : nw = d.w.length) (hnb : nb = d.bias.length) (mw : nw ≤ maxLen) (mb : nb ≤ maxLen) :
    Calls Try.prog 32 #[.agg #[Value.int .i64 d.kind, Value.int .i64 d.a, Value.int .i64 d.b, Value.int .i64 d.k, Value.int .i64 d.s, Value.int .i64 d.p, Value.int .i64 d.out, Value.int .i8 d.za, Value.int .i8 d.zb, Value.slice W nw cw, Value.slice B nb cb, Value.int .i32 d.qm, Value.int .i64 d.qs, Value.int .i8 d.qz, Value.int .i32 d.rm, Value.int .i64 d.rs, Value.int .i8 d.rz, Value.int .i8 d.lo, Value.int .i8 d.hi]] w fun e w' => e = .returned (.bool (decide (moreP d))) ∧ Below w.heap.size w w' := by
  obtain ⟨r, hr⟩ : ∃ r, decide (moreP d) = r := ⟨_, rfl⟩
  rw [hr]
  have X : decide ((d.b ≠ 0 ∨ d.zb ≠ 0 ∨ d.rm ≠ 0 ∨ d.rs ≠ 0) ∨ d.rz ≠ 0) = r := by
    rw [← hr]
    refine decide_eq_decide.2 ?_
    unfold moreP
    rw [hk, ← hnw, ← hnb]
    simp [sumsK, slidesK, scaledK]
  have R := Lib.hid X
  clear hr X hnw hnb
  unfold maxLen at mw mb
  have FR := Lib.hid (Far.refl w)
  rw [hk]
  have SC := Lib.hid (fun w => rscaled_any 1 w)
  rw [show scaledK 1 = true from rfl] at SC
  clear hk
  obtain ⟨kind, a, b, k, s, p, out, za, zb, wl, bl, qm, qs, qz, rm, rs, rz, lo, hi⟩ := d
  simp only at R ⊢
  obtain ⟨w1, hw_w1⟩ : ∃ nw_, w.alloc (.cells #[.int .i64 1, .int .i64 a, .int .i64 b, .int .i64 k, .int .i64 s, .int .i64 p, .int .i64 out, .int .i8 za, .int .i8 zb, .slice W nw cw, .slice B nb cb, .int .i32 qm, .int .i64 qs, .int .i8 qz, .int .i32 rm, .int .i64 rs, .int .i8 rz, .int .i8 lo, .int .i8 hi] 53) = nw_ := ⟨_, rfl⟩
  have k_w1 : Below w.heap.size w w1 := by rw [← hw_w1]; exact (Below.refl _ _).alloc (Nat.le_refl _) _
  replace FR := Lib.hid (FR.out.fut k_w1)
  have BN := Lib.hid (show Blk w1 w.heap.size 53 #[.int .i64 1, .int .i64 a, .int .i64 b, .int .i64 k, .int .i64 s, .int .i64 p, .int .i64 out, .int .i8 za, .int .i8 zb, .slice W nw cw, .slice B nb cb, .int .i32 qm, .int .i64 qs, .int .i8 qz, .int .i32 rm, .int .i64 rs, .int .i8 rz, .int .i8 lo, .int .i8 hi] by rw [← hw_w1]; exact Blk.now _ _ _ _ rfl)
  clear k_w1
  have c0 := BN.out.cell 0
  have c2 := BN.out.cell 2
  have c3 := BN.out.cell 3
  have c4 := BN.out.cell 4
  have c5 := BN.out.cell 5
  have c6 := BN.out.cell 6
  have c7 := BN.out.cell 7
  have c8 := BN.out.cell 8
  have c9 := BN.out.cell 9
  have c10 := BN.out.cell 10
  have c11 := BN.out.cell 11
  have c12 := BN.out.cell 12
  have c13 := BN.out.cell 13
  have c14 := BN.out.cell 14
  have c15 := BN.out.cell 15
  have c16 := BN.out.cell 16
  have c17 := BN.out.cell 17
  have c18 := BN.out.cell 18
  go_enter Try.func32, Try.ntmps32
  go_wp2_with (go_at_call 33; refine (SC.out _).mono ?_; rintro e w' ⟨rfl, rfl⟩)
  all_goals clear c0 c2 c3 c4 c5 c6 c7 c8 c9 c10 c11 c12 c13 c14 c15 c16 c17 c18 SC
  all_goals go_ret
  all_goals exact ⟨ret_bool (by rw [← R.out]; clear FR R; (try simp only [bne_iff_ne, bne_eq_false_iff_eq] at *); first | exact (decide_eq_true (by omega)).symm | exact (decide_eq_false (by omega)).symm | (rw [Bool.eq_iff_iff, bne_iff_ne, decide_eq_true_iff]; omega)), FR.out.out⟩

set_option maxHeartbeats 4000000 in
theorem more_2 (d : Node) (W : Option Addr) (nw cw : Nat) (B : Option Addr) (nb cb : Nat) (w : World) (hk : d.kind = 2) (hnw : nw = d.w.length) (hnb : nb = d.bias.length) (mw : nw ≤ maxLen) (mb : nb ≤ maxLen) :
    Calls Try.prog 32 #[.agg #[Value.int .i64 d.kind, Value.int .i64 d.a, Value.int .i64 d.b, Value.int .i64 d.k, Value.int .i64 d.s, Value.int .i64 d.p, Value.int .i64 d.out, Value.int .i8 d.za, Value.int .i8 d.zb, Value.slice W nw cw, Value.slice B nb cb, Value.int .i32 d.qm, Value.int .i64 d.qs, Value.int .i8 d.qz, Value.int .i32 d.rm, Value.int .i64 d.rs, Value.int .i8 d.rz, Value.int .i8 d.lo, Value.int .i8 d.hi]] w fun e w' => e = .returned (.bool (decide (moreP d))) ∧ Below w.heap.size w w' := by
  obtain ⟨r, hr⟩ : ∃ r, decide (moreP d) = r := ⟨_, rfl⟩
  rw [hr]
  have X : decide (d.out ≠ 0 ∨ (d.b ≠ 0 ∨ d.zb ≠ 0 ∨ d.rm ≠ 0 ∨ d.rs ≠ 0) ∨ d.rz ≠ 0) = r := by
    rw [← hr]
    refine decide_eq_decide.2 ?_
    unfold moreP
    rw [hk, ← hnw, ← hnb]
    simp [sumsK, slidesK, scaledK]
  have R := Lib.hid X
  clear hr X hnw hnb
  unfold maxLen at mw mb
  have FR := Lib.hid (Far.refl w)
  rw [hk]
  have SC := Lib.hid (fun w => rscaled_any 2 w)
  rw [show scaledK 2 = true from rfl] at SC
  clear hk
  obtain ⟨kind, a, b, k, s, p, out, za, zb, wl, bl, qm, qs, qz, rm, rs, rz, lo, hi⟩ := d
  simp only at R ⊢
  obtain ⟨w1, hw_w1⟩ : ∃ nw_, w.alloc (.cells #[.int .i64 2, .int .i64 a, .int .i64 b, .int .i64 k, .int .i64 s, .int .i64 p, .int .i64 out, .int .i8 za, .int .i8 zb, .slice W nw cw, .slice B nb cb, .int .i32 qm, .int .i64 qs, .int .i8 qz, .int .i32 rm, .int .i64 rs, .int .i8 rz, .int .i8 lo, .int .i8 hi] 53) = nw_ := ⟨_, rfl⟩
  have k_w1 : Below w.heap.size w w1 := by rw [← hw_w1]; exact (Below.refl _ _).alloc (Nat.le_refl _) _
  replace FR := Lib.hid (FR.out.fut k_w1)
  have BN := Lib.hid (show Blk w1 w.heap.size 53 #[.int .i64 2, .int .i64 a, .int .i64 b, .int .i64 k, .int .i64 s, .int .i64 p, .int .i64 out, .int .i8 za, .int .i8 zb, .slice W nw cw, .slice B nb cb, .int .i32 qm, .int .i64 qs, .int .i8 qz, .int .i32 rm, .int .i64 rs, .int .i8 rz, .int .i8 lo, .int .i8 hi] by rw [← hw_w1]; exact Blk.now _ _ _ _ rfl)
  clear k_w1
  have c0 := BN.out.cell 0
  have c2 := BN.out.cell 2
  have c3 := BN.out.cell 3
  have c4 := BN.out.cell 4
  have c5 := BN.out.cell 5
  have c6 := BN.out.cell 6
  have c7 := BN.out.cell 7
  have c8 := BN.out.cell 8
  have c9 := BN.out.cell 9
  have c10 := BN.out.cell 10
  have c11 := BN.out.cell 11
  have c12 := BN.out.cell 12
  have c13 := BN.out.cell 13
  have c14 := BN.out.cell 14
  have c15 := BN.out.cell 15
  have c16 := BN.out.cell 16
  have c17 := BN.out.cell 17
  have c18 := BN.out.cell 18
  go_enter Try.func32, Try.ntmps32
  go_wp2_with (go_at_call 33; refine (SC.out _).mono ?_; rintro e w' ⟨rfl, rfl⟩)
  all_goals clear c0 c2 c3 c4 c5 c6 c7 c8 c9 c10 c11 c12 c13 c14 c15 c16 c17 c18 SC
  all_goals go_ret
  all_goals exact ⟨ret_bool (by rw [← R.out]; clear FR R; (try simp only [bne_iff_ne, bne_eq_false_iff_eq] at *); first | exact (decide_eq_true (by omega)).symm | exact (decide_eq_false (by omega)).symm | (rw [Bool.eq_iff_iff, bne_iff_ne, decide_eq_true_iff]; omega)), FR.out.out⟩

set_option maxHeartbeats 4000000 in
theorem more_3 (d : Node) (W : Option Addr) (nw cw : Nat) (B : Option Addr) (nb cb : Nat) (w : World) (hk : d.kind = 3) (hnw : nw = d.w.length) (hnb : nb = d.bias.length) (mw : nw ≤ maxLen) (mb : nb ≤ maxLen) :
    Calls Try.prog 32 #[.agg #[Value.int .i64 d.kind, Value.int .i64 d.a, Value.int .i64 d.b, Value.int .i64 d.k, Value.int .i64 d.s, Value.int .i64 d.p, Value.int .i64 d.out, Value.int .i8 d.za, Value.int .i8 d.zb, Value.slice W nw cw, Value.slice B nb cb, Value.int .i32 d.qm, Value.int .i64 d.qs, Value.int .i8 d.qz, Value.int .i32 d.rm, Value.int .i64 d.rs, Value.int .i8 d.rz, Value.int .i8 d.lo, Value.int .i8 d.hi]] w fun e w' => e = .returned (.bool (decide (moreP d))) ∧ Below w.heap.size w w' := by
  obtain ⟨r, hr⟩ : ∃ r, decide (moreP d) = r := ⟨_, rfl⟩
  rw [hr]
  have X : decide ((d.k ≠ 0 ∨ d.s ≠ 0) ∨ d.p ≠ 0 ∨ (d.b ≠ 0 ∨ d.zb ≠ 0 ∨ d.rm ≠ 0 ∨ d.rs ≠ 0) ∨ d.rz ≠ 0) = r := by
    rw [← hr]
    refine decide_eq_decide.2 ?_
    unfold moreP
    rw [hk, ← hnw, ← hnb]
    simp [sumsK, slidesK, scaledK]
  have R := Lib.hid X
  clear hr X hnw hnb
  unfold maxLen at mw mb
  have FR := Lib.hid (Far.refl w)
  rw [hk]
  have SC := Lib.hid (fun w => rscaled_any 3 w)
  rw [show scaledK 3 = true from rfl] at SC
  clear hk
  obtain ⟨kind, a, b, k, s, p, out, za, zb, wl, bl, qm, qs, qz, rm, rs, rz, lo, hi⟩ := d
  simp only at R ⊢
  obtain ⟨w1, hw_w1⟩ : ∃ nw_, w.alloc (.cells #[.int .i64 3, .int .i64 a, .int .i64 b, .int .i64 k, .int .i64 s, .int .i64 p, .int .i64 out, .int .i8 za, .int .i8 zb, .slice W nw cw, .slice B nb cb, .int .i32 qm, .int .i64 qs, .int .i8 qz, .int .i32 rm, .int .i64 rs, .int .i8 rz, .int .i8 lo, .int .i8 hi] 53) = nw_ := ⟨_, rfl⟩
  have k_w1 : Below w.heap.size w w1 := by rw [← hw_w1]; exact (Below.refl _ _).alloc (Nat.le_refl _) _
  replace FR := Lib.hid (FR.out.fut k_w1)
  have BN := Lib.hid (show Blk w1 w.heap.size 53 #[.int .i64 3, .int .i64 a, .int .i64 b, .int .i64 k, .int .i64 s, .int .i64 p, .int .i64 out, .int .i8 za, .int .i8 zb, .slice W nw cw, .slice B nb cb, .int .i32 qm, .int .i64 qs, .int .i8 qz, .int .i32 rm, .int .i64 rs, .int .i8 rz, .int .i8 lo, .int .i8 hi] by rw [← hw_w1]; exact Blk.now _ _ _ _ rfl)
  clear k_w1
  have c0 := BN.out.cell 0
  have c2 := BN.out.cell 2
  have c3 := BN.out.cell 3
  have c4 := BN.out.cell 4
  have c5 := BN.out.cell 5
  have c6 := BN.out.cell 6
  have c7 := BN.out.cell 7
  have c8 := BN.out.cell 8
  have c9 := BN.out.cell 9
  have c10 := BN.out.cell 10
  have c11 := BN.out.cell 11
  have c12 := BN.out.cell 12
  have c13 := BN.out.cell 13
  have c14 := BN.out.cell 14
  have c15 := BN.out.cell 15
  have c16 := BN.out.cell 16
  have c17 := BN.out.cell 17
  have c18 := BN.out.cell 18
  go_enter Try.func32, Try.ntmps32
  go_wp2_with (go_at_call 33; refine (SC.out _).mono ?_; rintro e w' ⟨rfl, rfl⟩)
  all_goals clear c0 c2 c3 c4 c5 c6 c7 c8 c9 c10 c11 c12 c13 c14 c15 c16 c17 c18 SC
  all_goals go_ret
  all_goals exact ⟨ret_bool (by rw [← R.out]; clear FR R; (try simp only [bne_iff_ne, bne_eq_false_iff_eq] at *); first | exact (decide_eq_true (by omega)).symm | exact (decide_eq_false (by omega)).symm | (rw [Bool.eq_iff_iff, bne_iff_ne, decide_eq_true_iff]; omega)), FR.out.out⟩

set_option maxHeartbeats 4000000 in
theorem more_4 (d : Node) (W : Option Addr) (nw cw : Nat) (B : Option Addr) (nb cb : Nat) (w : World) (hk : d.kind = 4) (hnw : nw = d.w.length) (hnb : nb = d.bias.length) (mw : nw ≤ maxLen) (mb : nb ≤ maxLen) :
    Calls Try.prog 32 #[.agg #[Value.int .i64 d.kind, Value.int .i64 d.a, Value.int .i64 d.b, Value.int .i64 d.k, Value.int .i64 d.s, Value.int .i64 d.p, Value.int .i64 d.out, Value.int .i8 d.za, Value.int .i8 d.zb, Value.slice W nw cw, Value.slice B nb cb, Value.int .i32 d.qm, Value.int .i64 d.qs, Value.int .i8 d.qz, Value.int .i32 d.rm, Value.int .i64 d.rs, Value.int .i8 d.rz, Value.int .i8 d.lo, Value.int .i8 d.hi]] w fun e w' => e = .returned (.bool (decide (moreP d))) ∧ Below w.heap.size w w' := by
  obtain ⟨r, hr⟩ : ∃ r, decide (moreP d) = r := ⟨_, rfl⟩
  rw [hr]
  have X : decide ((0 < nw ∨ 0 < nb) ∨ d.out ≠ 0 ∨ (d.b ≠ 0 ∨ d.zb ≠ 0 ∨ d.rm ≠ 0 ∨ d.rs ≠ 0) ∨ d.rz ≠ 0 ∨ (d.qm ≠ 0 ∨ d.qs ≠ 0 ∨ d.qz ≠ 0 ∨ d.lo ≠ 0 ∨ d.hi ≠ 0) ∨ d.za ≠ 0) = r := by
    rw [← hr]
    refine decide_eq_decide.2 ?_
    unfold moreP
    rw [hk, ← hnw, ← hnb]
    simp [sumsK, slidesK, scaledK]
  have R := Lib.hid X
  clear hr X hnw hnb
  unfold maxLen at mw mb
  have FR := Lib.hid (Far.refl w)
  rw [hk]
  have SC := Lib.hid (fun w => rscaled_any 4 w)
  rw [show scaledK 4 = false from rfl] at SC
  clear hk
  obtain ⟨kind, a, b, k, s, p, out, za, zb, wl, bl, qm, qs, qz, rm, rs, rz, lo, hi⟩ := d
  simp only at R ⊢
  obtain ⟨w1, hw_w1⟩ : ∃ nw_, w.alloc (.cells #[.int .i64 4, .int .i64 a, .int .i64 b, .int .i64 k, .int .i64 s, .int .i64 p, .int .i64 out, .int .i8 za, .int .i8 zb, .slice W nw cw, .slice B nb cb, .int .i32 qm, .int .i64 qs, .int .i8 qz, .int .i32 rm, .int .i64 rs, .int .i8 rz, .int .i8 lo, .int .i8 hi] 53) = nw_ := ⟨_, rfl⟩
  have k_w1 : Below w.heap.size w w1 := by rw [← hw_w1]; exact (Below.refl _ _).alloc (Nat.le_refl _) _
  replace FR := Lib.hid (FR.out.fut k_w1)
  have BN := Lib.hid (show Blk w1 w.heap.size 53 #[.int .i64 4, .int .i64 a, .int .i64 b, .int .i64 k, .int .i64 s, .int .i64 p, .int .i64 out, .int .i8 za, .int .i8 zb, .slice W nw cw, .slice B nb cb, .int .i32 qm, .int .i64 qs, .int .i8 qz, .int .i32 rm, .int .i64 rs, .int .i8 rz, .int .i8 lo, .int .i8 hi] by rw [← hw_w1]; exact Blk.now _ _ _ _ rfl)
  clear k_w1
  have c0 := BN.out.cell 0
  have c2 := BN.out.cell 2
  have c3 := BN.out.cell 3
  have c4 := BN.out.cell 4
  have c5 := BN.out.cell 5
  have c6 := BN.out.cell 6
  have c7 := BN.out.cell 7
  have c8 := BN.out.cell 8
  have c9 := BN.out.cell 9
  have c10 := BN.out.cell 10
  have c11 := BN.out.cell 11
  have c12 := BN.out.cell 12
  have c13 := BN.out.cell 13
  have c14 := BN.out.cell 14
  have c15 := BN.out.cell 15
  have c16 := BN.out.cell 16
  have c17 := BN.out.cell 17
  have c18 := BN.out.cell 18
  go_enter Try.func32, Try.ntmps32
  go_wp2_with (go_at_call 33; refine (SC.out _).mono ?_; rintro e w' ⟨rfl, rfl⟩)
  all_goals clear c0 c2 c3 c4 c5 c6 c7 c8 c9 c10 c11 c12 c13 c14 c15 c16 c17 c18 SC
  all_goals go_ret
  all_goals exact ⟨ret_bool (by rw [← R.out]; clear FR R; (try simp only [bne_iff_ne, bne_eq_false_iff_eq] at *); first | exact (decide_eq_true (by omega)).symm | exact (decide_eq_false (by omega)).symm | (rw [Bool.eq_iff_iff, bne_iff_ne, decide_eq_true_iff]; omega)), FR.out.out⟩

set_option maxHeartbeats 4000000 in
theorem more_5 (d : Node) (W : Option Addr) (nw cw : Nat) (B : Option Addr) (nb cb : Nat) (w : World) (hk : d.kind = 5) (hnw : nw = d.w.length) (hnb : nb = d.bias.length) (mw : nw ≤ maxLen) (mb : nb ≤ maxLen) :
    Calls Try.prog 32 #[.agg #[Value.int .i64 d.kind, Value.int .i64 d.a, Value.int .i64 d.b, Value.int .i64 d.k, Value.int .i64 d.s, Value.int .i64 d.p, Value.int .i64 d.out, Value.int .i8 d.za, Value.int .i8 d.zb, Value.slice W nw cw, Value.slice B nb cb, Value.int .i32 d.qm, Value.int .i64 d.qs, Value.int .i8 d.qz, Value.int .i32 d.rm, Value.int .i64 d.rs, Value.int .i8 d.rz, Value.int .i8 d.lo, Value.int .i8 d.hi]] w fun e w' => e = .returned (.bool (decide (moreP d))) ∧ Below w.heap.size w w' := by
  obtain ⟨r, hr⟩ : ∃ r, decide (moreP d) = r := ⟨_, rfl⟩
  rw [hr]
  have X : decide ((0 < nw ∨ 0 < nb) ∨ d.out ≠ 0 ∨ (d.b ≠ 0 ∨ d.zb ≠ 0 ∨ d.rm ≠ 0 ∨ d.rs ≠ 0) ∨ d.rz ≠ 0 ∨ (d.qm ≠ 0 ∨ d.qs ≠ 0 ∨ d.qz ≠ 0 ∨ d.lo ≠ 0 ∨ d.hi ≠ 0) ∨ d.za ≠ 0) = r := by
    rw [← hr]
    refine decide_eq_decide.2 ?_
    unfold moreP
    rw [hk, ← hnw, ← hnb]
    simp [sumsK, slidesK, scaledK]
  have R := Lib.hid X
  clear hr X hnw hnb
  unfold maxLen at mw mb
  have FR := Lib.hid (Far.refl w)
  rw [hk]
  have SC := Lib.hid (fun w => rscaled_any 5 w)
  rw [show scaledK 5 = false from rfl] at SC
  clear hk
  obtain ⟨kind, a, b, k, s, p, out, za, zb, wl, bl, qm, qs, qz, rm, rs, rz, lo, hi⟩ := d
  simp only at R ⊢
  obtain ⟨w1, hw_w1⟩ : ∃ nw_, w.alloc (.cells #[.int .i64 5, .int .i64 a, .int .i64 b, .int .i64 k, .int .i64 s, .int .i64 p, .int .i64 out, .int .i8 za, .int .i8 zb, .slice W nw cw, .slice B nb cb, .int .i32 qm, .int .i64 qs, .int .i8 qz, .int .i32 rm, .int .i64 rs, .int .i8 rz, .int .i8 lo, .int .i8 hi] 53) = nw_ := ⟨_, rfl⟩
  have k_w1 : Below w.heap.size w w1 := by rw [← hw_w1]; exact (Below.refl _ _).alloc (Nat.le_refl _) _
  replace FR := Lib.hid (FR.out.fut k_w1)
  have BN := Lib.hid (show Blk w1 w.heap.size 53 #[.int .i64 5, .int .i64 a, .int .i64 b, .int .i64 k, .int .i64 s, .int .i64 p, .int .i64 out, .int .i8 za, .int .i8 zb, .slice W nw cw, .slice B nb cb, .int .i32 qm, .int .i64 qs, .int .i8 qz, .int .i32 rm, .int .i64 rs, .int .i8 rz, .int .i8 lo, .int .i8 hi] by rw [← hw_w1]; exact Blk.now _ _ _ _ rfl)
  clear k_w1
  have c0 := BN.out.cell 0
  have c2 := BN.out.cell 2
  have c3 := BN.out.cell 3
  have c4 := BN.out.cell 4
  have c5 := BN.out.cell 5
  have c6 := BN.out.cell 6
  have c7 := BN.out.cell 7
  have c8 := BN.out.cell 8
  have c9 := BN.out.cell 9
  have c10 := BN.out.cell 10
  have c11 := BN.out.cell 11
  have c12 := BN.out.cell 12
  have c13 := BN.out.cell 13
  have c14 := BN.out.cell 14
  have c15 := BN.out.cell 15
  have c16 := BN.out.cell 16
  have c17 := BN.out.cell 17
  have c18 := BN.out.cell 18
  go_enter Try.func32, Try.ntmps32
  go_wp2_with (go_at_call 33; refine (SC.out _).mono ?_; rintro e w' ⟨rfl, rfl⟩)
  all_goals clear c0 c2 c3 c4 c5 c6 c7 c8 c9 c10 c11 c12 c13 c14 c15 c16 c17 c18 SC
  all_goals go_ret
  all_goals exact ⟨ret_bool (by rw [← R.out]; clear FR R; (try simp only [bne_iff_ne, bne_eq_false_iff_eq] at *); first | exact (decide_eq_true (by omega)).symm | exact (decide_eq_false (by omega)).symm | (rw [Bool.eq_iff_iff, bne_iff_ne, decide_eq_true_iff]; omega)), FR.out.out⟩

set_option maxHeartbeats 4000000 in
theorem more_6 (d : Node) (W : Option Addr) (nw cw : Nat) (B : Option Addr) (nb cb : Nat) (w : World) (hk : d.kind = 6) (hnw : nw = d.w.length) (hnb : nb = d.bias.length) (mw : nw ≤ maxLen) (mb : nb ≤ maxLen) :
    Calls Try.prog 32 #[.agg #[Value.int .i64 d.kind, Value.int .i64 d.a, Value.int .i64 d.b, Value.int .i64 d.k, Value.int .i64 d.s, Value.int .i64 d.p, Value.int .i64 d.out, Value.int .i8 d.za, Value.int .i8 d.zb, Value.slice W nw cw, Value.slice B nb cb, Value.int .i32 d.qm, Value.int .i64 d.qs, Value.int .i8 d.qz, Value.int .i32 d.rm, Value.int .i64 d.rs, Value.int .i8 d.rz, Value.int .i8 d.lo, Value.int .i8 d.hi]] w fun e w' => e = .returned (.bool (decide (moreP d))) ∧ Below w.heap.size w w' := by
  obtain ⟨r, hr⟩ : ∃ r, decide (moreP d) = r := ⟨_, rfl⟩
  rw [hr]
  have X : decide ((0 < nw ∨ 0 < nb) ∨ d.out ≠ 0 ∨ (d.k ≠ 0 ∨ d.s ≠ 0) ∨ d.p ≠ 0 ∨ d.rz ≠ 0) = r := by
    rw [← hr]
    refine decide_eq_decide.2 ?_
    unfold moreP
    rw [hk, ← hnw, ← hnb]
    simp [sumsK, slidesK, scaledK]
  have R := Lib.hid X
  clear hr X hnw hnb
  unfold maxLen at mw mb
  have FR := Lib.hid (Far.refl w)
  rw [hk]
  have SC := Lib.hid (fun w => rscaled_any 6 w)
  rw [show scaledK 6 = true from rfl] at SC
  clear hk
  obtain ⟨kind, a, b, k, s, p, out, za, zb, wl, bl, qm, qs, qz, rm, rs, rz, lo, hi⟩ := d
  simp only at R ⊢
  obtain ⟨w1, hw_w1⟩ : ∃ nw_, w.alloc (.cells #[.int .i64 6, .int .i64 a, .int .i64 b, .int .i64 k, .int .i64 s, .int .i64 p, .int .i64 out, .int .i8 za, .int .i8 zb, .slice W nw cw, .slice B nb cb, .int .i32 qm, .int .i64 qs, .int .i8 qz, .int .i32 rm, .int .i64 rs, .int .i8 rz, .int .i8 lo, .int .i8 hi] 53) = nw_ := ⟨_, rfl⟩
  have k_w1 : Below w.heap.size w w1 := by rw [← hw_w1]; exact (Below.refl _ _).alloc (Nat.le_refl _) _
  replace FR := Lib.hid (FR.out.fut k_w1)
  have BN := Lib.hid (show Blk w1 w.heap.size 53 #[.int .i64 6, .int .i64 a, .int .i64 b, .int .i64 k, .int .i64 s, .int .i64 p, .int .i64 out, .int .i8 za, .int .i8 zb, .slice W nw cw, .slice B nb cb, .int .i32 qm, .int .i64 qs, .int .i8 qz, .int .i32 rm, .int .i64 rs, .int .i8 rz, .int .i8 lo, .int .i8 hi] by rw [← hw_w1]; exact Blk.now _ _ _ _ rfl)
  clear k_w1
  have c0 := BN.out.cell 0
  have c2 := BN.out.cell 2
  have c3 := BN.out.cell 3
  have c4 := BN.out.cell 4
  have c5 := BN.out.cell 5
  have c6 := BN.out.cell 6
  have c7 := BN.out.cell 7
  have c8 := BN.out.cell 8
  have c9 := BN.out.cell 9
  have c10 := BN.out.cell 10
  have c11 := BN.out.cell 11
  have c12 := BN.out.cell 12
  have c13 := BN.out.cell 13
  have c14 := BN.out.cell 14
  have c15 := BN.out.cell 15
  have c16 := BN.out.cell 16
  have c17 := BN.out.cell 17
  have c18 := BN.out.cell 18
  go_enter Try.func32, Try.ntmps32
  go_wp2_with (go_at_call 33; refine (SC.out _).mono ?_; rintro e w' ⟨rfl, rfl⟩)
  all_goals clear c0 c2 c3 c4 c5 c6 c7 c8 c9 c10 c11 c12 c13 c14 c15 c16 c17 c18 SC
  all_goals go_ret
  all_goals exact ⟨ret_bool (by rw [← R.out]; clear FR R; (try simp only [bne_iff_ne, bne_eq_false_iff_eq] at *); first | exact (decide_eq_true (by omega)).symm | exact (decide_eq_false (by omega)).symm | (rw [Bool.eq_iff_iff, bne_iff_ne, decide_eq_true_iff]; omega)), FR.out.out⟩

set_option maxHeartbeats 4000000 in
theorem more_7 (d : Node) (W : Option Addr) (nw cw : Nat) (B : Option Addr) (nb cb : Nat) (w : World) (hk : d.kind = 7) (hnw : nw = d.w.length) (hnb : nb = d.bias.length) (mw : nw ≤ maxLen) (mb : nb ≤ maxLen) :
    Calls Try.prog 32 #[.agg #[Value.int .i64 d.kind, Value.int .i64 d.a, Value.int .i64 d.b, Value.int .i64 d.k, Value.int .i64 d.s, Value.int .i64 d.p, Value.int .i64 d.out, Value.int .i8 d.za, Value.int .i8 d.zb, Value.slice W nw cw, Value.slice B nb cb, Value.int .i32 d.qm, Value.int .i64 d.qs, Value.int .i8 d.qz, Value.int .i32 d.rm, Value.int .i64 d.rs, Value.int .i8 d.rz, Value.int .i8 d.lo, Value.int .i8 d.hi]] w fun e w' => e = .returned (.bool (decide (moreP d))) ∧ Below w.heap.size w w' := by
  obtain ⟨r, hr⟩ : ∃ r, decide (moreP d) = r := ⟨_, rfl⟩
  rw [hr]
  have X : decide ((0 < nw ∨ 0 < nb) ∨ d.out ≠ 0 ∨ (d.k ≠ 0 ∨ d.s ≠ 0) ∨ d.p ≠ 0 ∨ (d.b ≠ 0 ∨ d.zb ≠ 0 ∨ d.rm ≠ 0 ∨ d.rs ≠ 0) ∨ d.rz ≠ 0) = r := by
    rw [← hr]
    refine decide_eq_decide.2 ?_
    unfold moreP
    rw [hk, ← hnw, ← hnb]
    simp [sumsK, slidesK, scaledK]
  have R := Lib.hid X
  clear hr X hnw hnb
  unfold maxLen at mw mb
  have FR := Lib.hid (Far.refl w)
  rw [hk]
  have SC := Lib.hid (fun w => rscaled_any 7 w)
  rw [show scaledK 7 = true from rfl] at SC
  clear hk
  obtain ⟨kind, a, b, k, s, p, out, za, zb, wl, bl, qm, qs, qz, rm, rs, rz, lo, hi⟩ := d
  simp only at R ⊢
  obtain ⟨w1, hw_w1⟩ : ∃ nw_, w.alloc (.cells #[.int .i64 7, .int .i64 a, .int .i64 b, .int .i64 k, .int .i64 s, .int .i64 p, .int .i64 out, .int .i8 za, .int .i8 zb, .slice W nw cw, .slice B nb cb, .int .i32 qm, .int .i64 qs, .int .i8 qz, .int .i32 rm, .int .i64 rs, .int .i8 rz, .int .i8 lo, .int .i8 hi] 53) = nw_ := ⟨_, rfl⟩
  have k_w1 : Below w.heap.size w w1 := by rw [← hw_w1]; exact (Below.refl _ _).alloc (Nat.le_refl _) _
  replace FR := Lib.hid (FR.out.fut k_w1)
  have BN := Lib.hid (show Blk w1 w.heap.size 53 #[.int .i64 7, .int .i64 a, .int .i64 b, .int .i64 k, .int .i64 s, .int .i64 p, .int .i64 out, .int .i8 za, .int .i8 zb, .slice W nw cw, .slice B nb cb, .int .i32 qm, .int .i64 qs, .int .i8 qz, .int .i32 rm, .int .i64 rs, .int .i8 rz, .int .i8 lo, .int .i8 hi] by rw [← hw_w1]; exact Blk.now _ _ _ _ rfl)
  clear k_w1
  have c0 := BN.out.cell 0
  have c2 := BN.out.cell 2
  have c3 := BN.out.cell 3
  have c4 := BN.out.cell 4
  have c5 := BN.out.cell 5
  have c6 := BN.out.cell 6
  have c7 := BN.out.cell 7
  have c8 := BN.out.cell 8
  have c9 := BN.out.cell 9
  have c10 := BN.out.cell 10
  have c11 := BN.out.cell 11
  have c12 := BN.out.cell 12
  have c13 := BN.out.cell 13
  have c14 := BN.out.cell 14
  have c15 := BN.out.cell 15
  have c16 := BN.out.cell 16
  have c17 := BN.out.cell 17
  have c18 := BN.out.cell 18
  go_enter Try.func32, Try.ntmps32
  go_wp2_with (go_at_call 33; refine (SC.out _).mono ?_; rintro e w' ⟨rfl, rfl⟩)
  all_goals clear c0 c2 c3 c4 c5 c6 c7 c8 c9 c10 c11 c12 c13 c14 c15 c16 c17 c18 SC
  all_goals go_ret
  all_goals exact ⟨ret_bool (by rw [← R.out]; clear FR R; (try simp only [bne_iff_ne, bne_eq_false_iff_eq] at *); first | exact (decide_eq_true (by omega)).symm | exact (decide_eq_false (by omega)).symm | (rw [Bool.eq_iff_iff, bne_iff_ne, decide_eq_true_iff]; omega)), FR.out.out⟩

set_option maxHeartbeats 4000000 in
theorem more_8 (d : Node) (W : Option Addr) (nw cw : Nat) (B : Option Addr) (nb cb : Nat) (w : World) (hk : d.kind = 8) (hnw : nw = d.w.length) (hnb : nb = d.bias.length) (mw : nw ≤ maxLen) (mb : nb ≤ maxLen) :
    Calls Try.prog 32 #[.agg #[Value.int .i64 d.kind, Value.int .i64 d.a, Value.int .i64 d.b, Value.int .i64 d.k, Value.int .i64 d.s, Value.int .i64 d.p, Value.int .i64 d.out, Value.int .i8 d.za, Value.int .i8 d.zb, Value.slice W nw cw, Value.slice B nb cb, Value.int .i32 d.qm, Value.int .i64 d.qs, Value.int .i8 d.qz, Value.int .i32 d.rm, Value.int .i64 d.rs, Value.int .i8 d.rz, Value.int .i8 d.lo, Value.int .i8 d.hi]] w fun e w' => e = .returned (.bool (decide (moreP d))) ∧ Below w.heap.size w w' := by
  obtain ⟨r, hr⟩ : ∃ r, decide (moreP d) = r := ⟨_, rfl⟩
  rw [hr]
  have X : decide ((0 < nw ∨ 0 < nb) ∨ d.out ≠ 0 ∨ (d.k ≠ 0 ∨ d.s ≠ 0) ∨ (d.b ≠ 0 ∨ d.zb ≠ 0 ∨ d.rm ≠ 0 ∨ d.rs ≠ 0) ∨ d.rz ≠ 0 ∨ (d.qm ≠ 0 ∨ d.qs ≠ 0 ∨ d.qz ≠ 0 ∨ d.lo ≠ 0 ∨ d.hi ≠ 0)) = r := by
    rw [← hr]
    refine decide_eq_decide.2 ?_
    unfold moreP
    rw [hk, ← hnw, ← hnb]
    simp [sumsK, slidesK, scaledK]
  have R := Lib.hid X
  clear hr X hnw hnb
  unfold maxLen at mw mb
  have FR := Lib.hid (Far.refl w)
  rw [hk]
  have SC := Lib.hid (fun w => rscaled_any 8 w)
  rw [show scaledK 8 = false from rfl] at SC
  clear hk
  obtain ⟨kind, a, b, k, s, p, out, za, zb, wl, bl, qm, qs, qz, rm, rs, rz, lo, hi⟩ := d
  simp only at R ⊢
  obtain ⟨w1, hw_w1⟩ : ∃ nw_, w.alloc (.cells #[.int .i64 8, .int .i64 a, .int .i64 b, .int .i64 k, .int .i64 s, .int .i64 p, .int .i64 out, .int .i8 za, .int .i8 zb, .slice W nw cw, .slice B nb cb, .int .i32 qm, .int .i64 qs, .int .i8 qz, .int .i32 rm, .int .i64 rs, .int .i8 rz, .int .i8 lo, .int .i8 hi] 53) = nw_ := ⟨_, rfl⟩
  have k_w1 : Below w.heap.size w w1 := by rw [← hw_w1]; exact (Below.refl _ _).alloc (Nat.le_refl _) _
  replace FR := Lib.hid (FR.out.fut k_w1)
  have BN := Lib.hid (show Blk w1 w.heap.size 53 #[.int .i64 8, .int .i64 a, .int .i64 b, .int .i64 k, .int .i64 s, .int .i64 p, .int .i64 out, .int .i8 za, .int .i8 zb, .slice W nw cw, .slice B nb cb, .int .i32 qm, .int .i64 qs, .int .i8 qz, .int .i32 rm, .int .i64 rs, .int .i8 rz, .int .i8 lo, .int .i8 hi] by rw [← hw_w1]; exact Blk.now _ _ _ _ rfl)
  clear k_w1
  have c0 := BN.out.cell 0
  have c2 := BN.out.cell 2
  have c3 := BN.out.cell 3
  have c4 := BN.out.cell 4
  have c5 := BN.out.cell 5
  have c6 := BN.out.cell 6
  have c7 := BN.out.cell 7
  have c8 := BN.out.cell 8
  have c9 := BN.out.cell 9
  have c10 := BN.out.cell 10
  have c11 := BN.out.cell 11
  have c12 := BN.out.cell 12
  have c13 := BN.out.cell 13
  have c14 := BN.out.cell 14
  have c15 := BN.out.cell 15
  have c16 := BN.out.cell 16
  have c17 := BN.out.cell 17
  have c18 := BN.out.cell 18
  go_enter Try.func32, Try.ntmps32
  go_wp2_with (go_at_call 33; refine (SC.out _).mono ?_; rintro e w' ⟨rfl, rfl⟩)
  all_goals clear c0 c2 c3 c4 c5 c6 c7 c8 c9 c10 c11 c12 c13 c14 c15 c16 c17 c18 SC
  all_goals go_ret
  all_goals exact ⟨ret_bool (by rw [← R.out]; clear FR R; (try simp only [bne_iff_ne, bne_eq_false_iff_eq] at *); first | exact (decide_eq_true (by omega)).symm | exact (decide_eq_false (by omega)).symm | (rw [Bool.eq_iff_iff, bne_iff_ne, decide_eq_true_iff]; omega)), FR.out.out⟩

set_option maxHeartbeats 4000000 in
theorem more_9 (d : Node) (W : Option Addr) (nw cw : Nat) (B : Option Addr) (nb cb : Nat) (w : World) (hk : d.kind = 9) (hnw : nw = d.w.length) (hnb : nb = d.bias.length) (mw : nw ≤ maxLen) (mb : nb ≤ maxLen) :
    Calls Try.prog 32 #[.agg #[Value.int .i64 d.kind, Value.int .i64 d.a, Value.int .i64 d.b, Value.int .i64 d.k, Value.int .i64 d.s, Value.int .i64 d.p, Value.int .i64 d.out, Value.int .i8 d.za, Value.int .i8 d.zb, Value.slice W nw cw, Value.slice B nb cb, Value.int .i32 d.qm, Value.int .i64 d.qs, Value.int .i8 d.qz, Value.int .i32 d.rm, Value.int .i64 d.rs, Value.int .i8 d.rz, Value.int .i8 d.lo, Value.int .i8 d.hi]] w fun e w' => e = .returned (.bool (decide (moreP d))) ∧ Below w.heap.size w w' := by
  obtain ⟨r, hr⟩ : ∃ r, decide (moreP d) = r := ⟨_, rfl⟩
  rw [hr]
  have X : decide ((0 < nw ∨ 0 < nb) ∨ d.out ≠ 0 ∨ (d.k ≠ 0 ∨ d.s ≠ 0) ∨ d.p ≠ 0 ∨ (d.b ≠ 0 ∨ d.zb ≠ 0 ∨ d.rm ≠ 0 ∨ d.rs ≠ 0) ∨ d.rz ≠ 0 ∨ (d.qm ≠ 0 ∨ d.qs ≠ 0 ∨ d.qz ≠ 0 ∨ d.lo ≠ 0 ∨ d.hi ≠ 0) ∨ d.za ≠ 0) = r := by
    rw [← hr]
    refine decide_eq_decide.2 ?_
    unfold moreP
    rw [hk, ← hnw, ← hnb]
    simp [sumsK, slidesK, scaledK]
  have R := Lib.hid X
  clear hr X hnw hnb
  unfold maxLen at mw mb
  have FR := Lib.hid (Far.refl w)
  rw [hk]
  have SC := Lib.hid (fun w => rscaled_any 9 w)
  rw [show scaledK 9 = false from rfl] at SC
  clear hk
  obtain ⟨kind, a, b, k, s, p, out, za, zb, wl, bl, qm, qs, qz, rm, rs, rz, lo, hi⟩ := d
  simp only at R ⊢
  obtain ⟨w1, hw_w1⟩ : ∃ nw_, w.alloc (.cells #[.int .i64 9, .int .i64 a, .int .i64 b, .int .i64 k, .int .i64 s, .int .i64 p, .int .i64 out, .int .i8 za, .int .i8 zb, .slice W nw cw, .slice B nb cb, .int .i32 qm, .int .i64 qs, .int .i8 qz, .int .i32 rm, .int .i64 rs, .int .i8 rz, .int .i8 lo, .int .i8 hi] 53) = nw_ := ⟨_, rfl⟩
  have k_w1 : Below w.heap.size w w1 := by rw [← hw_w1]; exact (Below.refl _ _).alloc (Nat.le_refl _) _
  replace FR := Lib.hid (FR.out.fut k_w1)
  have BN := Lib.hid (show Blk w1 w.heap.size 53 #[.int .i64 9, .int .i64 a, .int .i64 b, .int .i64 k, .int .i64 s, .int .i64 p, .int .i64 out, .int .i8 za, .int .i8 zb, .slice W nw cw, .slice B nb cb, .int .i32 qm, .int .i64 qs, .int .i8 qz, .int .i32 rm, .int .i64 rs, .int .i8 rz, .int .i8 lo, .int .i8 hi] by rw [← hw_w1]; exact Blk.now _ _ _ _ rfl)
  clear k_w1
  have c0 := BN.out.cell 0
  have c2 := BN.out.cell 2
  have c3 := BN.out.cell 3
  have c4 := BN.out.cell 4
  have c5 := BN.out.cell 5
  have c6 := BN.out.cell 6
  have c7 := BN.out.cell 7
  have c8 := BN.out.cell 8
  have c9 := BN.out.cell 9
  have c10 := BN.out.cell 10
  have c11 := BN.out.cell 11
  have c12 := BN.out.cell 12
  have c13 := BN.out.cell 13
  have c14 := BN.out.cell 14
  have c15 := BN.out.cell 15
  have c16 := BN.out.cell 16
  have c17 := BN.out.cell 17
  have c18 := BN.out.cell 18
  go_enter Try.func32, Try.ntmps32
  go_wp2_with (go_at_call 33; refine (SC.out _).mono ?_; rintro e w' ⟨rfl, rfl⟩)
  all_goals clear c0 c2 c3 c4 c5 c6 c7 c8 c9 c10 c11 c12 c13 c14 c15 c16 c17 c18 SC
  all_goals go_ret
  all_goals exact ⟨ret_bool (by rw [← R.out]; clear FR R; (try simp only [bne_iff_ne, bne_eq_false_iff_eq] at *); first | exact (decide_eq_true (by omega)).symm | exact (decide_eq_false (by omega)).symm | (rw [Bool.eq_iff_iff, bne_iff_ne, decide_eq_true_iff]; omega)), FR.out.out⟩
end Go.Proofs.Ytlpejbopdmledaa
