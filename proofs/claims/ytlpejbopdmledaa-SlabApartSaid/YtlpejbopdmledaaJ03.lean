/-
  shape and tensor (layers 4, 5): the number of elements of a shape, and whether a tensor is right; the program's and the document's.
  Conditions: none.
  How often a window lies within (layer 4): shape.in, Steps, the document's Steps.
  Conditions: none.
-/
import Derived.Test.YtlpejbopdmledaaJ02
import Derived.Test.YtlpejbopdmledaaChecked
set_option linter.unusedVariables false
set_option linter.unusedSimpArgs false
namespace Go.Proofs.Ytlpejbopdmledaa
open Go.RowKit Go.ChangeShapes Go.WideShapes
set_option maxRecDepth 100000

def pre (l : List Int) : Nat → Int
  | 0 => 1
  | k + 1 => pre l k * l.getD k 0
def preOk (l : List Int) (k : Nat) : Prop := ∀ j, j < k → 1 ≤ l.getD j 0 ∧ pre l (j + 1) ≤ 1024
def prod3 (l : List Int) : Int := if 1 ≤ l.getD 0 0 ∧ pre l 1 ≤ 1024 ∧ 1 ≤ l.getD 1 0 ∧ pre l 2 ≤ 1024 ∧ 1 ≤ l.getD 2 0 ∧ pre l 3 ≤ 1024 then pre l 3 else 0
theorem prod3_good (l : List Int) (h : preOk l 3) : prod3 l = pre l 3 := by
  have h0 := h 0 (by omega)
  have h1 := h 1 (by omega)
  have h2 := h 2 (by omega)
  unfold prod3; rw [if_pos ⟨h0.1, h0.2, h1.1, h1.2, h2.1, h2.2⟩]
theorem prod3_bad (l : List Int) (k : Nat) (hk : k < 3) (h : ¬ (1 ≤ l.getD k 0 ∧ pre l (k + 1) ≤ 1024)) : prod3 l = 0 := by
  unfold prod3; rw [if_neg]
  rintro ⟨a, b, c, d, e, f⟩
  apply h
  match k, hk with
  | 0, _ => exact ⟨a, b⟩
  | 1, _ => exact ⟨c, d⟩
  | 2, _ => exact ⟨e, f⟩
theorem pre_pos (l : List Int) (k : Nat) (h : preOk l k) : 1 ≤ pre l k ∧ pre l k ≤ 1024 := by
  induction k with
  | zero => exact ⟨by simp [pre], by simp [pre]⟩
  | succ k ih =>
    have h1 := ih (fun j hj => h j (by omega))
    have h2 := h k (by omega)
    refine ⟨?_, h2.2⟩
    have : 0 < pre l k * l.getD k 0 := Int.mul_pos (by omega) (by omega)
    rw [pre]; omega

/-- The number of elements of a shape, 0 for one that may not be. -/
def elems (h w c : Int) : Int := if 16 < h ∨ 16 < w then 0 else prod3 [h, w, c]
theorem elems_iff (h w c : Int) : elems h w c = if 1 ≤ h ∧ h ≤ 16 ∧ 1 ≤ w ∧ w ≤ 16 ∧ 1 ≤ c ∧ c ≤ 1024 ∧ h * w * c ≤ 1024 then h * w * c else 0 := by
  unfold elems
  by_cases h1 : 16 < h ∨ 16 < w
  · rw [if_pos h1, if_neg (by omega)]
  · rw [if_neg h1]
    unfold prod3
    simp only [pre, List.getD_cons_zero, List.getD_cons_succ, Int.one_mul]
    by_cases h2 : 1 ≤ h ∧ h ≤ 1024 ∧ 1 ≤ w ∧ h * w ≤ 1024 ∧ 1 ≤ c ∧ h * w * c ≤ 1024
    · obtain ⟨a, b, d, e, f, g⟩ := h2
      have hm : 1 * c ≤ (h * w) * c := Int.mul_le_mul_of_nonneg_right (by have := Int.mul_pos (show 0 < h by omega) (show 0 < w by omega); omega) (by omega)
      rw [if_pos ⟨a, b, d, e, f, g⟩, if_pos (by omega)]
    · rw [if_neg h2, if_neg]
      rintro ⟨a, b, d, e, f, g, i⟩
      apply h2
      have hm : h * w ≤ 16 * 16 := Int.mul_le_mul b e (by omega) (by omega)
      omega
theorem elems_range (h w c : Int) : 0 ≤ elems h w c ∧ elems h w c ≤ 1024 := by
  rw [elems_iff]
  split
  · rename_i h1
    have := Int.mul_pos (Int.mul_pos (show 0 < h by omega) (show 0 < w by omega)) (show 0 < c by omega)
    omega
  · omega

theorem product_any (l : List Int) (hl : l.length = 3) (w : World) (h0 : InK .i64 (l.getD 0 0)) (h1 : InK .i64 (l.getD 1 0)) (h2 : InK .i64 (l.getD 2 0)) :
    Calls Try.prog 39 #[.agg #[.int .i64 (l.getD 0 0), .int .i64 (l.getD 1 0), .int .i64 (l.getD 2 0)]] w fun e w' => e = .returned (.int .i64 (prod3 l)) ∧ Below w.heap.size w w' := by
  match l, hl with
  | [x, y, z], _ =>
  simp only [List.getD_cons_zero, List.getD_cons_succ] at h0 h1 h2 ⊢
  have hcell : ∀ k, k < 3 → (w.alloc (.cells #[.int .i64 x, .int .i64 y, .int .i64 z] 74)).cell? ⟨w.heap.size, k, none⟩ = some (.int .i64 ([x, y, z].getD k 0)) ∧ InK .i64 ([x, y, z].getD k 0) := by
    intro k hk
    match k, hk with
    | 0, _ => exact ⟨by simp [go_sem], h0⟩
    | 1, _ => exact ⟨by simp [go_sem], h1⟩
    | 2, _ => exact ⟨by simp [go_sem], h2⟩
  have HC := Lib.hid hcell
  clear hcell h0 h1 h2
  go_enter Try.func39, Try.ntmps39
  go_wp2_with fail
  go_loop [3, 7] (fun n i => ∃ k : Nat, k ≤ 3 ∧ i = .int .i64 k ∧ n = .int .i64 (pre [x, y, z] k) ∧ preOk [x, y, z] k) (fun _ i => 3 - (intOf i).toNat)
  case atStart => exact ⟨0, Nat.zero_le _, rfl, rfl, fun j hj => by omega⟩
  case round =>
    obtain ⟨k, hk, rfl, rfl, hok⟩ := hrel
    have hp := pre_pos _ k hok
    by_cases hlt : k < 3
    · obtain ⟨c, ic⟩ := HC.out k hlt
      have hb := prod3_bad [x, y, z] k hlt
      have hpre : pre [x, y, z] (k + 1) = pre [x, y, z] k * [x, y, z].getD k 0 := rfl
      have hok' : 1 ≤ [x, y, z].getD k 0 → pre [x, y, z] (k + 1) ≤ 1024 → preOk [x, y, z] (k + 1) := by
        intro a b j hj
        by_cases hjk : j < k
        · exact hok j hjk
        · obtain rfl : j = k := by omega
          exact ⟨a, b⟩
      generalize hq : pre [x, y, z] k = q at *
      generalize [x, y, z].getD k 0 = v at *
      rw [hpre] at hb hok'
      have HB := Lib.hid hb
      have HO := Lib.hid hok'
      have HP := Lib.hid hpre
      have IC := Lib.hid ic
      clear hb hok' hpre ic hok hq
      have iv := inK_i64.1 IC.out
      go_wp2_with fail
      refine (satTimes_any q v _ (by rw [inK_i64]; omega) IC.out).mono ?_
      rintro e w' ⟨rfl, rfl⟩
      unfold satEnd
      by_cases hin : InK .i64 (q * v)
      · rw [if_pos hin]
        have hin' := inK_i64.1 hin
        have HIN := Lib.hid hin
        clear hin
        generalize hqv : q * v = p at *
        have HQ := Lib.hid hqv
        clear hqv
        by_cases t1 : v < 1
        · go_wp2_with fail
          go_ret
          exact ⟨ret_int (HB.out (by omega)).symm, by go_grown⟩
        · by_cases t2 : 1024 < p
          · go_wp2_with fail
            go_ret
            exact ⟨ret_int (HB.out (by omega)).symm, by go_grown⟩
          · go_wp2_with fail
            exact ⟨⟨k + 1, by omega, by go_num, by rw [HP.out], HO.out (by omega) (by omega)⟩, by simp [intOf]; omega⟩
      · rw [if_neg hin]
        have hbad : ¬ (1 ≤ v ∧ q * v ≤ 1024) := by
          rintro ⟨a, b⟩
          apply hin
          rw [inK_i64]
          have := Int.mul_pos (show 0 < q by omega) (show 0 < v by omega)
          omega
        have HBAD := Lib.hid hbad
        clear hin hbad
        go_wp2_with fail
        go_ret
        exact ⟨ret_int (HB.out HBAD.out).symm, by go_grown⟩
    · obtain rfl : k = 3 := by omega
      have e := prod3_good _ hok
      have E := Lib.hid e
      clear e
      go_wp2_with fail
      go_ret
      exact ⟨ret_int E.out.symm, by go_grown⟩

theorem elems_any (h c : Int) (v : Int) (w : World) (h0 : InK .i64 h) (h1 : InK .i64 v) (h2 : InK .i64 c) :
    Calls Try.prog 25 #[.agg #[.int .i64 h, .int .i64 v, .int .i64 c]] w fun e w' => e = .returned (.int .i64 (elems h v c)) ∧ Below w.heap.size w w' := by
  have H0 := Lib.hid h0
  have H1 := Lib.hid h1
  have H2 := Lib.hid h2
  clear h0 h1 h2
  by_cases c1 : 16 < h
  · go_enter Try.func25, Try.ntmps25
    go_wp2_with fail
    go_ret
    exact ⟨ret_int (by unfold elems; rw [if_pos (by omega)]), by go_grown⟩
  · by_cases c2 : 16 < v
    · go_enter Try.func25, Try.ntmps25
      go_wp2_with fail
      go_ret
      exact ⟨ret_int (by unfold elems; rw [if_pos (by omega)]), by go_grown⟩
    · go_enter Try.func25, Try.ntmps25
      go_wp2_with fail
      refine (product_any [h, v, c] rfl _ H0.out H1.out H2.out).mono ?_
      rintro e w' ⟨rfl, hb⟩
      go_wp2_with fail
      go_ret
      exact ⟨ret_int (by unfold elems; rw [if_neg (by omega)]), ((Below.refl _ _).alloc (Nat.le_refl _) _).trans (hb.mono (by simp))⟩

set_option maxHeartbeats 1600000 in
theorem relems_any (h c : Int) (v : Int) (w : World) (h0 : InK .i64 h) (h1 : InK .i64 v) (h2 : InK .i64 c) :
    Calls Try.prog 14 #[.agg #[.int .i64 h, .int .i64 v, .int .i64 c]] w fun e w' => e = .returned (.int .i64 (elems h v c)) ∧ Below w.heap.size w w' := by
  rw [elems_iff]
  by_cases hg : 1 ≤ h ∧ h ≤ 16 ∧ 1 ≤ v ∧ v ≤ 16 ∧ 1 ≤ c ∧ c ≤ 1024
  · obtain ⟨a1, a2, a3, a4, a5, a6⟩ := hg
    have p1 : 0 ≤ h * v ∧ h * v ≤ 256 := ⟨Int.mul_nonneg (by omega) (by omega), Int.mul_le_mul a2 a4 (by omega) (by omega)⟩
    have p2 : 0 ≤ h * v * c ∧ h * v * c ≤ 256 * 1024 := ⟨Int.mul_nonneg (by omega) (by omega), Int.mul_le_mul p1.2 a6 (by omega) (by omega)⟩
    by_cases hs : h * v * c ≤ 1024
    · rw [if_pos ⟨a1, a2, a3, a4, a5, a6, hs⟩]
      go_enter Try.func14, Try.ntmps14
      go_wp2_with fail
      go_ret
      exact ⟨rfl, by go_grown⟩
    · rw [if_neg (by omega)]
      go_enter Try.func14, Try.ntmps14
      go_wp2_with fail
      go_ret
      exact ⟨rfl, by go_grown⟩
  · rw [if_neg (by omega)]
    by_cases a1 : 1 ≤ h
    rotate_left
    · go_enter Try.func14, Try.ntmps14
      go_wp2_with fail
      go_ret
      exact ⟨rfl, by go_grown⟩
    by_cases a2 : h ≤ 16
    rotate_left
    · go_enter Try.func14, Try.ntmps14
      go_wp2_with fail
      go_ret
      exact ⟨rfl, by go_grown⟩
    by_cases a3 : 1 ≤ v
    rotate_left
    · go_enter Try.func14, Try.ntmps14
      go_wp2_with fail
      go_ret
      exact ⟨rfl, by go_grown⟩
    by_cases a4 : v ≤ 16
    rotate_left
    · go_enter Try.func14, Try.ntmps14
      go_wp2_with fail
      go_ret
      exact ⟨rfl, by go_grown⟩
    by_cases a5 : 1 ≤ c
    rotate_left
    · go_enter Try.func14, Try.ntmps14
      go_wp2_with fail
      go_ret
      exact ⟨rfl, by go_grown⟩
    have a6 : ¬ c ≤ 1024 := by omega
    clear hg
    go_enter Try.func14, Try.ntmps14
    go_wp2_with fail
    go_ret
    exact ⟨rfl, by go_grown⟩

theorem relems_zero (h c : Int) (v : Int) (w : World) (h0 : InK .i64 h) (h1 : InK .i64 v) (h2 : InK .i64 c) (hz : elems h v c = 0) :
    Calls Try.prog 14 #[.agg #[.int .i64 h, .int .i64 v, .int .i64 c]] w fun e w' => e = .returned (.int .i64 0) ∧ Below w.heap.size w w' := by
  rw [← hz]; exact relems_any h c v w h0 h1 h2

theorem shapeRight_any (h c : Int) (v : Int) (w : World) (h0 : InK .i64 h) (h1 : InK .i64 v) (h2 : InK .i64 c) :
    Calls Try.prog 17 #[.agg #[.int .i64 h, .int .i64 v, .int .i64 c]] w fun e w' => e = .returned (.bool (decide (0 < elems h v c))) ∧ Below w.heap.size w w' := by
  have H0 := Lib.hid h0
  have H1 := Lib.hid h1
  have H2 := Lib.hid h2
  clear h0 h1 h2
  go_enter Try.func17, Try.ntmps17
  go_wp2_with fail
  refine (elems_any h c v _ H0.out H1.out H2.out).mono ?_
  rintro e w' ⟨rfl, hb⟩
  go_wp2_with fail
  go_ret
  exact ⟨rfl, ((Below.refl _ _).alloc (Nat.le_refl _) _).trans (hb.mono (by simp))⟩

/-! ### Tensors -/

end Go.Proofs.Ytlpejbopdmledaa
namespace Go.Proofs.Ytlpejbopdmledaa
set_option linter.unusedVariables false
set_option linter.unusedSimpArgs false
open Go.RowKit Go.ChangeShapes Go.WideShapes
set_option maxRecDepth 100000

def inB (v lo hi : Int) : Bool := decide (lo ≤ v ∧ v ≤ hi)
theorem inB_t {v lo hi : Int} (h : lo ≤ v ∧ v ≤ hi) : inB v lo hi = true := decide_eq_true h
theorem inB_f {v lo hi : Int} (h : ¬ (lo ≤ v ∧ v ≤ hi)) : inB v lo hi = false := decide_eq_false h

theorem in_any (v lo hi : Int) (w : World) : Calls Try.prog 73 #[.int .i64 v, .int .i64 lo, .int .i64 hi] w fun e w' => e = .returned (.bool (inB v lo hi)) ∧ w = w' := by
  obtain ⟨r, hr⟩ : ∃ r, inB v lo hi = r := ⟨_, rfl⟩
  rw [hr]
  by_cases h1 : lo ≤ v
  · have t1 : decide (lo ≤ v) = true := decide_eq_true h1
    by_cases h2 : v ≤ hi
    · have t2 : decide (v ≤ hi) = true := decide_eq_true h2
      have R := Lib.hid (show true = r by rw [← hr, inB_t ⟨h1, h2⟩])
      clear h1 h2 hr
      go_enter Try.func73, Try.ntmps73
      go_wp2_with fail
      go_ret
      exact ⟨ret_bool R.out, rfl⟩
    · have t2 : decide (v ≤ hi) = false := decide_eq_false h2
      have R := Lib.hid (show false = r by rw [← hr, inB_f (fun e => h2 e.2)])
      clear h1 h2 hr
      go_enter Try.func73, Try.ntmps73
      go_wp2_with fail
      go_ret
      exact ⟨ret_bool R.out, rfl⟩
  · have t1 : decide (lo ≤ v) = false := decide_eq_false h1
    have R := Lib.hid (show false = r by rw [← hr, inB_f (fun e => h1 e.1)])
    clear h1 hr
    go_enter Try.func73, Try.ntmps73
    go_wp2_with fail
    go_ret
    exact ⟨ret_bool R.out, rfl⟩

/-- How often a window lies within, and the error. -/
def stepOk (n k s p : Int) : Prop := 1 ≤ n ∧ n ≤ 1024 ∧ 1 ≤ k ∧ k ≤ 5 ∧ 1 ≤ s ∧ s ≤ 4 ∧ 0 ≤ p ∧ p ≤ 4 ∧ p < k
instance (n k s p : Int) : Decidable (stepOk n k s p) := inferInstanceAs (Decidable (_ ∧ _))
def stepsV (n k s p : Int) : Int × Int := if stepOk n k s p then (if n + 2 * p < k then (0, 5) else ((n + 2 * p - k).tdiv s + 1, 0)) else (0, 2)
theorem stepsV_bad {n k s p : Int} (h : ¬ stepOk n k s p) : stepsV n k s p = (0, 2) := if_neg h
theorem stepsV_no {n k s p : Int} (h : stepOk n k s p) (h2 : n + 2 * p < k) : stepsV n k s p = (0, 5) := by unfold stepsV; rw [if_pos h, if_pos h2]
theorem stepsV_yes {n k s p : Int} (h : stepOk n k s p) (h2 : ¬ n + 2 * p < k) : stepsV n k s p = ((n + 2 * p - k).tdiv s + 1, 0) := by unfold stepsV; rw [if_pos h, if_neg h2]

set_option maxHeartbeats 2000000 in
theorem steps_any (n k s p : Int) (w : World) : Calls Try.prog 66 #[.int .i64 n, .int .i64 k, .int .i64 s, .int .i64 p] w fun e w' => e = .returned (.tuple #[.int .i64 (stepsV n k s p).1, .int .i64 (stepsV n k s p).2]) ∧ w = w' := by
  by_cases c : stepOk n k s p
  · have t1 := inB_t (v := n) (lo := 1) (hi := 1024) ⟨c.1, c.2.1⟩
    have t2 := inB_t (v := k) (lo := 1) (hi := 5) ⟨c.2.2.1, c.2.2.2.1⟩
    have t3 := inB_t (v := s) (lo := 1) (hi := 4) ⟨c.2.2.2.2.1, c.2.2.2.2.2.1⟩
    have t4 := inB_t (v := p) (lo := 0) (hi := 4) ⟨c.2.2.2.2.2.2.1, c.2.2.2.2.2.2.2.1⟩
    have C := c
    unfold stepOk at c
    have t5 : decide (k ≤ p) = false := by simp; omega
    have e1 : IntKind.i64.wrap (2 * p) = 2 * p := IntWalk.i64_in _ (by omega)
    have e2 : IntKind.i64.wrap (n + 2 * p) = n + 2 * p := IntWalk.i64_in _ (by omega)
    by_cases h : n + 2 * p < k
    · have t6 : decide (n + 2 * p < k) = true := decide_eq_true h
      have R := Lib.hid (stepsV_no C h)
      clear c C h
      go_enter Try.func66, Try.ntmps66
      go_wp2_with (go_at_call 73; refine (in_any _ _ _ _).mono ?_; rintro e w' ⟨rfl, rfl⟩)
      go_ret2
      exact ⟨by rw [R.out]; rfl, rfl⟩
    · have t6 : decide (n + 2 * p < k) = false := decide_eq_false h
      have R := Lib.hid (stepsV_yes C h)
      have e3 : IntKind.i64.wrap (n + 2 * p - k) = n + 2 * p - k := IntWalk.i64_in _ (by omega)
      have d0 : 0 ≤ (n + 2 * p - k).tdiv s ∧ (n + 2 * p - k).tdiv s ≤ 2000 := by
        rw [Int.tdiv_eq_ediv_of_nonneg (by omega)]
        refine ⟨Int.ediv_nonneg (by omega) (by omega), ?_⟩
        exact Int.le_trans (Int.ediv_le_self _ (by omega)) (by omega)
      have s0 : (s == 0) = false := by simp; omega
      have hs0 : s ≠ 0 := by omega
      have S0 := Lib.hid hs0
      generalize hd : (n + 2 * p - k).tdiv s = d at *
      have e4 : IntKind.i64.wrap d = d := IntWalk.i64_in _ (by omega)
      have e5 : IntKind.i64.wrap (d + 1) = d + 1 := IntWalk.i64_in _ (by omega)
      clear c C h d0 hs0
      go_enter Try.func66, Try.ntmps66
      go_wp2_with (go_at_call 73; refine (in_any _ _ _ _).mono ?_; rintro e w' ⟨rfl, rfl⟩)
      go_ret2
      exact ⟨by rw [R.out]; rfl, rfl⟩
  · have R := Lib.hid (stepsV_bad c)
    by_cases h1 : 1 ≤ n ∧ n ≤ 1024
    rotate_left
    · have t1 := inB_f h1
      clear c h1
      go_enter Try.func66, Try.ntmps66
      go_wp2_with (go_at_call 73; refine (in_any _ _ _ _).mono ?_; rintro e w' ⟨rfl, rfl⟩)
      go_ret2
      exact ⟨by rw [R.out]; rfl, rfl⟩
    have t1 := inB_t h1
    by_cases h2 : 1 ≤ k ∧ k ≤ 5
    rotate_left
    · have t2 := inB_f h2
      clear c h1 h2
      go_enter Try.func66, Try.ntmps66
      go_wp2_with (go_at_call 73; refine (in_any _ _ _ _).mono ?_; rintro e w' ⟨rfl, rfl⟩)
      go_ret2
      exact ⟨by rw [R.out]; rfl, rfl⟩
    have t2 := inB_t h2
    by_cases h3 : 1 ≤ s ∧ s ≤ 4
    rotate_left
    · have t3 := inB_f h3
      clear c h1 h2 h3
      go_enter Try.func66, Try.ntmps66
      go_wp2_with (go_at_call 73; refine (in_any _ _ _ _).mono ?_; rintro e w' ⟨rfl, rfl⟩)
      go_ret2
      exact ⟨by rw [R.out]; rfl, rfl⟩
    have t3 := inB_t h3
    by_cases h4 : 0 ≤ p ∧ p ≤ 4
    rotate_left
    · have t4 := inB_f h4
      clear c h1 h2 h3 h4
      go_enter Try.func66, Try.ntmps66
      go_wp2_with (go_at_call 73; refine (in_any _ _ _ _).mono ?_; rintro e w' ⟨rfl, rfl⟩)
      go_ret2
      exact ⟨by rw [R.out]; rfl, rfl⟩
    have t4 := inB_t h4
    have t5 : decide (k ≤ p) = true := by simp; unfold stepOk at c; omega
    clear c h1 h2 h3 h4
    go_enter Try.func66, Try.ntmps66
    go_wp2_with (go_at_call 73; refine (in_any _ _ _ _).mono ?_; rintro e w' ⟨rfl, rfl⟩)
    go_ret2
    exact ⟨by rw [R.out]; rfl, rfl⟩
end Go.Proofs.Ytlpejbopdmledaa
