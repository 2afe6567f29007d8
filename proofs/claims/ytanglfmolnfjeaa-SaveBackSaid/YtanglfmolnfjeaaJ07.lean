/-
  A reader of bytes (layer 8): fail, next, Count, End.
  Conditions: none.
-/
import Derived.Test.YtanglfmolnfjeaaChecked
import Derived.Test.YtanglfmolnfjeaaJ05
import Derived.Test.YtanglfmolnfjeaaJ06
namespace Go.Proofs.Ytanglfmolnfjeaa
set_option linter.unusedVariables false
set_option linter.unusedSimpArgs false
open Go.RowKit Go.ChangeShapes Go.WideShapes
set_option maxRecDepth 100000
set_option maxHeartbeats 4000000

/-- A reader lies in block g: what is left of its bytes, and its first error; its bytes lie in none of X's blocks. -/
structure RdAt (X : Nat → Prop) (w : World) (g : Nat) (s : List Int × Int) : Prop where
  out : ∃ A n c, Blk w g 80 #[.slice A n c, .int .i64 s.2] ∧ Sl (tInt .u8) w (fun x => x < w.heap.size ∧ ¬ X x) A n c s.1

theorem RdAt.later {X : Nat → Prop} {w w' : World} {g : Nat} {s : List Int × Int} (h : RdAt X w g s) (hb : Below w.heap.size w w') : RdAt X w' g s := by
  obtain ⟨A, n, c, h1, h2⟩ := h.out
  exact ⟨A, n, c, h1.later hb, (h2.below hb (fun _ h => h.1)).more (fun _ h => ⟨Nat.lt_of_lt_of_le h.1 hb.size, h.2⟩)⟩
theorem RdAt.lt {X : Nat → Prop} {w : World} {g : Nat} {s : List Int × Int} (h : RdAt X w g s) : g < w.heap.size := by
  obtain ⟨A, n, c, h1, h2⟩ := h.out
  exact h1.lt
/-- Other blocks than the reader's are written. -/
theorem RdAt.but {X Y : Nat → Prop} {w w' : World} {g : Nat} {s : List Int × Int} (h : RdAt X w g s) (hb : But Y w w') (hY : ∀ k, Y k → X k) (hg : ¬ Y g) : RdAt X w' g s := by
  obtain ⟨A, n, c, h1, h2⟩ := h.out
  exact ⟨A, n, c, h1.but hb hg, h2.but (hb.mono hY)⟩

/-- The first error is kept. -/
def fails (e : Int) (s : List Int × Int) : List Int × Int := if s.2 = 0 then ([], e) else s

theorem fail_any (X : Nat → Prop) (g : Nat) (s : List Int × Int) (e : Int) (w : World) (h : RdAt X w g s) (hX : X g) :
    Calls Try.prog 54 #[.pointer (some ⟨g, 0, none⟩), .int .i64 e] w fun e' w' => e' = .returned (.tuple #[]) ∧ RdAt X w' g (fails e s) ∧ But (one g) w w' := by
  have H := Lib.hid h
  obtain ⟨A, n, c, hB, hs⟩ := h.out
  have BB := Lib.hid hB
  have c1 : w.cell? ⟨g, 1, none⟩ = some (.int .i64 s.2) := hB.cell 1
  have c0 : w.cell? ⟨g, 0, none⟩ = some (.slice A n c) := hB.cell 0
  have f0 := hB.frozen 0
  have f1 := hB.frozen 1
  have FV := Lib.hid (show fails e s = if s.2 = 0 then ([], e) else s from rfl)
  have lt := hB.lt
  obtain ⟨l, bad⟩ := s
  simp only at c1
  clear h hB hs
  by_cases q : bad = 0
  · subst q
    have F2 := Lib.hid (show fails e (l, 0) = ([], e) from rfl)
    go_enter Try.func54, Try.ntmps54
    go_wp2_with fail
    refine bodyPost_end (results_none rfl _ _ _) rfl ?_
    rw [F2.out]
    exact ⟨rfl, ⟨none, 0, 0, by simpa using (BB.out.set_ 1 (.int .i64 e)).set_ 0 (.slice none 0 0), Sl.nil _ _ _⟩, (But.one_set _ _ _ _).trans (But.one_set _ _ _ _)⟩
  · have F2 := Lib.hid (show fails e (l, bad) = (l, bad) by rw [FV.out, if_neg q])
    have t1 : (bad == 0) = false := by simpa using q
    clear FV
    go_enter Try.func54, Try.ntmps54
    go_wp2_with fail
    refine bodyPost_end (results_none rfl _ _ _) rfl ?_
    rw [F2.out]
    exact ⟨rfl, H.out, But.refl _ _⟩

/-- The next number, whether there is one, what is left. -/
def nextV (s : List Int × Int) : (Nat × Bool) × (List Int × Int) :=
  if s.2 = 0 then (if (lebGetV s.1).2.2 = 0 then (((lebGetV s.1).1, true), (s.1.drop (lebGetV s.1).2.1, 0)) else ((0, false), ([], (lebGetV s.1).2.2))) else ((0, false), s)

theorem lebGetV_nil : lebGetV [] = (0, 0, 20) := rfl

theorem next_any (X : Nat → Prop) (g : Nat) (s : List Int × Int) (w : World) (h : RdAt X w g s) (hX : X g) :
    Calls Try.prog 52 #[.pointer (some ⟨g, 0, none⟩), .func (.func 53) #[] #[]] w fun e' w' => e' = .returned (.tuple #[.int .u64 ((nextV s).1.1 : Int), .bool (nextV s).1.2]) ∧ RdAt X w' g (nextV s).2 ∧ But (one g) w w' := by
  have H := Lib.hid h
  obtain ⟨A, n, c, hB, hs⟩ := h.out
  have BB := Lib.hid hB
  have c1 : w.cell? ⟨g, 1, none⟩ = some (.int .i64 s.2) := hB.cell 1
  have c0 : w.cell? ⟨g, 0, none⟩ = some (.slice A n c) := hB.cell 0
  have f0 := hB.frozen 0
  have lt := hB.lt
  obtain ⟨l, bad⟩ := s
  simp only at c1
  have NV := Lib.hid (show nextV (l, bad) = if bad = 0 then (if (lebGetV l).2.2 = 0 then (((lebGetV l).1, true), (l.drop (lebGetV l).2.1, 0)) else ((0, false), ([], (lebGetV l).2.2))) else ((0, false), (l, bad)) from rfl)
  have SS := Lib.hid hs
  clear h hB hs
  by_cases q : bad = 0
  · subst q
    have NV' := NV.out
    rw [if_pos rfl] at NV'
    replace NV := Lib.hid NV'
    have LG := Lib.hid (fun w' (hb : Below w.heap.size w w') => lebGet_any A n c l w' ((SS.out.below hb (fun _ h => h.1)).more (fun _ h => Nat.lt_of_lt_of_le h.1 hb.size)))
    have bd := lebGetV_bd l (fun i => by have := SS.out.allK i; rw [inK_u8] at this; exact this.1)
    have nl := lebGetV_nil
    obtain ⟨r, hr⟩ : ∃ r, lebGetV l = r := ⟨_, rfl⟩
    rw [hr] at NV' LG bd
    have NV := Lib.hid NV'
    have HR := Lib.hid hr
    obtain ⟨v, k, e⟩ := r
    simp only at bd
    obtain ⟨b1, b2, b3, b4⟩ := bd
    clear hr NV' nl
    go_enter Try.func52, Try.ntmps52
    go_wp2_with fail
    refine (LG.out _ (Below.refl _ _)).mono ?_
    rintro e' w' ⟨rfl, rfl⟩
    by_cases he : e = 0
    · subst he
      have hn := SS.out.n_eq
      obtain ⟨b, off, rfl, _⟩ : ∃ b off, A = some ⟨b, off, none⟩ ∧ True := by
        by_cases h0 : n = 0
        · have hl : l = [] := List.length_eq_zero_iff.1 (by rw [hn]; exact h0)
          have := HR.out
          rw [hl] at this
          rw [lebGetV_nil] at this
          simp at this
        · obtain ⟨b, off, e, _⟩ := SS.out.int_at 0 (by omega)
          exact ⟨b, off, e, trivial⟩
      have hc := SS.out.cap_le
      have hmx := SS.out.max_le
      unfold maxLen at hmx
      rw [hn] at b3
      have S2 := Lib.hid (SS.out.sub k (n - k) k (c - k) (by simp [tInt]) (by omega) (by omega) (by omega))
      have DT := Lib.hid (show (l.drop k).take (n - k) = l.drop k from List.take_of_length_le (by rw [List.length_drop, hn]; exact Nat.le_refl _))
      have NV := Lib.hid (show nextV (l, 0) = ((v, true), (l.drop k, 0)) by rw [NV.out, if_pos rfl])
      clear HR b4
      by_cases hck : c = k
      · have DN := Lib.hid (show l.drop k = [] from List.drop_of_length_le (by omega))
        clear hn
        go_wp2_with fail
        go_ret2
        rw [NV.out, DN.out]
        refine ⟨rfl, ⟨_, _, _, BB.out.set_ 0 _, ?_⟩, But.one_set _ _ _ _⟩
        exact ⟨by simp; omega, by omega, by unfold maxLen; omega, (fun h => by cases h), fun i x hx => by simp at hx⟩
      clear hn
      go_wp2_with fail
      go_ret2
      rw [NV.out]
      refine ⟨rfl, ⟨_, _, _, BB.out.set_ 0 _, ?_⟩, But.one_set _ _ _ _⟩
      have := S2.out
      rw [DT.out] at this
      exact (this.but' (But.one_set _ g 0 _) (fun x hx => ⟨hx.1, fun e => hx.2 (by cases e; exact hX)⟩)).more (fun x hx => ⟨by simpa using hx.1, hx.2⟩)
    · have t1 : (e != 0) = true := by simpa using he
      go_wp2_with fail
      refine (fail_any X g (l, 0) e _ H.out hX).mono ?_
      rintro e' w' ⟨rfl, hr, hb⟩
      have HR := Lib.hid hr
      have HB := Lib.hid hb
      clear hr hb
      go_wp2_with fail
      go_ret2
      rw [NV.out, if_neg he]
      exact ⟨rfl, HR.out, HB.out⟩
  · have t1 : (bad != 0) = true := by simpa using q
    have N2 := Lib.hid (show nextV (l, bad) = ((0, false), (l, bad)) by rw [NV.out, if_neg q])
    clear NV
    go_enter Try.func52, Try.ntmps52
    go_wp2_with fail
    go_ret2
    rw [N2.out]
    exact ⟨rfl, H.out, But.refl _ _⟩

/-- A number from 0 to most, what is left. -/
def cntV (most : Nat) (s : List Int × Int) : Nat × (List Int × Int) :=
  if (nextV s).1.2 = true then (if most < (nextV s).1.1 then (0, fails 3 (nextV s).2) else ((nextV s).1.1, (nextV s).2)) else (0, (nextV s).2)

theorem rdCount_any (X : Nat → Prop) (g : Nat) (s : List Int × Int) (most : Nat) (hm : most ≤ 1099511627776) (w : World) (h : RdAt X w g s) (hX : X g) :
    Calls Try.prog 44 #[.pointer (some ⟨g, 0, none⟩), .int .i64 (most : Int)] w fun e' w' => e' = .returned (.int .i64 ((cntV most s).1 : Int)) ∧ RdAt X w' g (cntV most s).2 ∧ But (one g) w w' := by
  have NX := Lib.hid (next_any X g s w h hX)
  have CV := Lib.hid (show cntV most s = if (nextV s).1.2 = true then (if most < (nextV s).1.1 then (0, fails 3 (nextV s).2) else ((nextV s).1.1, (nextV s).2)) else (0, (nextV s).2) from rfl)
  obtain ⟨r, hr⟩ : ∃ r, cntV most s = r := ⟨_, rfl⟩
  rw [hr] at CV ⊢
  obtain ⟨q, hq⟩ : ∃ q, nextV s = q := ⟨_, rfl⟩
  rw [hq] at NX CV
  obtain ⟨⟨v, ok⟩, s2⟩ := q
  simp only at NX CV
  clear h hr hq
  have mx : max (most : Int) 0 = (most : Int) := by omega
  go_enter Try.func44, Try.ntmps44
  go_wp2_with fail
  refine NX.out.mono ?_
  rintro e' w' ⟨rfl, hr, hb⟩
  have HR := Lib.hid hr
  have HB := Lib.hid hb
  clear hr hb
  cases ok with
  | false =>
    rw [if_neg (by decide)] at CV
    go_wp2_with fail
    go_ret
    rw [CV.out]
    exact ⟨rfl, HR.out, HB.out⟩
  | true =>
    rw [if_pos rfl] at CV
    by_cases hv : most < v
    · rw [if_pos hv] at CV
      have t1 : decide ((most : Int) < (v : Int)) = true := by simp; omega
      have t2 : decide (most < v) = true := by simp; omega
      go_wp2_with fail
      refine (fail_any X g s2 3 _ HR.out hX).mono ?_
      rintro e' w2 ⟨rfl, hr, hb⟩
      have HR := Lib.hid hr
      have HB := Lib.hid (HB.out.trans hb)
      clear hr hb
      go_wp2_with fail
      go_ret
      rw [CV.out]
      exact ⟨rfl, HR.out, HB.out⟩
    · rw [if_neg hv] at CV
      have t1 : decide ((most : Int) < (v : Int)) = false := by simp; omega
      have t2 : decide (most < v) = false := by simp; omega
      have hv' : v ≤ most := by omega
      go_wp2_with fail
      go_ret
      rw [CV.out]
      exact ⟨rfl, HR.out, HB.out⟩

/-- What is wrong at the end: 24: there is more. -/
def endV (s : List Int × Int) : Int := if s.2 = 0 then (if 0 < s.1.length then 24 else 0) else s.2
theorem rdEnd_any (X : Nat → Prop) (g : Nat) (s : List Int × Int) (w : World) (h : RdAt X w g s) :
    Calls Try.prog 29 #[.pointer (some ⟨g, 0, none⟩)] w fun e' w' => e' = .returned (.int .i64 (endV s)) ∧ w' = w := by
  obtain ⟨A, n, c, hB, hs⟩ := h.out
  have c1 : w.cell? ⟨g, 1, none⟩ = some (.int .i64 s.2) := hB.cell 1
  have c0 : w.cell? ⟨g, 0, none⟩ = some (.slice A n c) := hB.cell 0
  have EV := Lib.hid (show endV s = if s.2 = 0 then (if 0 < n then 24 else 0) else s.2 by rw [← hs.n_eq]; rfl)
  have hm : n ≤ 9223372036854775807 := Nat.le_trans hs.cap_le hs.max_le
  obtain ⟨r, hr⟩ : ∃ r, endV s = r := ⟨_, rfl⟩
  rw [hr] at EV ⊢
  obtain ⟨l, bad⟩ := s
  simp only at c1 EV
  clear h hB hs hr
  by_cases q : bad = 0
  · subst q
    rw [if_pos rfl] at EV
    by_cases hn : 0 < n
    · rw [if_pos hn] at EV
      have t1 : decide ((0 : Int) < (n : Int)) = true := by simp; omega
      have t2 : decide (0 < n) = true := by simp; omega
      go_enter Try.func29, Try.ntmps29
      go_wp2_with fail
      go_ret
      exact ⟨by rw [EV.out]; rfl, by trivial⟩
    · rw [if_neg hn] at EV
      obtain rfl : n = 0 := by omega
      go_enter Try.func29, Try.ntmps29
      go_wp2_with fail
      go_ret
      exact ⟨by rw [EV.out]; rfl, by trivial⟩
  · rw [if_neg q] at EV
    have t1 : (bad != 0) = true := by simpa using q
    go_enter Try.func29, Try.ntmps29
    go_wp2_with fail
    go_ret
    exact ⟨by rw [EV.out]; rfl, by trivial⟩
end Go.Proofs.Ytanglfmolnfjeaa
