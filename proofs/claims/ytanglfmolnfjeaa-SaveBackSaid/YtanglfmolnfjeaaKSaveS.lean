/-
  The walk of the law SaveBack (layer 37).
  Conditions: none.
-/
import Derived.Test.YtanglfmolnfjeaaChecked
import Derived.Test.YtanglfmolnfjeaaJ45
import Derived.Test.YtanglfmolnfjeaaKSaveR
import Derived.Test.YtanglfmolnfjeaaKSameW
import Derived.Laws.BytesArg
namespace Go.Proofs.Ytanglfmolnfjeaa
set_option linter.unusedVariables false
set_option linter.unusedSimpArgs false
open Go.RowKit Go.ChangeShapes Go.WideShapes
set_option maxRecDepth 100000
set_option maxHeartbeats 8000000

theorem putV_len {p : Pt} (h1 : p.input.data.length ≤ 1024) (h2 : p.value.data.length ≤ 1024) : (putV p).1.length ≤ 5000 := by
  have n1 := numbersV_len [p.model, p.block, p.spent]
  have n2 := numbersV_len [p.input.h, p.input.v, p.input.c]
  have n3 := numbersV_len [p.value.h, p.value.v, p.value.c]
  have n4 := numbersV_len [0]
  have n5 := numbersV_len [1]
  simp only [List.length_cons, List.length_nil] at n1 n2 n3 n4 n5
  unfold putV
  split
  · split
    · show (sealV (bodyV p)).length ≤ 5000
      unfold sealV bodyV laidV
      simp only [List.length_append, octV_length]
      have : (put32V (crcV (numbersV [p.model, p.block, p.spent] ++ (numbersV [p.input.h, p.input.v, p.input.c] ++ octV p.input.data) ++ if likeT p.input p.value = true then numbersV [0] else numbersV [1] ++ (numbersV [p.value.h, p.value.v, p.value.c] ++ octV p.value.data))).toNat).length = 4 := by simp [put32V]
      rw [this]
      split
      · omega
      · simp only [List.length_append, octV_length]; omega
    · exact Nat.zero_le _
  · exact Nat.zero_le _
theorem right_in {t : Tensor} (h : rightT t = true) : TensorIn t := by
  unfold rightT at h
  obtain ⟨h1, h2⟩ := of_decide_eq_true h
  have he := elems_iff t.h t.v t.c
  by_cases q : 1 ≤ t.h ∧ t.h ≤ 16 ∧ 1 ≤ t.v ∧ t.v ≤ 16 ∧ 1 ≤ t.c ∧ t.c ≤ 1024 ∧ t.h * t.v * t.c ≤ 1024
  · obtain ⟨q1, q2, q3, q4, q5, q6, _⟩ := q
    exact ⟨by rw [inK_i64]; omega, by rw [inK_i64]; omega, by rw [inK_i64]; omega⟩
  · rw [if_neg q] at he; omega
theorem get_in {b : List Int} {q : Pt} (hb : Bytes b) (h : getV (sealV b) = (q, 0)) : PtIn q := by
  rw [get_seal] at h
  obtain ⟨_, h1, h2, h3, h4, h5⟩ := body_dec hb h
  have j1 := in_spec h1
  have j2 := in_spec h2
  have j3 := in_spec h3
  exact ⟨by rw [inK_i64]; omega, by rw [inK_i64]; omega, by rw [inK_i64]; omega, right_in h4, right_in h5⟩

theorem saveback_any (p : Pt) (A B : Option Addr) (n c m d : Nat) (D : Option Addr) (k e : Nat) (l : List Int) (w : World) (hs : Sl (tInt .i8) w (blo w.heap.size) A n c p.input.data) (hs' : Sl (tInt .i8) w (blo w.heap.size) B m d p.value.data) (hp : PtIn p) (hl : Sl (tInt .u8) w (blo w.heap.size) D k e l) :
    Calls Try.prog 4 #[.agg (ptCells p A n c B m d), .slice D k e] w fun e w' => e = .returned (.bool true) ∧ Below w.heap.size w w' := by
  have H1 := Lib.hid hs
  have H2 := Lib.hid hs'
  have H3 := Lib.hid hl
  have IP := Lib.hid hp
  have x1 : n ≤ 9223372036854775807 := Nat.le_trans hs.cap_le hs.max_le
  have x2 : m ≤ 9223372036854775807 := Nat.le_trans hs'.cap_le hs'.max_le
  have x3 : k ≤ 9223372036854775807 := Nat.le_trans hl.cap_le hl.max_le
  clear hs hs' hl hp
  by_cases big : 1024 < n ∨ 1024 < m ∨ 3000 < k
  · unfold ptCells
    have TT := Lib.hid (show (decide (1024 < (n : Int)) = true) ∨ (decide (1024 < (n : Int)) = false ∧ decide (1024 < (m : Int)) = true) ∨ (decide (1024 < (n : Int)) = false ∧ decide (1024 < (m : Int)) = false ∧ decide (3000 < (k : Int)) = true) by
      by_cases y1 : 1024 < n
      · left; simp; omega
      · right
        by_cases y2 : 1024 < m
        · left; exact ⟨by simp; omega, by simp; omega⟩
        · right; exact ⟨by simp; omega, by simp; omega, by simp; omega⟩)
    rcases TT.out with t1 | ⟨t1, t2⟩ | ⟨t1, t2, t3⟩
    all_goals (
      clear TT big
      go_enter Try.func4, Try.ntmps4
      go_wp2_with fail
      refine (known37_any _).mono ?_
      rintro e w2 ⟨rfl, hb⟩
      have FZ := Lib.hid (show Below w.heap.size w w2 from below_later hb ((Below.refl _ _).alloc (Nat.le_refl _) _))
      clear hb
      go_wp2_with fail
      go_ret
      exact ⟨rfl, FZ.out⟩)
  have t1 : decide (1024 < (n : Int)) = false := by simp; omega
  have t2 : decide (1024 < (m : Int)) = false := by simp; omega
  have t3 : decide (3000 < (k : Int)) = false := by simp; omega
  have l3 : k ≤ 3000 := by omega
  have l1 : n ≤ 1024 := by omega
  have l2 : m ≤ 1024 := by omega
  clear big
  have b1 : ∀ y ∈ p.input.data, InK .i8 y := H1.out.inAll
  have b2 : ∀ y ∈ p.value.data, InK .i8 y := H2.out.inAll
  have b3 : Bytes l := fun y hy => by have := H3.out.inAll y hy; rw [inK_u8] at this; exact this
  have SP := Lib.hid (fun (W : World) (hb : Below w.heap.size w W) => savePut_any p A B n c m d W (H1.out.later hb (Nat.le_refl _)) (H2.out.later hb (Nat.le_refl _)) IP.out)
  have SL := Lib.hid (fun (W : World) (hb : Below w.heap.size w W) => seal_any D k e l W (H3.out.later hb (Nat.le_refl _)) (by omega))
  have GS := Lib.hid (fun (A' : Option Addr) (n' c' : Nat) (W : World) (h : Sl (tInt .u8) W (blo W.heap.size) A' n' c' (sealV l)) (hn : n' ≤ 100000) => saveGet_any A' n' c' (sealV l) W h hn)
  have ls : (sealV l).length = k + 4 := by unfold sealV; rw [List.length_append, H3.out.n_eq]; simp [put32V]
  have pl := putV_len (p := p) (by rw [H1.out.n_eq]; omega) (by rw [H2.out.n_eq]; omega)
  obtain ⟨⟨xl, xe⟩, h1⟩ : ∃ x, putV p = x := ⟨_, rfl⟩
  obtain ⟨⟨q, f⟩, h2⟩ : ∃ x, getV (sealV l) = x := ⟨_, rfl⟩
  have GP := Lib.hid (show xe = 0 → getV xl = (p, 0) from fun e => get_put b1 b2 (by rw [h1, e]))
  have GN := Lib.hid (show f ≠ 0 → q = noPoint from fun e => get_none h2 e)
  have PG := Lib.hid (show f = 0 → putV q = (sealV l, 0) ∧ PtIn q from fun e => ⟨put_get b3 (by rw [h2, e]), get_in b3 (by rw [h2, e])⟩)
  rw [h1] at SP pl
  rw [h2] at GS
  obtain ⟨sl, h4⟩ : ∃ x, sealV l = x := ⟨_, rfl⟩
  rw [h4] at SL GS ls PG
  have LS := Lib.hid ls
  have XL := Lib.hid (show xl.length ≤ 5000 from pl)
  clear h1 h2 h4 ls pl b1 b2 b3
  unfold ptCells
  go_enter Try.func4, Try.ntmps4
  go_wp2_with fail
  obtain ⟨w1, hw1⟩ : ∃ x, w.alloc (.cells #[.int .i64 p.model, .int .i64 p.block, .int .i64 p.spent, .int .i64 p.input.h, .int .i64 p.input.v, .int .i64 p.input.c, .slice A n c, .int .i64 p.value.h, .int .i64 p.value.v, .int .i64 p.value.c, .slice B m d] 28) = x := ⟨_, rfl⟩
  have BB := Lib.hid (show Blk w1 w.heap.size 28 #[.int .i64 p.model, .int .i64 p.block, .int .i64 p.spent, .int .i64 p.input.h, .int .i64 p.input.v, .int .i64 p.input.c, .slice A n c, .int .i64 p.value.h, .int .i64 p.value.v, .int .i64 p.value.c, .slice B m d] by rw [← hw1]; exact Blk.now _ _ _ _ rfl)
  have FR := Lib.hid (show Far w w1 by rw [← hw1]; exact ⟨(Below.refl _ _).alloc (Nat.le_refl _) _⟩)
  rw [hw1]
  clear hw1 t1 t2 t3
  simp only [ptCells] at SP
  refine (SP.out w1 FR.out.out).mono ?_
  rintro e w2 ⟨⟨Ax, nx, cx, rfl, hsx⟩, hb⟩
  have SX := Lib.hid (show Sl (tInt .u8) w2 (blo w2.heap.size) Ax nx cx xl from hsx.old)
  replace BB := Lib.hid (BB.out.fut hb)
  replace FR := Lib.hid (FR.out.fut hb)
  clear hb
  clear hsx SP
  by_cases hx : xe = 0
  rotate_left
  · have u0 : (xe == 0) = false := by simpa using hx
    clear hx GP SX BB
    go_wp2_with fail
    refine (SL.out w2 FR.out.out).mono ?_
    rintro e v5 ⟨As, ns, cs, rfl, hss, hb⟩
    have ns1 : ns ≤ 100000 := by rw [← hss.n_eq, LS.out]; omega
    have ns0 : 0 < ns := by rw [← hss.n_eq, LS.out]; omega
    have SS := Lib.hid hss.old
    replace FR := Lib.hid (FR.out.fut hb)
    clear hb
    clear hss
    go_wp2_with fail
    refine (GS.out As ns cs v5 SS.out ns1).mono ?_
    rintro e v6 ⟨⟨A1, n1, c1, B1, m1, d1, rfl, hq1, hq2⟩, hb⟩
    have Q1 := Lib.hid hq1.old
    have Q2 := Lib.hid hq2.old
    replace FR := Lib.hid (FR.out.fut hb)
    replace SS := Lib.hid (SS.out.fut hb)
    clear hb
    clear hq1 hq2 GS ns1
    by_cases hf : f = 0
    rotate_left
    · have u1 : (f != 0) = true := by simpa using hf
      have hq := GN.out hf
      subst hq
      clear hf
      unfold ptCells noPoint noTensor
      go_wp2_with (first | (refine wpList_store_all rfl 28 (.tmp 10) (.tmp 57) rfl v6.heap.size #[.int .i64 0, .int .i64 0, .int .i64 0, .int .i64 0, .int .i64 0, .int .i64 0, .slice A1 n1 c1, .int .i64 0, .int .i64 0, .int .i64 0, .slice B1 m1 d1] rfl rfl _ _ (Blk.now _ _ _ _ rfl) rfl (by kernel_rfl) (by simp [Value.oneCell']) ?_; intro v7 B5 g5; have BQ := Lib.hid B5; have GX := Lib.hid (show Below v6.heap.size v6 v7 from ((Below.refl _ _).alloc (Nat.le_refl _) _).grown g5 (by simp) (fun k h => by have := Option.some.inj h; omega)); clear B5 g5) | (refine wpList_load_row rfl 28 (.tmp 10) rfl v6.heap.size rfl _ _ (0, 0) _ BQ.out.heap Try.underlying28 rfl (by kernel_rfl) ?_))
      have gx := GX.out
      clear GX
      replace FR := Lib.hid (FR.out.fut gx)
      replace Q1 := Lib.hid (Q1.out.fut gx)
      replace Q2 := Lib.hid (Q2.out.fut gx)
      clear gx
      have OZ := Lib.hid (fun w => of37_any noPoint A1 B1 n1 c1 m1 d1 w)
      have SZ := Lib.hid (fun (w : World) (h1 : Sl (tInt .i8) w (blo w.heap.size) A1 n1 c1 noPoint.input.data) (h2 : Sl (tInt .i8) w (blo w.heap.size) B1 m1 d1 noPoint.value.data) => same36_eq noPoint A1 B1 none none n1 c1 m1 d1 0 0 0 0 w h1 h2 (Sl.nil _ _ _) (Sl.nil _ _ _))
      simp only [ptCells, noPoint, noTensor] at OZ SZ
      refine (OZ.out _).mono ?_
      rintro e v8 ⟨rfl, hb⟩
      replace FR := Lib.hid (FR.out.fut hb)
      replace Q1 := Lib.hid (Q1.out.fut hb)
      replace Q2 := Lib.hid (Q2.out.fut hb)
      clear hb
      go_wp2_with fail
      refine (SZ.out _ Q1.out Q2.out).mono ?_
      rintro e v9 ⟨rfl, hb⟩
      replace FR := Lib.hid (FR.out.fut hb)
      clear hb
      go_wp2_with fail
      refine (known37_any _).mono ?_
      rintro e va ⟨rfl, hb⟩
      replace FR := Lib.hid (FR.out.fut hb)
      clear hb
      go_wp2_with fail
      go_ret
      exact ⟨rfl, FR.out.out⟩
    · subst hf
      obtain ⟨pq, hpq⟩ := PG.out rfl
      have SQ := Lib.hid (fun (W : World) (h1 : Sl (tInt .i8) W (blo W.heap.size) A1 n1 c1 q.input.data) (h2 : Sl (tInt .i8) W (blo W.heap.size) B1 m1 d1 q.value.data) => savePut_any q A1 B1 n1 c1 m1 d1 W h1 h2 hpq)
      rw [pq] at SQ
      simp only [ptCells] at SQ
      clear pq hpq
      unfold ptCells
      go_wp2_with (first | (refine wpList_store_all rfl 28 (.tmp 10) (.tmp 57) rfl v6.heap.size #[.int .i64 q.model, .int .i64 q.block, .int .i64 q.spent, .int .i64 q.input.h, .int .i64 q.input.v, .int .i64 q.input.c, .slice A1 n1 c1, .int .i64 q.value.h, .int .i64 q.value.v, .int .i64 q.value.c, .slice B1 m1 d1] rfl rfl _ _ (Blk.now _ _ _ _ rfl) rfl (by kernel_rfl) (by simp [Value.oneCell']) ?_; intro v7 B5 g5; have BQ := Lib.hid B5; have GX := Lib.hid (show Below v6.heap.size v6 v7 from ((Below.refl _ _).alloc (Nat.le_refl _) _).grown g5 (by simp) (fun k h => by have := Option.some.inj h; omega)); clear B5 g5) | (refine wpList_load_row rfl 28 (.tmp 10) rfl v6.heap.size rfl _ _ (0, 0) _ BQ.out.heap Try.underlying28 rfl (by kernel_rfl) ?_))
      have gx := GX.out
      clear GX
      replace FR := Lib.hid (FR.out.fut gx)
      replace SS := Lib.hid (SS.out.fut gx)
      replace Q1 := Lib.hid (Q1.out.fut gx)
      replace Q2 := Lib.hid (Q2.out.fut gx)
      clear gx
      refine (SQ.out _ Q1.out Q2.out).mono ?_
      rintro e v8 ⟨⟨Ay, ny, cy, rfl, hsy⟩, hb⟩
      replace FR := Lib.hid (FR.out.fut hb)
      replace SS := Lib.hid (SS.out.fut hb)
      clear hb
      have ly := hsy.n_eq
      obtain ⟨by1, oy1, rfl, _⟩ := hsy.int_at 0 (by rw [← ly]; show 0 < sl.length; rw [LS.out]; omega)
      obtain ⟨bs1, os1, rfl, _⟩ := SS.out.int_at 0 ns0
      have kc1 : ∀ dst, Try.prog.underlying dst = some .string → (convert 29 dst (.slice (some ⟨by1, oy1, none⟩) ny cy)).run Try.prog v8 = .ok (.string (strOfNums sl)) v8 := run_convert_bytes_arg v8 29 5 Try.underlying29 Try.underlying5 by1 oy1 ny cy sl ly (fun i hi => by obtain ⟨_, _, e, _, _, h, _⟩ := hsy.int_at i hi; cases e; exact h)
      have kc2 : ∀ dst, Try.prog.underlying dst = some .string → (convert 29 dst (.slice (some ⟨bs1, os1, none⟩) ns cs)).run Try.prog v8 = .ok (.string (strOfNums sl)) v8 := run_convert_bytes_arg v8 29 5 Try.underlying29 Try.underlying5 bs1 os1 ns cs sl SS.out.n_eq (fun i hi => by obtain ⟨_, _, e, _, _, h, _⟩ := SS.out.int_at i hi; cases e; exact h)
      have kd1 := kc1 9 Try.underlying9
      have kd2 := kc2 9 Try.underlying9
      obtain ⟨str, hstr⟩ : ∃ x, strOfNums sl = x := ⟨_, rfl⟩
      rw [hstr] at kd1 kd2
      clear kc1 kc2 hsy ly hstr SQ
      go_wp2_with fail
      refine (known37_any _).mono ?_
      rintro e va ⟨rfl, hb⟩
      replace FR := Lib.hid (FR.out.fut hb)
      clear hb
      go_wp2_with fail
      go_ret
      exact ⟨rfl, FR.out.out⟩

  · subst hx
    have hg := GP.out rfl
    have GX1 := Lib.hid (saveGet_any Ax nx cx xl w2 SX.out (by rw [← SX.out.n_eq]; have := XL.out; omega))
    rw [hg] at GX1
    clear hg GP
    go_wp2_with fail
    refine GX1.out.mono ?_
    rintro e w3 ⟨⟨A9, n9, c9, B9, m9, d9, rfl, hq1, hq2⟩, hb⟩
    have Q1 := Lib.hid hq1.old
    have Q2 := Lib.hid hq2.old
    replace BB := Lib.hid (BB.out.fut hb)
    replace FR := Lib.hid (FR.out.fut hb)
    clear hb
    clear hq1 hq2 GX1 SX
    unfold ptCells
    go_wp2_with (first | (refine wpList_store_all rfl 28 (.tmp 7) (.tmp 42) rfl w3.heap.size #[.int .i64 p.model, .int .i64 p.block, .int .i64 p.spent, .int .i64 p.input.h, .int .i64 p.input.v, .int .i64 p.input.c, .slice A9 n9 c9, .int .i64 p.value.h, .int .i64 p.value.v, .int .i64 p.value.c, .slice B9 m9 d9] rfl rfl _ _ (Blk.now _ _ _ _ rfl) rfl (by kernel_rfl) (by simp [Value.oneCell']) ?_; intro w4 B5 g5; have B79 := Lib.hid B5; have GX := Lib.hid (show Below w3.heap.size w3 w4 from ((Below.refl _ _).alloc (Nat.le_refl _) _).grown g5 (by simp) (fun k h => by have := Option.some.inj h; omega)); clear B5 g5; replace BB := Lib.hid (BB.out.fut GX.out)) | (refine wpList_load_midw (by kernel_rfl) 28 (.tmp 2) rfl w.heap.size 0 rfl [.int .i64 p.model, .int .i64 p.block, .int .i64 p.spent, .int .i64 p.input.h, .int .i64 p.input.v, .int .i64 p.input.c, .slice A n c, .int .i64 p.value.h, .int .i64 p.value.v, .int .i64 p.value.c, .slice B m d] _ (range_blk (off := 0) (vs := [.int .i64 p.model, .int .i64 p.block, .int .i64 p.spent, .int .i64 p.input.h, .int .i64 p.input.v, .int .i64 p.input.c, .slice A n c, .int .i64 p.value.h, .int .i64 p.value.v, .int .i64 p.value.c, .slice B m d]) BB.out rfl) Try.underlying28 rfl (by kernel_rfl) ?_; simp only [Act.put, List.getElem_toArray, List.getElem_cons_succ, List.getElem_cons_zero, List.setIfInBounds_toArray, List.set_cons_zero, List.set_cons_succ]) | (refine wpList_load_midw (by kernel_rfl) 28 (.tmp 7) rfl w3.heap.size 0 rfl [.int .i64 p.model, .int .i64 p.block, .int .i64 p.spent, .int .i64 p.input.h, .int .i64 p.input.v, .int .i64 p.input.c, .slice A9 n9 c9, .int .i64 p.value.h, .int .i64 p.value.v, .int .i64 p.value.c, .slice B9 m9 d9] _ (range_blk (off := 0) (vs := [.int .i64 p.model, .int .i64 p.block, .int .i64 p.spent, .int .i64 p.input.h, .int .i64 p.input.v, .int .i64 p.input.c, .slice A9 n9 c9, .int .i64 p.value.h, .int .i64 p.value.v, .int .i64 p.value.c, .slice B9 m9 d9]) B79.out rfl) Try.underlying28 rfl (by kernel_rfl) ?_; simp only [Act.put, List.getElem_toArray, List.getElem_cons_succ, List.getElem_cons_zero, List.setIfInBounds_toArray, List.set_cons_zero, List.set_cons_succ]))
    have gx := GX.out
    clear GX
    replace FR := Lib.hid (FR.out.fut gx)
    replace Q1 := Lib.hid (Q1.out.fut gx)
    replace Q2 := Lib.hid (Q2.out.fut gx)
    clear gx
    have SW := Lib.hid (fun (W : World) (h1 : Sl (tInt .i8) W (blo W.heap.size) A n c p.input.data) (h2 : Sl (tInt .i8) W (blo W.heap.size) B m d p.value.data) (h3 : Sl (tInt .i8) W (blo W.heap.size) A9 n9 c9 p.input.data) (h4 : Sl (tInt .i8) W (blo W.heap.size) B9 m9 d9 p.value.data) => sameWalk_eq p A B A9 B9 n c m d n9 c9 m9 d9 W h1 h2 h3 h4)
    simp only [ptCells] at SW
    refine (SW.out _ (H1.out.later FR.out.out (Nat.le_refl _)) (H2.out.later FR.out.out (Nat.le_refl _)) Q1.out Q2.out).mono ?_
    rintro e w5 ⟨rfl, hb⟩
    replace FR := Lib.hid (FR.out.fut hb)
    clear hb
    clear SW Q1 Q2 BB B79
    go_wp2_with fail
    refine (SL.out w5 FR.out.out).mono ?_
    rintro e v5 ⟨As, ns, cs, rfl, hss, hb⟩
    have ns1 : ns ≤ 100000 := by rw [← hss.n_eq, LS.out]; omega
    have ns0 : 0 < ns := by rw [← hss.n_eq, LS.out]; omega
    have SS := Lib.hid hss.old
    replace FR := Lib.hid (FR.out.fut hb)
    clear hb
    clear hss
    go_wp2_with fail
    refine (GS.out As ns cs v5 SS.out ns1).mono ?_
    rintro e v6 ⟨⟨A1, n1, c1, B1, m1, d1, rfl, hq1, hq2⟩, hb⟩
    have Q1 := Lib.hid hq1.old
    have Q2 := Lib.hid hq2.old
    replace FR := Lib.hid (FR.out.fut hb)
    replace SS := Lib.hid (SS.out.fut hb)
    clear hb
    clear hq1 hq2 GS ns1
    by_cases hf : f = 0
    rotate_left
    · have u1 : (f != 0) = true := by simpa using hf
      have hq := GN.out hf
      subst hq
      clear hf
      unfold ptCells noPoint noTensor
      go_wp2_with (first | (refine wpList_store_all rfl 28 (.tmp 10) (.tmp 57) rfl v6.heap.size #[.int .i64 0, .int .i64 0, .int .i64 0, .int .i64 0, .int .i64 0, .int .i64 0, .slice A1 n1 c1, .int .i64 0, .int .i64 0, .int .i64 0, .slice B1 m1 d1] rfl rfl _ _ (Blk.now _ _ _ _ rfl) rfl (by kernel_rfl) (by simp [Value.oneCell']) ?_; intro v7 B5 g5; have BQ := Lib.hid B5; have GX := Lib.hid (show Below v6.heap.size v6 v7 from ((Below.refl _ _).alloc (Nat.le_refl _) _).grown g5 (by simp) (fun k h => by have := Option.some.inj h; omega)); clear B5 g5) | (refine wpList_load_row rfl 28 (.tmp 10) rfl v6.heap.size rfl _ _ (0, 0) _ BQ.out.heap Try.underlying28 rfl (by kernel_rfl) ?_))
      have gx := GX.out
      clear GX
      replace FR := Lib.hid (FR.out.fut gx)
      replace Q1 := Lib.hid (Q1.out.fut gx)
      replace Q2 := Lib.hid (Q2.out.fut gx)
      clear gx
      have OZ := Lib.hid (fun w => of37_any noPoint A1 B1 n1 c1 m1 d1 w)
      have SZ := Lib.hid (fun (w : World) (h1 : Sl (tInt .i8) w (blo w.heap.size) A1 n1 c1 noPoint.input.data) (h2 : Sl (tInt .i8) w (blo w.heap.size) B1 m1 d1 noPoint.value.data) => same36_eq noPoint A1 B1 none none n1 c1 m1 d1 0 0 0 0 w h1 h2 (Sl.nil _ _ _) (Sl.nil _ _ _))
      simp only [ptCells, noPoint, noTensor] at OZ SZ
      refine (OZ.out _).mono ?_
      rintro e v8 ⟨rfl, hb⟩
      replace FR := Lib.hid (FR.out.fut hb)
      replace Q1 := Lib.hid (Q1.out.fut hb)
      replace Q2 := Lib.hid (Q2.out.fut hb)
      clear hb
      go_wp2_with fail
      refine (SZ.out _ Q1.out Q2.out).mono ?_
      rintro e v9 ⟨rfl, hb⟩
      replace FR := Lib.hid (FR.out.fut hb)
      clear hb
      go_wp2_with fail
      refine (known37_any _).mono ?_
      rintro e va ⟨rfl, hb⟩
      replace FR := Lib.hid (FR.out.fut hb)
      clear hb
      go_wp2_with fail
      go_ret
      exact ⟨rfl, FR.out.out⟩
    · subst hf
      obtain ⟨pq, hpq⟩ := PG.out rfl
      have SQ := Lib.hid (fun (W : World) (h1 : Sl (tInt .i8) W (blo W.heap.size) A1 n1 c1 q.input.data) (h2 : Sl (tInt .i8) W (blo W.heap.size) B1 m1 d1 q.value.data) => savePut_any q A1 B1 n1 c1 m1 d1 W h1 h2 hpq)
      rw [pq] at SQ
      simp only [ptCells] at SQ
      clear pq hpq
      unfold ptCells
      go_wp2_with (first | (refine wpList_store_all rfl 28 (.tmp 10) (.tmp 57) rfl v6.heap.size #[.int .i64 q.model, .int .i64 q.block, .int .i64 q.spent, .int .i64 q.input.h, .int .i64 q.input.v, .int .i64 q.input.c, .slice A1 n1 c1, .int .i64 q.value.h, .int .i64 q.value.v, .int .i64 q.value.c, .slice B1 m1 d1] rfl rfl _ _ (Blk.now _ _ _ _ rfl) rfl (by kernel_rfl) (by simp [Value.oneCell']) ?_; intro v7 B5 g5; have BQ := Lib.hid B5; have GX := Lib.hid (show Below v6.heap.size v6 v7 from ((Below.refl _ _).alloc (Nat.le_refl _) _).grown g5 (by simp) (fun k h => by have := Option.some.inj h; omega)); clear B5 g5) | (refine wpList_load_row rfl 28 (.tmp 10) rfl v6.heap.size rfl _ _ (0, 0) _ BQ.out.heap Try.underlying28 rfl (by kernel_rfl) ?_))
      have gx := GX.out
      clear GX
      replace FR := Lib.hid (FR.out.fut gx)
      replace SS := Lib.hid (SS.out.fut gx)
      replace Q1 := Lib.hid (Q1.out.fut gx)
      replace Q2 := Lib.hid (Q2.out.fut gx)
      clear gx
      refine (SQ.out _ Q1.out Q2.out).mono ?_
      rintro e v8 ⟨⟨Ay, ny, cy, rfl, hsy⟩, hb⟩
      replace FR := Lib.hid (FR.out.fut hb)
      replace SS := Lib.hid (SS.out.fut hb)
      clear hb
      have ly := hsy.n_eq
      obtain ⟨by1, oy1, rfl, _⟩ := hsy.int_at 0 (by rw [← ly]; show 0 < sl.length; rw [LS.out]; omega)
      obtain ⟨bs1, os1, rfl, _⟩ := SS.out.int_at 0 ns0
      have kc1 : ∀ dst, Try.prog.underlying dst = some .string → (convert 29 dst (.slice (some ⟨by1, oy1, none⟩) ny cy)).run Try.prog v8 = .ok (.string (strOfNums sl)) v8 := run_convert_bytes_arg v8 29 5 Try.underlying29 Try.underlying5 by1 oy1 ny cy sl ly (fun i hi => by obtain ⟨_, _, e, _, _, h, _⟩ := hsy.int_at i hi; cases e; exact h)
      have kc2 : ∀ dst, Try.prog.underlying dst = some .string → (convert 29 dst (.slice (some ⟨bs1, os1, none⟩) ns cs)).run Try.prog v8 = .ok (.string (strOfNums sl)) v8 := run_convert_bytes_arg v8 29 5 Try.underlying29 Try.underlying5 bs1 os1 ns cs sl SS.out.n_eq (fun i hi => by obtain ⟨_, _, e, _, _, h, _⟩ := SS.out.int_at i hi; cases e; exact h)
      have kd1 := kc1 9 Try.underlying9
      have kd2 := kc2 9 Try.underlying9
      obtain ⟨str, hstr⟩ : ∃ x, strOfNums sl = x := ⟨_, rfl⟩
      rw [hstr] at kd1 kd2
      clear kc1 kc2 hsy ly hstr SQ
      go_wp2_with fail
      refine (known37_any _).mono ?_
      rintro e va ⟨rfl, hb⟩
      replace FR := Lib.hid (FR.out.fut hb)
      clear hb
      go_wp2_with fail
      go_ret
      exact ⟨rfl, FR.out.out⟩


theorem saveback_walk {W : World} (cs : Array Value) (y : Pt) (hy : tPoint.rep W (blo W.heap.size) cs.toList y) (A : Option Addr) (n cap : Nat) (l : List Int) (hs : Sl (tInt .u8) W (blo W.heap.size) A n cap l) (w : World) (e : W = w) :
    Calls Try.prog 4 #[.agg cs, .slice A n cap] w fun e w' => e = .returned (.bool true) ∧ Below w.heap.size w w' := by
  subst e
  obtain ⟨A1, n1, c1, B1, m1, d1, hc, hp, h1, h2⟩ := point_open hy
  obtain rfl : cs = ptCells y A1 n1 c1 B1 m1 d1 := by rw [← Array.toArray_toList (xs := cs), hc]; rfl
  exact saveback_any y A1 B1 n1 c1 m1 d1 A n cap l W h1 h2 hp hs
end Go.Proofs.Ytanglfmolnfjeaa
