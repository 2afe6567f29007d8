/-
  The fixed calls of layer 37, and the walk of the law SavePuts.
  Conditions: none.
-/
import Derived.Test.YtanglfmolnfjeaaChecked
import Derived.Test.YtanglfmolnfjeaaJ42
import Derived.Test.YtanglfmolnfjeaaJ43
import Derived.Test.YtanglfmolnfjeaaJ44
import Derived.Test.YtanglfmolnfjeaaJ18
namespace Go.Proofs.Ytanglfmolnfjeaa
set_option linter.unusedVariables false
set_option linter.unusedSimpArgs false
open Go.RowKit Go.ChangeShapes Go.WideShapes
set_option maxRecDepth 100000
set_option maxHeartbeats 8000000

theorem of37_any (p : Pt) (A B : Option Addr) (n c m d : Nat) (w : World) :
    Calls Try.prog 8 #[.agg (ptCells p A n c B m d)] w fun e w' => e = .returned (.agg (ptCells p A n c B m d)) ∧ Below w.heap.size w w' := by
  unfold ptCells
  go_enter Try.func8, Try.ntmps8
  go_wp2_with (refine wpList_store_all rfl 36 (.tmp 2) (.tmp 13) rfl (w.heap.size + 1) (ptCells p A n c B m d) rfl rfl _ _ (Blk.now _ _ _ _ (by simp)) rfl (by kernel_rfl) (by simp [Value.oneCell', ptCells]) ?_; intro w3 B3 g3)
  refine ret_cell rfl B3 rfl Try.underlying36 (by kernel_rfl) rfl ?_
  exact ⟨rfl, (((Below.refl _ _).alloc (Nat.le_refl _) _).alloc (by simp) _).grown g3 (by simp; omega) (fun k h => by have := Option.some.inj h; omega)⟩

def p37 : Pt := ⟨1, 0, 0, ⟨1, 1, 1, [5]⟩, ⟨1, 1, 1, [5]⟩⟩
theorem put_p37 : (putV p37).2 = 0 ∧ (putV p37).1.length = 12 ∧ (putV p37).1.getD 0 0 = 1 ∧ (putV p37).1.getD 6 0 = 5 := by
  refine ⟨by kernel_rfl, by kernel_rfl, by kernel_rfl, by kernel_rfl⟩
theorem get_nil : getV [] = (noPoint, 20) := rfl

theorem known37_any (w : World) : Calls Try.prog 5 #[] w fun e w' => e = .returned (.bool true) ∧ Below w.heap.size w w' := by
  obtain ⟨k1, k2, k3, k4⟩ := put_p37
  have SG := Lib.hid (saveGet_any none 0 0 [] w (Sl.nil _ _ _) (by omega))
  rw [get_nil] at SG
  go_enter Try.func5, Try.ntmps5
  go_wp2_with fail
  refine SG.out.mono ?_
  rintro e w1 ⟨⟨A, n, c, B, m, d, rfl, _, _⟩, hb⟩
  have FR := Lib.hid (show Far w w1 from ⟨hb⟩)
  unfold ptCells noPoint noTensor
  clear hb SG
  go_wp2_with (refine wpList_store_all rfl 28 (.tmp 1) (.tmp 7) rfl w1.heap.size #[.int .i64 0, .int .i64 0, .int .i64 0, .int .i64 0, .int .i64 0, .int .i64 0, .slice A n c, .int .i64 0, .int .i64 0, .int .i64 0, .slice B m d] rfl rfl _ _ (Blk.now _ _ _ _ rfl) rfl (by kernel_rfl) (by simp [Value.oneCell']) ?_; intro w2 B5 g5; have BG := Lib.hid B5; have GX := Lib.hid (show Below w1.heap.size w1 w2 from ((Below.refl _ _).alloc (Nat.le_refl _) _).grown g5 (by simp) (fun k h => by have := Option.some.inj h; omega)); clear B5 g5)
  have FR2 := Lib.hid (FR.out.fut GX.out)
  clear FR GX BG
  obtain ⟨w4, hw4⟩ : ∃ x, (w2.alloc (.cells #[.int .i8 5] 47)).alloc (.cells #[.int .i8 5] 47) = x := ⟨_, rfl⟩
  have k4' : Below w2.heap.size w2 w4 := by rw [← hw4]; exact ((Below.refl _ _).alloc (Nat.le_refl _) _).alloc (by simp) _
  have b1 : w4.heap[w2.heap.size]? = some (.cells #[.int .i8 5] 47) := by rw [← hw4]; exact heap_past (heap_now _ _ _ rfl) _
  have b2 : w4.heap[w2.heap.size + 1]? = some (.cells #[.int .i8 5] 47) := by rw [← hw4]; exact heap_now _ _ _ (by simp)
  rw [hw4]
  have SP := Lib.hid (savePut_any p37 (some ⟨w2.heap.size, 0, none⟩) (some ⟨w2.heap.size + 1, 0, none⟩) 1 1 1 1 w4 (Sl.lit [5] b1 rfl (by simp; decide) (Array.getElem?_eq_some_iff.1 b1).1 rfl rfl (by simp [maxLen])) (Sl.lit [5] b2 rfl (by simp; decide) (Array.getElem?_eq_some_iff.1 b2).1 rfl rfl (by simp [maxLen])) ⟨by decide, by decide, by decide, ⟨by decide, by decide, by decide⟩, ⟨by decide, by decide, by decide⟩⟩)
  have F4 := Lib.hid (FR2.out.fut k4')
  clear hw4 k4' b1 b2 FR2
  obtain ⟨⟨l, ec⟩, hput⟩ : ∃ x, putV p37 = x := ⟨_, rfl⟩
  rw [hput] at SP k1 k2 k3 k4
  simp only at k1 k2 k3 k4
  subst k1
  clear hput
  refine SP.out.mono ?_
  rintro e w5 ⟨⟨A5, n5, c5, rfl, hs⟩, hb⟩
  have hn := hs.n_eq
  rw [show ((l, (0 : Int)) : List Int × Int).1 = l from rfl, k2] at hn
  subst hn
  obtain ⟨b0, o0, rfl, _, _, e0, _⟩ := hs.int_at 0 (by omega)
  obtain ⟨b6, o6, hA, _, _, e6, _⟩ := hs.int_at 6 (by omega)
  simp only [Option.some.injEq, Addr.mk.injEq] at hA
  obtain ⟨rfl, rfl, _⟩ := hA
  rw [show ((l, (0 : Int)) : List Int × Int).1 = l from rfl] at e0 e6
  rw [k3, Nat.add_zero] at e0
  rw [k4] at e6
  have F5 := Lib.hid (F4.out.fut hb)
  clear hs hb F4 SP k2 k3 k4
  go_wp2_with fail
  go_ret
  exact ⟨rfl, F5.out.out⟩

theorem saveputs_any (p : Pt) (A B : Option Addr) (n c m d : Nat) (D : Option Addr) (k e : Nat) (l : List Int) (w : World) (hs : Sl (tInt .i8) w (blo w.heap.size) A n c p.input.data) (hs' : Sl (tInt .i8) w (blo w.heap.size) B m d p.value.data) (hp : PtIn p) (hl : Sl (tInt .u8) w (blo w.heap.size) D k e l) :
    Calls Try.prog 3 #[.agg (ptCells p A n c B m d), .slice D k e] w fun e w' => e = .returned (.bool true) ∧ Below w.heap.size w w' := by
  have H1 := Lib.hid hs
  have H2 := Lib.hid hs'
  have H3 := Lib.hid hl
  have IP := Lib.hid hp
  have x1 : n ≤ 9223372036854775807 := Nat.le_trans hs.cap_le hs.max_le
  have x2 : m ≤ 9223372036854775807 := Nat.le_trans hs'.cap_le hs'.max_le
  have x3 : k ≤ 9223372036854775807 := Nat.le_trans hl.cap_le hl.max_le
  clear hs hs' hl hp
  by_cases big : 1024 < n ∨ 1024 < m ∨ 3000 < k
  · unfold ptCells
    have TT := Lib.hid (show (decide (1024 < (n : Int)) = true) ∨ (decide (1024 < (n : Int)) = false ∧ decide (1024 < (m : Int)) = true) ∨ (decide (1024 < (n : Int)) = false ∧ decide (1024 < (m : Int)) = false ∧ decide (3000 < (k : Int)) = true) by
      by_cases y1 : 1024 < n
      · left; simp; omega
      · right
        by_cases y2 : 1024 < m
        · left; exact ⟨by simp; omega, by simp; omega⟩
        · right; exact ⟨by simp; omega, by simp; omega, by simp; omega⟩)
    rcases TT.out with t1 | ⟨t1, t2⟩ | ⟨t1, t2, t3⟩
    all_goals (
      clear TT big
      go_enter Try.func3, Try.ntmps3
      go_wp2_with fail
      refine (known37_any _).mono ?_
      rintro e w2 ⟨rfl, hb⟩
      have FZ := Lib.hid (show Below w.heap.size w w2 from below_later hb ((Below.refl _ _).alloc (Nat.le_refl _) _))
      clear hb
      go_wp2_with fail
      go_ret
      exact ⟨rfl, FZ.out⟩)
  have t1 : decide (1024 < (n : Int)) = false := by simp; omega
  have t2 : decide (1024 < (m : Int)) = false := by simp; omega
  have t3 : decide (3000 < (k : Int)) = false := by simp; omega
  have l3 : k ≤ 3000 := by omega
  clear big
  have SP := Lib.hid (fun (W : World) (hb : Below w.heap.size w W) => savePut_any p A B n c m d W (H1.out.later hb (Nat.le_refl _)) (H2.out.later hb (Nat.le_refl _)) IP.out)
  have RP := Lib.hid (fun (W : World) (hb : Below w.heap.size w W) => rPut37_any p A B n c m d W (H1.out.later hb (Nat.le_refl _)) (H2.out.later hb (Nat.le_refl _)) IP.out)
  have SL := Lib.hid (fun (W : World) (hb : Below w.heap.size w W) => seal_any D k e l W (H3.out.later hb (Nat.le_refl _)) (by omega))
  have GB := Lib.hid (fun (W : World) (hb : Below w.heap.size w W) => saveGet_any D k e l W (H3.out.later hb (Nat.le_refl _)) (by omega))
  have RB := Lib.hid (fun (W : World) (hb : Below w.heap.size w W) => rGet37_any D k e l W (H3.out.later hb (Nat.le_refl _)) (by omega))
  have GS := Lib.hid (fun (A' : Option Addr) (n' c' : Nat) (W : World) (h : Sl (tInt .u8) W (blo W.heap.size) A' n' c' (sealV l)) (hn : n' ≤ 100000) => saveGet_any A' n' c' (sealV l) W h hn)
  have RS := Lib.hid (fun (A' : Option Addr) (n' c' : Nat) (W : World) (h : Sl (tInt .u8) W (blo W.heap.size) A' n' c' (sealV l)) (hn : n' ≤ 100000) => rGet37_any A' n' c' (sealV l) W h hn)
  rw [← getV_eq] at RB
  simp only [← getV_eq] at RS
  have ls : (sealV l).length = k + 4 := by unfold sealV; rw [List.length_append, H3.out.n_eq]; simp [put32V]
  obtain ⟨⟨xl, xe⟩, h1⟩ : ∃ x, putV p = x := ⟨_, rfl⟩
  obtain ⟨⟨q, f⟩, h2⟩ : ∃ x, getV (sealV l) = x := ⟨_, rfl⟩
  obtain ⟨⟨r, g⟩, h3⟩ : ∃ x, getV l = x := ⟨_, rfl⟩
  rw [h1] at SP RP
  rw [h2] at GS RS
  rw [h3] at GB RB
  obtain ⟨sl, h4⟩ : ∃ x, sealV l = x := ⟨_, rfl⟩
  rw [h4] at SL GS RS ls
  have LS := Lib.hid ls
  clear h1 h2 h3 h4 ls
  unfold ptCells
  go_enter Try.func3, Try.ntmps3
  go_wp2_with fail
  obtain ⟨w1, hw1⟩ : ∃ x, w.alloc (.cells #[.int .i64 p.model, .int .i64 p.block, .int .i64 p.spent, .int .i64 p.input.h, .int .i64 p.input.v, .int .i64 p.input.c, .slice A n c, .int .i64 p.value.h, .int .i64 p.value.v, .int .i64 p.value.c, .slice B m d] 28) = x := ⟨_, rfl⟩
  have BB := Lib.hid (show Blk w1 w.heap.size 28 #[.int .i64 p.model, .int .i64 p.block, .int .i64 p.spent, .int .i64 p.input.h, .int .i64 p.input.v, .int .i64 p.input.c, .slice A n c, .int .i64 p.value.h, .int .i64 p.value.v, .int .i64 p.value.c, .slice B m d] by rw [← hw1]; exact Blk.now _ _ _ _ rfl)
  have FR := Lib.hid (show Far w w1 by rw [← hw1]; exact ⟨(Below.refl _ _).alloc (Nat.le_refl _) _⟩)
  rw [hw1]
  clear hw1 t1 t2 t3
  have OP := Lib.hid (fun w => of37_any p A B n c m d w)
  simp only [ptCells] at SP RP OP
  refine (SP.out w1 FR.out.out).mono ?_
  rintro e w2 ⟨⟨Ax, nx, cx, rfl, hsx⟩, hb⟩
  have SX := Lib.hid (show Sl (tInt .u8) w2 (blo w2.heap.size) Ax nx cx xl from hsx.old)
  replace BB := Lib.hid (BB.out.fut hb)
  replace FR := Lib.hid (FR.out.fut hb)
  clear hb
  clear hsx SP
  have LDP := Lib.hid (fun (ww : World) (h : Blk ww w.heap.size 28 #[.int .i64 p.model, .int .i64 p.block, .int .i64 p.spent, .int .i64 p.input.h, .int .i64 p.input.v, .int .i64 p.input.c, .slice A n c, .int .i64 p.value.h, .int .i64 p.value.v, .int .i64 p.value.c, .slice B m d]) => h)
  go_wp2_with (refine wpList_load_row rfl 28 (.tmp 2) rfl w.heap.size rfl _ _ (0, 0) _ BB.out.heap Try.underlying28 rfl (by kernel_rfl) ?_)
  refine (OP.out _).mono ?_
  rintro e w3 ⟨rfl, hb⟩
  replace FR := Lib.hid (FR.out.fut hb)
  replace SX := Lib.hid (SX.out.fut hb)
  clear hb
  go_wp2_with fail
  refine (RP.out w3 FR.out.out).mono ?_
  rintro e w4 ⟨⟨Aw, nw, cw, rfl, hsw⟩, hb⟩
  have SW := Lib.hid (show Sl (tInt .u8) w4 (blo w4.heap.size) Aw nw cw xl from hsw.old)
  replace FR := Lib.hid (FR.out.fut hb)
  replace SX := Lib.hid (SX.out.fut hb)
  clear hb
  clear hsw RP OP
  go_wp2_with fail
  refine (SL.out w4 FR.out.out).mono ?_
  rintro e w5 ⟨As, ns, cs, rfl, hss, hb⟩
  have ns1 : ns ≤ 100000 := by rw [← hss.n_eq, LS.out]; omega
  have SS := Lib.hid hss.old
  replace FR := Lib.hid (FR.out.fut hb)
  replace SX := Lib.hid (SX.out.fut hb)
  replace SW := Lib.hid (SW.out.fut hb)
  clear hb
  clear hss
  go_wp2_with fail
  refine (GS.out As ns cs w5 SS.out ns1).mono ?_
  rintro e w6 ⟨⟨A1, n1, c1, B1, m1, d1, rfl, hq1, hq2⟩, hb⟩
  have Q1 := Lib.hid hq1.old
  have Q2 := Lib.hid hq2.old
  replace FR := Lib.hid (FR.out.fut hb)
  replace SX := Lib.hid (SX.out.fut hb)
  replace SW := Lib.hid (SW.out.fut hb)
  clear hb
  clear hq1 hq2 SS GS ns1
  unfold ptCells
  go_wp2_with (refine wpList_store_all rfl 28 (.tmp 9) (.tmp 50) rfl w6.heap.size #[.int .i64 q.model, .int .i64 q.block, .int .i64 q.spent, .int .i64 q.input.h, .int .i64 q.input.v, .int .i64 q.input.c, .slice A1 n1 c1, .int .i64 q.value.h, .int .i64 q.value.v, .int .i64 q.value.c, .slice B1 m1 d1] rfl rfl _ _ (Blk.now _ _ _ _ rfl) rfl (by kernel_rfl) (by simp [Value.oneCell']) ?_; intro w7 B5 g5; have BQ := Lib.hid B5; have GX := Lib.hid (show Below w6.heap.size w6 w7 from ((Below.refl _ _).alloc (Nat.le_refl _) _).grown g5 (by simp) (fun k h => by have := Option.some.inj h; omega)); clear B5 g5)
  have gx := GX.out
  clear GX
  replace FR := Lib.hid (FR.out.fut gx)
  replace SX := Lib.hid (SX.out.fut gx)
  replace SW := Lib.hid (SW.out.fut gx)
  replace Q1 := Lib.hid (Q1.out.fut gx)
  replace Q2 := Lib.hid (Q2.out.fut gx)
  clear gx
  refine (SL.out w7 FR.out.out).mono ?_
  rintro e w8 ⟨At, nt, ct, rfl, hst, hb⟩
  have nt1 : nt ≤ 100000 := by rw [← hst.n_eq, LS.out]; omega
  have ST := Lib.hid hst.old
  replace FR := Lib.hid (FR.out.fut hb)
  replace SX := Lib.hid (SX.out.fut hb)
  replace SW := Lib.hid (SW.out.fut hb)
  replace Q1 := Lib.hid (Q1.out.fut hb)
  replace Q2 := Lib.hid (Q2.out.fut hb)
  replace BQ := Lib.hid (BQ.out.fut hb)
  clear hb
  clear hst SL
  go_wp2_with fail
  refine (RS.out At nt ct w8 ST.out nt1).mono ?_
  rintro e w9 ⟨⟨A2, n2, c2, B2, m2, d2, rfl, hq3, hq4⟩, hb⟩
  have Q3 := Lib.hid hq3.old
  have Q4 := Lib.hid hq4.old
  replace FR := Lib.hid (FR.out.fut hb)
  replace SX := Lib.hid (SX.out.fut hb)
  replace SW := Lib.hid (SW.out.fut hb)
  replace Q1 := Lib.hid (Q1.out.fut hb)
  replace Q2 := Lib.hid (Q2.out.fut hb)
  replace BQ := Lib.hid (BQ.out.fut hb)
  clear hb
  clear hq3 hq4 ST RS nt1
  unfold ptCells
  go_wp2_with (refine wpList_store_all rfl 36 (.tmp 11) (.tmp 56) rfl w9.heap.size #[.int .i64 q.model, .int .i64 q.block, .int .i64 q.spent, .int .i64 q.input.h, .int .i64 q.input.v, .int .i64 q.input.c, .slice A2 n2 c2, .int .i64 q.value.h, .int .i64 q.value.v, .int .i64 q.value.c, .slice B2 m2 d2] rfl rfl _ _ (Blk.now _ _ _ _ rfl) rfl (by kernel_rfl) (by simp [Value.oneCell']) ?_; intro w10 B5 g5; have BV := Lib.hid B5; have GX := Lib.hid (show Below w9.heap.size w9 w10 from ((Below.refl _ _).alloc (Nat.le_refl _) _).grown g5 (by simp) (fun k h => by have := Option.some.inj h; omega)); clear B5 g5)
  have gx := GX.out
  clear GX
  replace FR := Lib.hid (FR.out.fut gx)
  replace SX := Lib.hid (SX.out.fut gx)
  replace SW := Lib.hid (SW.out.fut gx)
  replace Q1 := Lib.hid (Q1.out.fut gx)
  replace Q2 := Lib.hid (Q2.out.fut gx)
  replace BQ := Lib.hid (BQ.out.fut gx)
  replace Q3 := Lib.hid (Q3.out.fut gx)
  replace Q4 := Lib.hid (Q4.out.fut gx)
  clear gx
  refine (GB.out w10 FR.out.out).mono ?_
  rintro e w11 ⟨⟨A3, n3, c3, B3, m3, d3, rfl, hq1, hq2⟩, hb⟩
  have R1 := Lib.hid hq1.old
  have R2 := Lib.hid hq2.old
  replace FR := Lib.hid (FR.out.fut hb)
  replace SX := Lib.hid (SX.out.fut hb)
  replace SW := Lib.hid (SW.out.fut hb)
  replace Q1 := Lib.hid (Q1.out.fut hb)
  replace Q2 := Lib.hid (Q2.out.fut hb)
  replace BQ := Lib.hid (BQ.out.fut hb)
  replace Q3 := Lib.hid (Q3.out.fut hb)
  replace Q4 := Lib.hid (Q4.out.fut hb)
  replace BV := Lib.hid (BV.out.fut hb)
  clear hb
  clear hq1 hq2 GB
  unfold ptCells
  go_wp2_with (refine wpList_store_all rfl 28 (.tmp 13) (.tmp 61) rfl w11.heap.size #[.int .i64 r.model, .int .i64 r.block, .int .i64 r.spent, .int .i64 r.input.h, .int .i64 r.input.v, .int .i64 r.input.c, .slice A3 n3 c3, .int .i64 r.value.h, .int .i64 r.value.v, .int .i64 r.value.c, .slice B3 m3 d3] rfl rfl _ _ (Blk.now _ _ _ _ rfl) rfl (by kernel_rfl) (by simp [Value.oneCell']) ?_; intro w12 B5 g5; have BRR := Lib.hid B5; have GX := Lib.hid (show Below w11.heap.size w11 w12 from ((Below.refl _ _).alloc (Nat.le_refl _) _).grown g5 (by simp) (fun k h => by have := Option.some.inj h; omega)); clear B5 g5)
  have gx := GX.out
  clear GX
  replace FR := Lib.hid (FR.out.fut gx)
  replace SX := Lib.hid (SX.out.fut gx)
  replace SW := Lib.hid (SW.out.fut gx)
  replace Q1 := Lib.hid (Q1.out.fut gx)
  replace Q2 := Lib.hid (Q2.out.fut gx)
  replace BQ := Lib.hid (BQ.out.fut gx)
  replace Q3 := Lib.hid (Q3.out.fut gx)
  replace Q4 := Lib.hid (Q4.out.fut gx)
  replace BV := Lib.hid (BV.out.fut gx)
  replace R1 := Lib.hid (R1.out.fut gx)
  replace R2 := Lib.hid (R2.out.fut gx)
  clear gx
  refine (RB.out w12 FR.out.out).mono ?_
  rintro e w13 ⟨⟨A4, n4, c4, B4, m4, d4, rfl, hq3, hq4⟩, hb⟩
  have R3 := Lib.hid hq3.old
  have R4 := Lib.hid hq4.old
  replace FR := Lib.hid (FR.out.fut hb)
  replace SX := Lib.hid (SX.out.fut hb)
  replace SW := Lib.hid (SW.out.fut hb)
  replace Q1 := Lib.hid (Q1.out.fut hb)
  replace Q2 := Lib.hid (Q2.out.fut hb)
  replace BQ := Lib.hid (BQ.out.fut hb)
  replace Q3 := Lib.hid (Q3.out.fut hb)
  replace Q4 := Lib.hid (Q4.out.fut hb)
  replace BV := Lib.hid (BV.out.fut hb)
  replace R1 := Lib.hid (R1.out.fut hb)
  replace R2 := Lib.hid (R2.out.fut hb)
  replace BRR := Lib.hid (BRR.out.fut hb)
  clear hb
  clear hq3 hq4 RB
  unfold ptCells
  go_wp2_with (refine wpList_store_all rfl 36 (.tmp 15) (.tmp 66) rfl w13.heap.size #[.int .i64 r.model, .int .i64 r.block, .int .i64 r.spent, .int .i64 r.input.h, .int .i64 r.input.v, .int .i64 r.input.c, .slice A4 n4 c4, .int .i64 r.value.h, .int .i64 r.value.v, .int .i64 r.value.c, .slice B4 m4 d4] rfl rfl _ _ (Blk.now _ _ _ _ rfl) rfl (by kernel_rfl) (by simp [Value.oneCell']) ?_; intro w14 B5 g5; have BU := Lib.hid B5; have GX := Lib.hid (show Below w13.heap.size w13 w14 from ((Below.refl _ _).alloc (Nat.le_refl _) _).grown g5 (by simp) (fun k h => by have := Option.some.inj h; omega)); clear B5 g5)
  have gx := GX.out
  clear GX
  replace FR := Lib.hid (FR.out.fut gx)
  replace SX := Lib.hid (SX.out.fut gx)
  replace SW := Lib.hid (SW.out.fut gx)
  replace Q1 := Lib.hid (Q1.out.fut gx)
  replace Q2 := Lib.hid (Q2.out.fut gx)
  replace BQ := Lib.hid (BQ.out.fut gx)
  replace Q3 := Lib.hid (Q3.out.fut gx)
  replace Q4 := Lib.hid (Q4.out.fut gx)
  replace BV := Lib.hid (BV.out.fut gx)
  replace R1 := Lib.hid (R1.out.fut gx)
  replace R2 := Lib.hid (R2.out.fut gx)
  replace BRR := Lib.hid (BRR.out.fut gx)
  replace R3 := Lib.hid (R3.out.fut gx)
  replace R4 := Lib.hid (R4.out.fut gx)
  clear gx
  have g1 : (xe == xe) = true := by simp
  have g2 : (f == f) = true := by simp
  have g3 : (g == g) = true := by simp
  have E1 := Lib.hid (fun x : Ext w14 => calls_ext x (same06_eq Ax Aw nx cx nw cw xl x.1 (SX.out.later x.2 (Nat.le_refl _)) (SW.out.later x.2 (Nat.le_refl _))))
  have E2 := Lib.hid (fun x : Ext w14 => calls_ext x (of37_any q A1 B1 n1 c1 m1 d1 x.1))
  have E3 := Lib.hid (fun x : Ext w14 => calls_ext x (same36_eq q A1 B1 A2 B2 n1 c1 m1 d1 n2 c2 m2 d2 x.1 (Q1.out.later x.2 (Nat.le_refl _)) (Q2.out.later x.2 (Nat.le_refl _)) (Q3.out.later x.2 (Nat.le_refl _)) (Q4.out.later x.2 (Nat.le_refl _))))
  have E4 := Lib.hid (fun x : Ext w14 => calls_ext x (of37_any r A3 B3 n3 c3 m3 d3 x.1))
  have E5 := Lib.hid (fun x : Ext w14 => calls_ext x (same36_eq r A3 B3 A4 B4 n3 c3 m3 d3 n4 c4 m4 d4 x.1 (R1.out.later x.2 (Nat.le_refl _)) (R2.out.later x.2 (Nat.le_refl _)) (R3.out.later x.2 (Nat.le_refl _)) (R4.out.later x.2 (Nat.le_refl _))))
  have E6 := Lib.hid (fun x : Ext w14 => calls_ext x (known37_any x.1))
  simp only [ptCells] at E2 E3 E4 E5
  have L1 := Lib.hid (fun x : Ext w14 => range_blk (off := 0) (vs := [.int .i64 q.model, .int .i64 q.block, .int .i64 q.spent, .int .i64 q.input.h, .int .i64 q.input.v, .int .i64 q.input.c, .slice A1 n1 c1, .int .i64 q.value.h, .int .i64 q.value.v, .int .i64 q.value.c, .slice B1 m1 d1]) (BQ.out.ext x) rfl)
  have L2 := Lib.hid (fun x : Ext w14 => range_blk (off := 0) (vs := [.int .i64 q.model, .int .i64 q.block, .int .i64 q.spent, .int .i64 q.input.h, .int .i64 q.input.v, .int .i64 q.input.c, .slice A2 n2 c2, .int .i64 q.value.h, .int .i64 q.value.v, .int .i64 q.value.c, .slice B2 m2 d2]) (BV.out.ext x) rfl)
  have L3 := Lib.hid (fun x : Ext w14 => range_blk (off := 0) (vs := [.int .i64 r.model, .int .i64 r.block, .int .i64 r.spent, .int .i64 r.input.h, .int .i64 r.input.v, .int .i64 r.input.c, .slice A3 n3 c3, .int .i64 r.value.h, .int .i64 r.value.v, .int .i64 r.value.c, .slice B3 m3 d3]) (BRR.out.ext x) rfl)
  have L4 := Lib.hid (fun x : Ext w14 => range_blk (off := 0) (vs := [.int .i64 r.model, .int .i64 r.block, .int .i64 r.spent, .int .i64 r.input.h, .int .i64 r.input.v, .int .i64 r.input.c, .slice A4 n4 c4, .int .i64 r.value.h, .int .i64 r.value.v, .int .i64 r.value.c, .slice B4 m4 d4]) (BU.out.ext x) rfl)
  refine wp_region_ext w14 (by kernel_rfl) (by kernel_rfl) (Below.refl _ _) ?_
  go_big_quiet_step (first | exact E1.out _)
  go_big_quiet_step (first | exact E1.out _)
  go_big_quiet_step (first | exact E1.out _)
  go_big_quiet_step (first | exact E1.out _)
  go_big_quiet_step (first | exact E1.out _)
  go_big_quiet_step (first | exact E1.out _)
  go_big_quiet_step (first | exact E1.out _)
  go_big_quiet_step (first | exact E1.out _)
  go_big_quiet_step (first | exact E1.out _)
  go_big_quiet_step (first | exact E1.out _)
  go_big_quiet_step (first | exact E1.out _)
  go_big_quiet_step (first | exact E1.out _)
  go_big_quiet_step (first | exact E1.out _)
  go_big_quiet_step (first | exact E1.out _)
  refine wpQuiet_load_mid (by kernel_rfl) 28 (.tmp 9) rfl w6.heap.size 0 rfl _ _ (by rintro _ ⟨x, rfl⟩; exact L1.out x) Try.underlying28 rfl (by kernel_rfl) ?_
  simp only [Act.put, List.getElem_toArray, List.getElem_cons_succ, List.getElem_cons_zero, List.setIfInBounds_toArray, List.set_cons_zero, List.set_cons_succ]
  go_big_quiet_step (exact E2.out _)
  refine wpQuiet_load_mid (by kernel_rfl) 36 (.tmp 11) rfl w9.heap.size 0 rfl _ _ (by rintro _ ⟨x, rfl⟩; exact L2.out x) Try.underlying36 rfl (by kernel_rfl) ?_
  simp only [Act.put, List.getElem_toArray, List.getElem_cons_succ, List.getElem_cons_zero, List.setIfInBounds_toArray, List.set_cons_zero, List.set_cons_succ]
  go_big_quiet_step (exact E3.out _)
  go_big_quiet_step (exact E3.out _)
  go_big_quiet_step (exact E3.out _)
  go_big_quiet_step (exact E3.out _)
  go_big_quiet_step (exact E3.out _)
  go_big_quiet_step (exact E3.out _)
  go_big_quiet_step (exact E3.out _)
  go_big_quiet_step (exact E3.out _)
  refine wpQuiet_load_mid (by kernel_rfl) 28 (.tmp 13) rfl w11.heap.size 0 rfl _ _ (by rintro _ ⟨x, rfl⟩; exact L3.out x) Try.underlying28 rfl (by kernel_rfl) ?_
  simp only [Act.put, List.getElem_toArray, List.getElem_cons_succ, List.getElem_cons_zero, List.setIfInBounds_toArray, List.set_cons_zero, List.set_cons_succ]
  go_big_quiet_step (exact E4.out _)
  refine wpQuiet_load_mid (by kernel_rfl) 36 (.tmp 15) rfl w13.heap.size 0 rfl _ _ (by rintro _ ⟨x, rfl⟩; exact L4.out x) Try.underlying36 rfl (by kernel_rfl) ?_
  simp only [Act.put, List.getElem_toArray, List.getElem_cons_succ, List.getElem_cons_zero, List.setIfInBounds_toArray, List.set_cons_zero, List.set_cons_succ]
  go_big_quiet_step (first | exact E5.out _ | exact E6.out _)
  go_big_quiet_step (first | exact E5.out _ | exact E6.out _)
  go_big_quiet_step (first | exact E5.out _ | exact E6.out _)
  go_big_quiet_step (first | exact E5.out _ | exact E6.out _)
  go_big_quiet_step (first | exact E5.out _ | exact E6.out _)
  go_big_quiet_step (first | exact E5.out _ | exact E6.out _)
  refine wpQuiet_nil ?_
  rintro _ ⟨⟨wz, hbz⟩, rfl⟩
  have FZ := FR.out.fut hbz
  clear hbz
  go_wp2_with fail
  go_ret
  exact ⟨rfl, FZ.out⟩

theorem saveputs_walk {W : World} (cs : Array Value) (y : Pt) (hy : tPoint.rep W (blo W.heap.size) cs.toList y) (A : Option Addr) (n cap : Nat) (l : List Int) (hs : Sl (tInt .u8) W (blo W.heap.size) A n cap l) (w : World) (e : W = w) :
    Calls Try.prog 3 #[.agg cs, .slice A n cap] w fun e w' => e = .returned (.bool true) ∧ Below w.heap.size w w' := by
  subst e
  obtain ⟨A1, n1, c1, B1, m1, d1, hc, hp, h1, h2⟩ := point_open hy
  obtain rfl : cs = ptCells y A1 n1 c1 B1 m1 d1 := by rw [← Array.toArray_toList (xs := cs), hc]; rfl
  exact saveputs_any y A1 B1 n1 c1 m1 d1 A n cap l W h1 h2 hp hs
end Go.Proofs.Ytanglfmolnfjeaa
