/-
  The walk of the law PathFirst: which of any exits answers first, and why, is what the document says.
  Conditions: none.
-/
import Derived.Test.YtjopdombjbbifaaGreatChecked
import Derived.Test.YtjopdombjbbifaaGreatPathA
import Derived.Test.YtjopdombjbbifaaGreatRows2
import Derived.BigQuiet
namespace Go.Proofs.YtjopdombjbbifaaGreat
set_option linter.unusedVariables false
set_option linter.unusedSimpArgs false
open Go.RowKit Go.ChangeShapes Go.WideShapes
set_option maxRecDepth 100000
set_option maxHeartbeats 3200000

theorem startNil_any (w : World) :
    Calls Tryz.prog 9 #[.pointer none, .agg #[.int .i64 0, .int .i64 0, .int .i64 0, .slice none 0 0]] w
      fun e w' => e = .returned (.tuple #[.agg #[.int .i64 0, .int .i64 0, .int .i64 0, .int .i64 0, .int .i64 0, .int .i64 0, .slice none 0 0, .int .i64 0, .int .i64 0, .int .i64 0, .slice none 0 0], .int .i64 1]) ∧ Below w.heap.size w w' := by
  go_enter Tryz.func9, Tryz.ntmps9
  go_wp2_with (refine wpList_store_all rfl 44 (.tmp 4) (.tmp 12) rfl (w.heap.size + 1) #[.int .i64 0, .int .i64 0, .int .i64 0, .int .i64 0, .int .i64 0, .int .i64 0, .slice none 0 0, .int .i64 0, .int .i64 0, .int .i64 0, .slice none 0 0] rfl rfl _ _ (Blk.now _ _ _ _ (by simp)) rfl (by kernel_rfl) (by kernel_rfl) ?_; intro w1 B1 g1)
  refine ret_cell_tmp rfl B1 rfl Tryz.underlying44 (by kernel_rfl) rfl ?_
  exact ⟨rfl, (((Below.refl _ _).alloc (Nat.le_refl _) _).alloc (by simp) _).grown g1 (by simp; omega) (fun k h => by cases h; omega)⟩

theorem allNil_any (w : World) :
    Calls Tryz.prog 8 #[.pointer none, .agg #[.int .i64 0, .int .i64 0, .int .i64 0, .slice none 0 0]] w
      fun e w' => e = .returned (.tuple #[.slice none 0 0, .int .i64 1]) ∧ Below w.heap.size w w' := by
  have G1 := Lib.hid (show Below w.heap.size w (w.alloc (.cells #[.int .i64 0, .int .i64 0, .int .i64 0, .slice none 0 0] 41)) from (Below.refl _ _).alloc (Nat.le_refl _) _)
  go_enter Tryz.func8, Tryz.ntmps8
  go_wp2_with fail
  refine (startNil_any _).mono ?_
  rintro e w3 ⟨rfl, hb⟩
  have G3 := Lib.hid (below_call G1.out hb G1.out.size)
  clear hb
  go_wp2_with fail
  go_ret2
  exact ⟨rfl, below_call G3.out ((Below.refl _ _).alloc (Nat.le_refl _) _) G3.out.size⟩

theorem known38_any (w : World) : Calls Tryz.prog 4 #[] w fun e w' => e = .returned (.bool true) ∧ Below w.heap.size w w' := by
  go_enter Tryz.func4, Tryz.ntmps4
  go_wp2_with fail
  refine (allNil_any _).mono ?_
  rintro e w1 ⟨rfl, h1⟩
  go_wp2_with fail
  refine (first_any none 0 0 [] 3 _ (Sl.nil _ _ _)).mono ?_
  rintro e w2 ⟨rfl, h2⟩
  rw [show firstFrom 0 3 [] 0 = (-1, 0) from rfl]
  have g2 := below_call h1 h2 h1.size
  clear h1 h2
  go_wp2_with fail
  refine (why_any _ _ _ _ _ _ _ _ _).mono ?_
  rintro e w3 ⟨rfl, h3⟩
  rw [show whyN false false true = 3 from rfl]
  have g3 := below_call g2 h3 g2.size
  clear g2 h3
  go_wp2_with fail
  refine (why_any _ _ _ _ _ _ _ _ _).mono ?_
  rintro e w4 ⟨rfl, h4⟩
  rw [show whyN true true true = 1 from rfl]
  have g4 := below_call g3 h4 g3.size
  clear g3 h4
  go_wp2_with fail
  go_ret
  exact ⟨rfl, g4⟩

theorem pathFirst_any (A : Option Addr) (n cap : Nat) (l : List Exit) (late : Int) (c m : Int) (L : Option Addr) (nl cl : Nat) (e last over : Bool) (w : World) (h : Sl tExit w (blo w.heap.size) A n cap l) :
    Calls Tryz.prog 3 #[.slice A n cap, .int .i64 late, .agg #[.int .i64 c, .int .i64 m, .slice L nl cl, .bool e], .bool last, .bool over] w
      fun e w' => e = .returned (.bool true) ∧ Below w.heap.size w w' := by
  have hm : n ≤ 9223372036854775807 := Nat.le_trans h.cap_le h.max_le
  have H := Lib.hid h
  have HN := Lib.hid h.n_eq
  clear h
  have BA := Lib.hid (Blk.now w w.heap.size 25 #[.int .i64 c, .int .i64 m, .slice L nl cl, .bool e] rfl)
  have G0 := Lib.hid (show Below w.heap.size w (w.alloc (.cells #[.int .i64 c, .int .i64 m, .slice L nl cl, .bool e] 25)) from (Below.refl _ _).alloc (Nat.le_refl _) _)
  by_cases c1 : 60 < n
  · have t1 : decide ((60 : Int) < (n : Int)) = true := by simp; omega
    clear c1
    go_enter Tryz.func3, Tryz.ntmps3
    go_wp2_with (go_at_call 4; refine (known38_any _).mono ?_; rintro e w' ⟨rfl, hb'⟩)
    go_ret
    exact ⟨rfl, below_call G0.out hb' (by simp)⟩
  have t1 : decide ((60 : Int) < (n : Int)) = false := by simp; omega
  clear c1
  go_enter Tryz.func3, Tryz.ntmps3
  go_wp2_with fail
  go_loopw [11, 12, 13] (fun p y i wr => ∃ k : Nat, k ≤ n ∧ i = .int .i64 ((k : Int) - 1) ∧ p = .int .i64 (firstFrom n late (l.drop k) k).1 ∧ y = .int .i64 (firstFrom n late (l.drop k) k).2 ∧ Below w.heap.size w wr ∧
    Blk wr w.heap.size 25 #[.int .i64 c, .int .i64 m, .slice L nl cl, .bool e]) (fun _ _ i _ => (intOf i + 1).toNat)
  case atStart => exact ⟨n, Nat.le_refl _, rfl, by rw [List.drop_of_length_le (by rw [HN.out]; exact Nat.le_refl _)]; rfl, by rw [List.drop_of_length_le (by rw [HN.out]; exact Nat.le_refl _)]; rfl, G0.out, BA.out⟩
  case round =>
    clear BA
    obtain ⟨k, hk, rfl, rfl, rfl, hb, hB⟩ := hrel
    have G1 := Lib.hid hb
    have BA := Lib.hid hB
    clear hb hB
    rcases k with _ | j
    · obtain ⟨y, hy⟩ : ∃ y, firstFrom n late (l.drop 0) 0 = y := ⟨_, rfl⟩
      rw [hy]
      rw [List.drop_zero] at hy
      have HY := Lib.hid hy
      clear hy
      go_wp2_with fail
      refine (first_any A n cap l late _ (H.out.later G1.out (Nat.le_refl _))).mono ?_
      rw [HY.out]
      rintro r w5 ⟨rfl, hb5⟩
      have G5 := Lib.hid (below_call G1.out hb5 G1.out.size)
      have B5 := Lib.hid (BA.out.later hb5)
      clear hb5 HY
      obtain ⟨y1, y2⟩ := y
      dsimp only
      go_wp2_with fail
      have t2 : (y1 == y1) = true := by simp
      have t3 : (y2 == y2) = true := by simp
      have a0 : ∀ (x : Ext w5), x.1.cell? ⟨w.heap.size, 0, none⟩ = some (.int .i64 c) := fun x => (B5.out.ext x).cell 0
      have a1 : ∀ (x : Ext w5), x.1.cell? ⟨w.heap.size, 1, none⟩ = some (.int .i64 m) := fun x => (B5.out.ext x).cell 1
      have a2 : ∀ (x : Ext w5), x.1.cell? ⟨w.heap.size, 2, none⟩ = some (.slice L nl cl) := fun x => (B5.out.ext x).cell 2
      have a3 : ∀ (x : Ext w5), x.1.cell? ⟨w.heap.size, 3, none⟩ = some (.bool e) := fun x => (B5.out.ext x).cell 3
      have E1 := Lib.hid (fun x : Ext w5 => calls_ext x (why_any c m L nl cl e last over x.1))
      have E2 := Lib.hid (fun x : Ext w5 => calls_ext x (rwhy_any e last over x.1))
      have E3 := Lib.hid (fun x : Ext w5 => calls_ext x (known38_any x.1))
      generalize whyN e last over = z at *
      have t4 : (z == z) = true := by simp
      refine wp_region_ext w5 (by kernel_rfl) (by kernel_rfl) (Below.refl _ _) ?_
      repeat (go_big_quiet_step ((first | exact E1.out _ | exact E2.out _ | exact E3.out _)))
      refine wpQuiet_nil ?_
      rintro _ ⟨⟨w6, hB⟩, rfl⟩
      have g6 := below_call G5.out hB G5.out.size
      go_wp2_with fail
      go_ret
      exact ⟨rfl, g6⟩
    · rw [show (((j + 1 : Nat) : Int) - 1) = (j : Int) by omega]
      have hlt : j < n := by omega
      have SL := Lib.hid (H.out.below G1.out (fun _ h => h))
      obtain ⟨d, K, nk, ck, b, off, hx, rfl, hS, hbs, hd, hs, c0, c1, c2, c3, c4, c5, c6, c7⟩ := SL.out.exit_at j hlt
      have HF := Lib.hid (firstFrom_at (n := n) (late := late) hx)
      have EW : exitWhy n late d j = whyN d.v.enough ((j : Int) == (n : Int) - 1) (isLate late d) := rfl
      generalize firstFrom n late (l.drop (j + 1)) (j + 1) = y at *
      have f2 : ∀ (x : Ext wr), x.1.cell? ⟨b, off + j * 8 + 2, none⟩ = some (.int .i64 d.steps) := fun x => ext_cell c2 x
      have f7 : ∀ (x : Ext wr), x.1.cell? ⟨b, off + j * 8 + 7, none⟩ = some (.bool d.v.enough) := fun x => ext_cell c7 x
      have E1 := Lib.hid (fun x : Ext wr => calls_ext x (rwhy_any d.v.enough ((j : Int) == (n : Int) - 1) (isLate late d) x.1))
      rw [← EW] at E1
      have IL := Lib.hid (show isLate late d = (decide (0 ≤ late) && decide (late < d.steps)) from rfl)
      clear hs hx hS hd EW c0 c1 c2 c3 c4 c5 c6 c7
      generalize exitWhy n late d j = z at *
      generalize isLate late d = il at *
      have fin : ∀ w6, Below wr.heap.size wr w6 → Below w.heap.size w w6 ∧ Blk w6 w.heap.size 25 #[.int .i64 c, .int .i64 m, .slice L nl cl, .bool e] := fun w6 hB => ⟨below_call G1.out hB G1.out.size, BA.out.later hB⟩
      have FIN := Lib.hid fin
      clear fin
      by_cases q : 0 ≤ late
      · have t1 : decide (0 ≤ late) = true := by simpa using q
        have IL2 := Lib.hid (show il = decide (late < d.steps) by rw [IL.out, t1]; rfl)
        obtain rfl := IL2.out
        clear q IL IL2
        go_wp2_with fail
        refine wp_region_ext wr (by kernel_rfl) (by kernel_rfl) (Below.refl _ _) ?_
        repeat (go_big_quiet_step ((exact E1.out _)))
        refine wpQuiet_nil ?_
        rintro _ ⟨⟨w6, hB⟩, rfl⟩
        have F6 := Lib.hid (FIN.out _ hB)
        clear hB
        by_cases hz : z = 0
        · subst hz
          replace HF := Lib.hid (HF.out.trans (if_pos rfl))
          go_wp2_with fail
          exact ⟨⟨j, by omega, rfl, by rw [HF.out], by rw [HF.out], F6.out⟩, by simp [intOf]⟩
        · have t2 : (z != 0) = true := by rw [bne_iff_ne]; exact hz
          replace HF := Lib.hid (HF.out.trans (if_neg hz))
          clear hz
          go_wp2_with fail
          exact ⟨⟨j, by omega, rfl, by rw [HF.out], by rw [HF.out], F6.out⟩, by simp [intOf]⟩
      · have t1 : decide (0 ≤ late) = false := by simpa using q
        have IL2 := Lib.hid (show il = false by rw [IL.out, t1]; rfl)
        obtain rfl := IL2.out
        clear q IL IL2
        go_wp2_with fail
        refine wp_region_ext wr (by kernel_rfl) (by kernel_rfl) (Below.refl _ _) ?_
        repeat (go_big_quiet_step ((exact E1.out _)))
        refine wpQuiet_nil ?_
        rintro _ ⟨⟨w6, hB⟩, rfl⟩
        have F6 := Lib.hid (FIN.out _ hB)
        clear hB
        by_cases hz : z = 0
        · subst hz
          replace HF := Lib.hid (HF.out.trans (if_pos rfl))
          go_wp2_with fail
          exact ⟨⟨j, by omega, rfl, by rw [HF.out], by rw [HF.out], F6.out⟩, by simp [intOf]⟩
        · have t2 : (z != 0) = true := by rw [bne_iff_ne]; exact hz
          replace HF := Lib.hid (HF.out.trans (if_neg hz))
          clear hz
          go_wp2_with fail
          exact ⟨⟨j, by omega, rfl, by rw [HF.out], by rw [HF.out], F6.out⟩, by simp [intOf]⟩

theorem pathFirst_walk (A : Option Addr) (n cap : Nat) (l : List Exit) {W : World} (h : Sl tExit W (blo W.heap.size) A n cap l) (late : Int) (k : InK .i64 late) (cs : Array Value) (y : Vd) (hv : tVd.rep W (blo W.heap.size) cs.toList y) (last over : Bool) (w : World) (e : W = w) :
    Calls Tryz.prog 3 #[.slice A n cap, .int .i64 late, .agg cs, .bool last, .bool over] w fun e w' => e = .returned (.bool true) ∧ Below w.heap.size w w' := by
  subst e
  obtain ⟨L, nl, cl, hcs, _, _, _⟩ := vd_open hv
  obtain rfl : cs = #[.int .i64 y.cls, .int .i64 y.margin, .slice L nl cl, .bool y.enough] := by cases cs; simp_all
  exact pathFirst_any A n cap l late y.cls y.margin L nl cl y.enough last over W h
end Go.Proofs.YtjopdombjbbifaaGreat
