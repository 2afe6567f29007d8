/-
  The walk of the law VerdictNeed (layer 30).
  Conditions: none.
-/
import Derived.Test.YtlbijkafcododaaChecked
import Derived.Test.YtlbijkafcododaaVerdF
import Derived.Test.YtlbijkafcododaaHeadB
import Derived.Test.YtlbijkafcododaaPush
namespace Go.Proofs.Ytlbijkafcododaa
set_option linter.unusedVariables false
set_option linter.unusedSimpArgs false
open Go.RowKit Go.ChangeShapes Go.WideShapes Go.Proofs.Ytlbijkafcododaa.Rk
set_option maxRecDepth 100000
set_option maxHeartbeats 4000000

theorem verdictNeed_any (t : Tensor) (A : Option Addr) (n cap : Nat) (d : Hd) (W : Option Addr) (nw cw : Nat) (B : Option Addr) (nb cb : Nat) (cl less c : Int) (w : World) (ht : TensorIn t) (hn : InK .i32 d.need) (hcl : InK .i64 cl) (hless : InK .i32 less) (hc : InK .u16 c)
    (ha : Sl (tInt .i8) w (blo w.heap.size) A n cap t.data) (hw : Sl (tInt .i8) w (blo w.heap.size) W nw cw d.w) (hb : Sl (tInt .i32) w (blo w.heap.size) B nb cb d.bias) :
    Calls Try.prog 12 #[.agg #[.int .i64 t.h, .int .i64 t.v, .int .i64 t.c, .slice A n cap], .agg #[.slice W nw cw, .slice B nb cb, .int .i32 d.need], .int .i64 cl, .int .i32 less, .int .u16 c] w fun e w' => e = .returned (.bool true) ∧ Below w.heap.size w w' := by
  have HT := Lib.hid ht
  have HN := Lib.hid hn
  have HC := Lib.hid hcl
  have HA := Lib.hid ha
  have HW := Lib.hid hw
  have HB := Lib.hid hb
  have hnb : nb ≤ 9223372036854775807 := Nat.le_trans hb.cap_le hb.max_le
  have NB := Lib.hid hb.n_eq
  have NA := Lib.hid ha.n_eq
  rw [inK_u16] at hc
  rw [inK_i32] at hn hless
  have FW := Lib.hid (fun w => few30_any t.h t.v t.c A n cap W nw cw B nb cb d.need w (Nat.le_trans ha.cap_le ha.max_le) (Nat.le_trans hw.cap_le hw.max_le) (Nat.le_trans hb.cap_le hb.max_le))
  clear ht hcl ha hw hb
  have FR := Lib.hid (Far.refl w)
  obtain ⟨w1, hw_w1⟩ : ∃ nw_, w.alloc (.cells #[.int .i64 t.h, .int .i64 t.v, .int .i64 t.c, .slice A n cap] 55) = nw_ := ⟨_, rfl⟩
  have k_w1 : Below w.heap.size w w1 := by rw [← hw_w1]; exact (Below.refl _ _).alloc (Nat.le_refl _) _
  replace FR := Lib.hid (FR.out.fut k_w1)
  replace HA := Lib.hid (HA.out.fut k_w1)
  replace HW := Lib.hid (HW.out.fut k_w1)
  replace HB := Lib.hid (HB.out.fut k_w1)
  have BA := Lib.hid (show Blk w1 w.heap.size 55 #[.int .i64 t.h, .int .i64 t.v, .int .i64 t.c, .slice A n cap] by rw [← hw_w1]; exact Blk.now _ _ _ _ rfl)
  clear k_w1
  obtain ⟨w2, hw_w2⟩ : ∃ nw_, w1.alloc (.cells #[.slice W nw cw, .slice B nb cb, .int .i32 d.need] 85) = nw_ := ⟨_, rfl⟩
  have k_w2 : Below w1.heap.size w1 w2 := by rw [← hw_w2]; exact (Below.refl _ _).alloc (Nat.le_refl _) _
  replace FR := Lib.hid (FR.out.fut k_w2)
  replace BA := Lib.hid (BA.out.fut k_w2)
  replace HA := Lib.hid (HA.out.fut k_w2)
  replace HW := Lib.hid (HW.out.fut k_w2)
  replace HB := Lib.hid (HB.out.fut k_w2)
  have BH := Lib.hid (show Blk w2 w1.heap.size 85 #[.slice W nw cw, .slice B nb cb, .int .i32 d.need] by rw [← hw_w2]; exact Blk.now _ _ _ _ rfl)
  clear k_w2
  by_cases hf : n ≤ 1024 ∧ nw ≤ 4000 ∧ nb ≤ 100
  rotate_left
  · have hf2 : decide (n ≤ 1024 ∧ nw ≤ 4000 ∧ nb ≤ 100) = false := by simpa using hf
    rw [hf2] at FW
    clear hf hf2
    go_enter Try.func12, Try.ntmps12
    go_wp2_with (first | (refine wpList_load_row rfl 55 (.tmp 5) rfl w.heap.size rfl _ _ (0, 0) _ BA.out.heap Try.underlying55 rfl (by kernel_rfl) ?_) | (refine wpList_load_row rfl 85 (.tmp 6) rfl w1.heap.size rfl _ _ (0, 0) _ BH.out.heap Try.underlying85 rfl (by kernel_rfl) ?_))
    clear hw_w1 hw_w2
    refine (FW.out _).mono ?_
    rintro e w3 ⟨rfl, hb⟩
    replace FR := Lib.hid (FR.out.fut hb)
    clear hb
    go_wp2_with fail
    refine (known30_any w3).mono ?_
    rintro e w4 ⟨rfl, hb⟩
    replace FR := Lib.hid (FR.out.fut hb)
    clear hb
    go_wp2_with fail
    go_ret
    exact ⟨rfl, FR.out.out⟩
  · have hf2 : decide (n ≤ 1024 ∧ nw ≤ 4000 ∧ nb ≤ 100) = true := by simpa using hf
    obtain ⟨hn1, hn2, hn3⟩ := hf
    rw [hf2] at FW
    clear hf2
    obtain ⟨x, hx⟩ : ∃ x, (lookV t d cl).1 = x := ⟨_, rfl⟩
    obtain ⟨k, hk⟩ : ∃ x, (lookV t d cl).2 = x := ⟨_, rfl⟩
    have X := Lib.hid (And.intro hx hk)
    clear hx hk
    have hw12 : w1.heap.size ≤ w2.heap.size := by rw [← hw_w2]; simp
    have hw01 : w.heap.size ≤ w1.heap.size := by rw [← hw_w1]; simp
    go_enter Try.func12, Try.ntmps12
    go_wp2_with (first | (refine wpList_load_row rfl 55 (.tmp 5) rfl w.heap.size rfl _ _ (0, 0) _ BA.out.heap Try.underlying55 rfl (by kernel_rfl) ?_) | (refine wpList_load_row rfl 85 (.tmp 6) rfl w1.heap.size rfl _ _ (0, 0) _ BH.out.heap Try.underlying85 rfl (by kernel_rfl) ?_))
    clear hw_w1 hw_w2
    refine (FW.out _).mono ?_
    rintro e w3 ⟨rfl, hb⟩
    replace FR := Lib.hid (FR.out.fut hb)
    replace BA := Lib.hid (BA.out.fut hb)
    replace BH := Lib.hid (BH.out.fut hb)
    replace HA := Lib.hid (HA.out.fut hb)
    replace HW := Lib.hid (HW.out.fut hb)
    replace HB := Lib.hid (HB.out.fut hb)
    clear hb
    go_wp2_with (first | (refine wpList_load_row rfl 55 (.tmp 5) rfl w.heap.size rfl _ _ (0, 0) _ BA.out.heap Try.underlying55 rfl (by kernel_rfl) ?_) | (refine wpList_load_row rfl 85 (.tmp 6) rfl w1.heap.size rfl _ _ (0, 0) _ BH.out.heap Try.underlying85 rfl (by kernel_rfl) ?_))
    refine (verdLook_any t A n cap d W nw cw B nb cb cl w3 HT.out HN.out HC.out HA.out HW.out HB.out).mono ?_
    rintro e w4 ⟨A1, n1, c1, rfl, s1, hb⟩
    rw [X.out.1, X.out.2]
    rw [X.out.1] at s1
    have S1 := Lib.hid s1.old
    clear s1
    replace FR := Lib.hid (FR.out.fut hb)
    replace BA := Lib.hid (BA.out.fut hb)
    replace BH := Lib.hid (BH.out.fut hb)
    replace HA := Lib.hid (HA.out.fut hb)
    replace HW := Lib.hid (HW.out.fut hb)
    replace HB := Lib.hid (HB.out.fut hb)
    clear hb
    obtain ⟨w5, hw_w5⟩ : ∃ nw_, w4.alloc (.cells #[.int .i64 x.cls, .int .i64 x.marg, .slice A1 n1 c1, .bool x.en] 88) = nw_ := ⟨_, rfl⟩
    have k_w5 : Below w4.heap.size w4 w5 := by rw [← hw_w5]; exact (Below.refl _ _).alloc (Nat.le_refl _) _
    replace FR := Lib.hid (FR.out.fut k_w5)
    replace BA := Lib.hid (BA.out.fut k_w5)
    replace BH := Lib.hid (BH.out.fut k_w5)
    replace HA := Lib.hid (HA.out.fut k_w5)
    replace HW := Lib.hid (HW.out.fut k_w5)
    replace HB := Lib.hid (HB.out.fut k_w5)
    replace S1 := Lib.hid (S1.out.fut k_w5)
    have BV := Lib.hid (show Blk w5 w4.heap.size 88 #[.int .i64 x.cls, .int .i64 x.marg, .slice A1 n1 c1, .bool x.en] by rw [← hw_w5]; exact Blk.now _ _ _ _ rfl)
    clear k_w5
    by_cases hk : k = 0
    rotate_left
    · have y1 : (k != 0) = true := by simp; exact hk
      have hlg : x.lg = [] := by rw [← X.out.1]; exact look_lg (by rw [X.out.2]; exact hk)
      obtain rfl : 0 = n1 := by rw [← S1.out.n_eq, hlg]; rfl
      have cV := fun i => BV.out.cell i
      clear hlg hk
      go_wp2_with fail
      clear hw_w5
      refine (known30_any w5).mono ?_
      rintro e w6 ⟨rfl, hb⟩
      replace FR := Lib.hid (FR.out.fut hb)
      clear hb
      go_wp2_with fail
      go_ret
      exact ⟨rfl, FR.out.out⟩
    · subst hk
      obtain ⟨nd, hnd⟩ : ∃ x, min (max less 0) d.need = x := ⟨_, rfl⟩
      have hnd2 : InK .i32 nd := by rw [inK_i32]; omega
      have hlt5 : w.heap.size ≤ w5.heap.size := FR.out.size
      have ne1 : w.heap.size < w5.heap.size := BA.out.lt
      have ne2 : w1.heap.size < w5.heap.size := BH.out.lt
      have ne3 : w4.heap.size < w5.heap.size := BV.out.lt
      have cH := fun i => BH.out.cell i
      have cA := fun i => BA.out.cell i
      have F5 := Lib.hid (Far.refl w5)
      have H5 := Lib.hid (And.intro HA.out (And.intro HW.out HB.out))
      have B5 := Lib.hid (And.intro BA.out (And.intro BH.out BV.out))
      have FR5 := Lib.hid FR.out
      obtain ⟨w6, hw_w6⟩ : ∃ nw_, w5.alloc (.cells #[.slice W nw cw, .slice none 0 0, .int .i32 nd] 85) = nw_ := ⟨_, rfl⟩
      have k_w6 : Below w5.heap.size w5 w6 := by rw [← hw_w6]; exact (Below.refl _ _).alloc (Nat.le_refl _) _
      replace FR := Lib.hid (FR.out.fut k_w6)
      replace BA := Lib.hid (BA.out.fut k_w6)
      replace BH := Lib.hid (BH.out.fut k_w6)
      replace BV := Lib.hid (BV.out.fut k_w6)
      replace HA := Lib.hid (HA.out.fut k_w6)
      replace HW := Lib.hid (HW.out.fut k_w6)
      replace HB := Lib.hid (HB.out.fut k_w6)
      replace F5 := Lib.hid (F5.out.fut k_w6)
      have BG := Lib.hid (show Blk w6 w5.heap.size 85 #[.slice W nw cw, .slice none 0 0, .int .i32 nd] by rw [← hw_w6]; exact Blk.now _ _ _ _ rfl)
      clear k_w6
      have ND := Lib.hid hnd
      go_wp2_with (first | (refine wpList_load_row rfl 55 (.tmp 5) rfl w.heap.size rfl _ _ (0, 0) _ BA.out.heap Try.underlying55 rfl (by kernel_rfl) ?_) | (refine wpList_load_row rfl 85 (.tmp 6) rfl w1.heap.size rfl _ _ (0, 0) _ B5.out.2.1.heap Try.underlying85 rfl (by kernel_rfl) ?_))
      clear hw_w5 hw_w6 cH cA hnd
      go_loopw [14] (fun i wr => ∃ (k : Nat) (v : Value), k ≤ nb ∧ i = .int .i64 k ∧ Hid (Far w5 wr) ∧ Hid (Blk wr w5.heap.size 85 #[.slice W nw cw, v, .int .i32 nd]) ∧ Hid (Own (tInt .i32) wr (fun _ => False) (w5.heap.size + 1) 21 v k (grownTo d.bias c k)) ∧
        Hid (∀ i, i < k → -1000000000 ≤ d.bias.getD i 0 ∧ d.bias.getD i 0 ≤ 1000000000)) (fun i _ => nb - (intOf i).toNat)
      case atStart => exact ⟨0, .slice none 0 0, Nat.zero_le _, rfl, F5, BG, Lib.hid (Own.nil _ _ _ _ _), Lib.hid (fun i h => by omega)⟩
      case round =>
        clear F5 BG FR BA BH BV HA HW HB
        obtain ⟨k, v, hk, rfl, F, G, O, R⟩ := hrel
        have BH := Lib.hid (B5.out.2.1.fut F.out.out)
        have ltG := G.out.lt
        have HB := Lib.hid (H5.out.2.2.fut F.out.out)
        have zF := F.out.size
        by_cases hlt : k < nb
        · have t1 : decide ((k : Int) < (nb : Int)) = true := by simp; omega
          have p1 : (k : Int) < (nb : Int) := by omega
          obtain ⟨bb, off, rfl, _, _, cX, iX⟩ := HB.out.int_at k hlt
          have hbb : bb < w5.heap.size := by
            obtain ⟨_, _, e, hh, _⟩ := H5.out.2.2.int_at k hlt
            cases e
            exact hh
          rw [inK_i32] at iX
          have HS := Lib.hid (grownTo_succ d.bias c k)
          have cH := fun i => BH.out.cell i
          obtain ⟨u, hu⟩ : ∃ u, d.bias.getD k 0 = u := ⟨_, rfl⟩
          rw [hu] at cX iX HS
          have HU := Lib.hid hu
          clear hu
          by_cases g1 : 1000000000 < u
          · have y1 : decide (1000000000 < u) = true := by simp; exact g1
            clear g1
            go_wp2_with fail
            refine (known30_any wr).mono ?_
            rintro e w7 ⟨rfl, hb⟩
            have FE := Lib.hid (FR5.out.trans F.out |>.fut hb)
            clear hb
            go_wp2_with fail
            go_ret
            exact ⟨rfl, FE.out.out⟩
          · have y1 : decide (1000000000 < u) = false := by simp; omega
            by_cases g2 : u < -1000000000
            · have y2 : decide (u < -1000000000) = true := by simp; exact g2
              clear g1 g2
              go_wp2_with fail
              refine (known30_any wr).mono ?_
              rintro e w7 ⟨rfl, hb⟩
              have FE := Lib.hid (FR5.out.trans F.out |>.fut hb)
              clear hb
              go_wp2_with fail
              go_ret
              exact ⟨rfl, FE.out.out⟩
            · have y2 : decide (u < -1000000000) = false := by simp; omega
              have R2 := Lib.hid (show ∀ i, i < k + 1 → -1000000000 ≤ d.bias.getD i 0 ∧ d.bias.getD i 0 ≤ 1000000000 from fun i hi => by
                by_cases e : i = k
                · rw [e, HU.out]; omega
                · exact R.out i (by omega))
              have e1 : IntKind.i32.wrap c = c := IntWalk.i32_in _ (by omega)
              have e2 : IntKind.i32.wrap (u + c) = u + c := IntWalk.i32_in _ (by omega)
              have hin : InK .i32 (u + c) := by rw [inK_i32]; omega
              have neG : some w5.heap.size ≠ v.ownBlock := fun e => by have := (O.out.lt _ e.symm).1; omega
              have GD := Lib.hid G.out.drew
              have OD := Lib.hid (show Own (tInt .i32) wr.drew (fun _ => False) (w5.heap.size + 1) 21 v k (grownTo d.bias c k) from O.out.heap rfl)
              have FD := Lib.hid F.out.out.drew
              have c0 := G.out.cell 1
              have c1 := BH.out.cell 1
              have BNE := Lib.hid (show some w1.heap.size ≠ v.ownBlock from fun e => by have := (O.out.lt _ e.symm).1; omega)
              have XNE := Lib.hid (show some bb ≠ v.ownBlock from fun e => by have := (O.out.lt _ e.symm).1; omega)
              clear g1 g2 O
              have NEG := Lib.hid neG
              clear neG
              go_wp2_with fail
              refine wp_region_T (fun w' => w'.cell? ⟨w5.heap.size, 1, none⟩ = some v ∧ w'.cell? ⟨w1.heap.size, 1, none⟩ = some (.slice (some ⟨bb, off, none⟩) nb cb) ∧ w'.cell? ⟨bb, off + k, none⟩ = some (.int .i32 u) ∧ Below w5.heap.size w5 w') 12 (by kernel_rfl) ?_ (fun hS => ?_)
              · exact ⟨c0, c1, cX, FD.out⟩
              refine wpAnyT_take (i := 0) (v := ?_) rfl (by as_aux_lemma => kernel_rfl) (by as_aux_lemma => kernel_rfl) (by as_aux_lemma => kernel_rfl) (by as_aux_lemma => kernel_rfl) rfl (fun _ _ _ h => h) (Or.inl ⟨by rfl, ?_⟩) hS ?_
              rotate_left
              · intro w hSw; (try dsimp only at hSw); go_simp; try with_reducible rfl
              try simp only [Act.put, List.getElem_toArray, List.getElem_cons_succ, List.getElem_cons_zero, List.setIfInBounds_toArray, List.set_cons_zero, List.set_cons_succ]
              refine wpAnyT_take (i := 1) (v := ?_) rfl (by as_aux_lemma => kernel_rfl) (by as_aux_lemma => kernel_rfl) (by as_aux_lemma => kernel_rfl) (by as_aux_lemma => kernel_rfl) rfl (fun _ _ _ h => h) (Or.inl ⟨by rfl, ?_⟩) hS ?_
              rotate_left
              · intro w hSw; (try dsimp only at hSw); go_simp; try with_reducible rfl
              try simp only [Act.put, List.getElem_toArray, List.getElem_cons_succ, List.getElem_cons_zero, List.setIfInBounds_toArray, List.set_cons_zero, List.set_cons_succ]
              refine wpAnyT_take (i := 2) (v := ?_) rfl (by as_aux_lemma => kernel_rfl) (by as_aux_lemma => kernel_rfl) (by as_aux_lemma => kernel_rfl) (by as_aux_lemma => kernel_rfl) rfl (fun _ _ _ h => h) (Or.inl ⟨by rfl, ?_⟩) hS ?_
              rotate_left
              · intro w hSw; (try dsimp only at hSw); go_simp; try with_reducible rfl
              try simp only [Act.put, List.getElem_toArray, List.getElem_cons_succ, List.getElem_cons_zero, List.setIfInBounds_toArray, List.set_cons_zero, List.set_cons_succ]
              refine wpAnyT_take (i := 3) (v := ?_) rfl (by as_aux_lemma => kernel_rfl) (by as_aux_lemma => kernel_rfl) (by as_aux_lemma => kernel_rfl) (by as_aux_lemma => kernel_rfl) rfl (fun _ _ _ h => h) (Or.inl ⟨by rfl, ?_⟩) hS ?_
              rotate_left
              · intro w hSw; (try dsimp only at hSw); go_simp; try with_reducible rfl
              try simp only [Act.put, List.getElem_toArray, List.getElem_cons_succ, List.getElem_cons_zero, List.setIfInBounds_toArray, List.set_cons_zero, List.set_cons_succ]
              refine wpAnyT_take (i := 4) (v := ?_) rfl (by as_aux_lemma => kernel_rfl) (by as_aux_lemma => kernel_rfl) (by as_aux_lemma => kernel_rfl) (by as_aux_lemma => kernel_rfl) rfl (fun _ _ _ h => h) (Or.inl ⟨by rfl, ?_⟩) hS ?_
              rotate_left
              · intro w hSw; (try dsimp only at hSw); go_simp; try with_reducible rfl
              try simp only [Act.put, List.getElem_toArray, List.getElem_cons_succ, List.getElem_cons_zero, List.setIfInBounds_toArray, List.set_cons_zero, List.set_cons_succ]
              refine wpAnyT_take (i := 5) (v := ?_) rfl (by as_aux_lemma => kernel_rfl) (by as_aux_lemma => kernel_rfl) (by as_aux_lemma => kernel_rfl) (by as_aux_lemma => kernel_rfl) rfl (fun _ _ _ h => h) (Or.inl ⟨by rfl, ?_⟩) hS ?_
              rotate_left
              · intro w hSw; (try dsimp only at hSw); go_simp; try with_reducible rfl
              try simp only [Act.put, List.getElem_toArray, List.getElem_cons_succ, List.getElem_cons_zero, List.setIfInBounds_toArray, List.set_cons_zero, List.set_cons_succ]
              refine wpAnyT_take (i := 6) (v := ?_) rfl (by as_aux_lemma => kernel_rfl) (by as_aux_lemma => kernel_rfl) (by as_aux_lemma => kernel_rfl) (by as_aux_lemma => kernel_rfl) rfl (fun _ _ _ h => h) (Or.inl ⟨by rfl, ?_⟩) hS ?_
              rotate_left
              · intro w hSw; (try dsimp only at hSw); go_simp; try with_reducible rfl
              try simp only [Act.put, List.getElem_toArray, List.getElem_cons_succ, List.getElem_cons_zero, List.setIfInBounds_toArray, List.set_cons_zero, List.set_cons_succ]
              refine wpAnyT_take (i := 7) (v := ?_) rfl (by as_aux_lemma => kernel_rfl) (by as_aux_lemma => kernel_rfl) (by as_aux_lemma => kernel_rfl) (by as_aux_lemma => kernel_rfl) rfl (fun _ _ _ h => h) (Or.inl ⟨by rfl, ?_⟩) hS ?_
              rotate_left
              · intro w hSw; (try dsimp only at hSw); go_simp; try with_reducible rfl
              try simp only [Act.put, List.getElem_toArray, List.getElem_cons_succ, List.getElem_cons_zero, List.setIfInBounds_toArray, List.set_cons_zero, List.set_cons_succ]
              refine wpAnyT_take (i := 8) (v := ?_) rfl (by as_aux_lemma => kernel_rfl) (by as_aux_lemma => kernel_rfl) (by as_aux_lemma => kernel_rfl) (by as_aux_lemma => kernel_rfl) rfl (fun _ _ _ h => h) (Or.inl ⟨by rfl, ?_⟩) hS ?_
              rotate_left
              · intro w hSw; (try dsimp only at hSw); go_simp; try with_reducible rfl
              try simp only [Act.put, List.getElem_toArray, List.getElem_cons_succ, List.getElem_cons_zero, List.setIfInBounds_toArray, List.set_cons_zero, List.set_cons_succ]
              refine wpAnyT_take (i := 9) (v := ?_) rfl (by as_aux_lemma => kernel_rfl) (by as_aux_lemma => kernel_rfl) (by as_aux_lemma => kernel_rfl) (by as_aux_lemma => kernel_rfl) rfl (fun _ _ _ h => h) (Or.inl ⟨by rfl, ?_⟩) hS ?_
              rotate_left
              · intro w hSw; (try dsimp only at hSw); go_simp; try with_reducible rfl
              try simp only [Act.put, List.getElem_toArray, List.getElem_cons_succ, List.getElem_cons_zero, List.setIfInBounds_toArray, List.set_cons_zero, List.set_cons_succ]
              refine wpAnyT_one (i := 10) (by kernel_rfl) rfl rfl (fun K hK => ?_)
              go_simp
              have hb : Below wr.drew.heap.size wr.drew (wr.drew.alloc (.cells #[.int .i32 (u + c)] 21)) := (Below.refl _ _).alloc (Nat.le_refl _) _
              refine hK.out _ _ ?_ (fun hS => ?_)
              · exact ⟨cell_later hb hS.1, cell_later hb hS.2.1, cell_later hb hS.2.2.1, (by first | exact below_later hb hS.2.2.2 | exact grown_below hS.2.2.2 hb)⟩
              clear hK K
              try simp only [Act.put, List.getElem_toArray, List.getElem_cons_succ, List.getElem_cons_zero, List.setIfInBounds_toArray, List.set_cons_zero, List.set_cons_succ]
              refine wpAnyT_one (i := 11) (by kernel_rfl) rfl rfl (fun K hK => ?_)
              (rw [if_pos (by rfl)]; refine oper_push (W := wr.drew) (cs := #[.int .i32 (u + c)]) (E := 21) (t := tInt .i32) (.tmp 69) (.tmp 78) rfl ei_i32r rfl OD.out 1 rfl (u + c) ⟨rfl, hin⟩ (by unfold maxLen; omega) (by omega) (by show _ ≤ wr.heap.size; omega) (fun _ h => h.elim) ?_; intro v' w7 own7 g7 at7; obtain ⟨A8, c8, rfl, _⟩ := own7.sl (S' := fun _ => True) (by decide) (fun _ _ _ => trivial) (fun _ h => h.elim); have bG7 : Blk w7 w5.heap.size 85 #[.slice W nw cw, v, .int .i32 nd] := ⟨(g7.block _ GD.out.lt NEG.out).trans GD.out.heap⟩; have c7 := bG7.cell 1; have f7 := bG7.frozen 1; have lt7 := bG7.lt; refine hK.out _ _ ⟨c7, (cell_grown g7 c1 BNE.out), (cell_grown g7 cX XNE.out), FD.out.grown g7 (by show _ ≤ wr.heap.size; omega) (fun j hj => by have := (OD.out.lt j hj).1; omega)⟩ (fun hS => ?_))
              clear hK K
              try simp only [Act.put, List.getElem_toArray, List.getElem_cons_succ, List.getElem_cons_zero, List.setIfInBounds_toArray, List.set_cons_zero, List.set_cons_succ]
              refine wpAnyT_tail _ _ rfl rfl (by kernel_rfl) ?_
              clear hS hb c0 c1 cX cH
              go_wp2_with fail
              clear c7 f7
              have f8 : Far w5 w7 := ⟨FD.out.grown g7 (by show _ ≤ wr.heap.size; omega) (fun j hj => by have := (OD.out.lt j hj).1; omega)⟩
              have own8 : (Value.slice A8 (k + 1) c8).ownBlock ≠ some w5.heap.size := by
                rcases at7 with e | e
                · rw [e]; exact fun e' => NEG.out e'.symm
                · rw [e]; intro e'
                  have : wr.heap.size + 1 = w5.heap.size := Option.some.inj e'
                  omega
              have O8 := Lib.hid (own7.flat (w' := w7.setCell ⟨w5.heap.size, 1, none⟩ (.slice A8 (k + 1) c8)) (row := some w5.heap.size) ⟨rfl, rfl, rfl, by simp, fun j hj hne => Below.heap_setCell _ _ _ _ (fun e => hne (by rw [e]))⟩ (.inr own8) (fun _ h => h))
              have B8 := Lib.hid (bG7.set_ 1 (.slice A8 (k + 1) c8))
              have F8 := Lib.hid (f8.set ⟨w5.heap.size, 1, none⟩ (.slice A8 (k + 1) c8) (Nat.le_refl _))
              clear f8 own8 bG7 own7 g7 at7
              exact ⟨⟨k + 1, _, by omega, by go_num, F8, B8, by rw [HS.out]; exact O8, R2⟩, by simp [intOf]; omega⟩
        · obtain rfl : k = nb := by omega
          have t1 : decide ((k : Int) < (k : Int)) = false := by simp
          have cH := fun i => BH.out.cell i
          obtain ⟨A2, c2, rfl, sl⟩ := O.out.sl (S' := blo wr.heap.size) (by decide) (fun b h1 h2 => h2) (fun _ h => h.elim)
          have SL := Lib.hid sl
          have HA := Lib.hid (H5.out.1.fut F.out.out)
          have HW := Lib.hid (H5.out.2.1.fut F.out.out)
          have BA := Lib.hid (B5.out.1.fut F.out.out)
          have BV := Lib.hid (B5.out.2.2.fut F.out.out)
          have FE := Lib.hid (FR5.out.trans F.out)
          have NL := Lib.hid (need_look t d cl less c X.out.2 (fun i => HA.out.allK i) (fun i => HW.out.allK i) (by rw [NA.out]; exact hn1) (by rw [NB.out]; exact R.out) hc)
          rw [NB.out, ND.out] at NL
          obtain ⟨x', hx'⟩ : ∃ z, (lookV t ⟨d.w, grownTo d.bias c k, nd⟩ cl).1 = z := ⟨_, rfl⟩
          have X' := Lib.hid hx'
          rw [X'.out, X.out.1] at NL
          have NN := Lib.hid hnd2
          clear sl O R hx' hnd2
          go_wp2_with (first | (refine wpList_load_row rfl 55 (.tmp 5) rfl w.heap.size rfl _ _ (0, 0) _ BA.out.heap Try.underlying55 rfl (by kernel_rfl) ?_) | (refine wpList_load_row rfl 85 (.tmp 13) rfl w5.heap.size rfl _ _ (0, 0) _ G.out.heap Try.underlying85 rfl (by kernel_rfl) ?_))
          refine (verdLook_any t A n cap ⟨d.w, grownTo d.bias c k, nd⟩ W nw cw A2 k c2 cl wr HT.out NN.out HC.out HA.out HW.out SL.out).mono ?_
          rintro e w7 ⟨A7, n7, c7, rfl, s7, hb⟩
          rw [NL.out.1, X'.out]
          clear s7 cH
          replace FE := Lib.hid (FE.out.fut hb)
          replace BV := Lib.hid (BV.out.fut hb)
          clear hb
          obtain ⟨w8, hw_w8⟩ : ∃ nw_, w7.alloc (.cells #[.int .i64 x'.cls, .int .i64 x'.marg, .slice A7 n7 c7, .bool x'.en] 88) = nw_ := ⟨_, rfl⟩
          have k_w8 : Below w7.heap.size w7 w8 := by rw [← hw_w8]; exact (Below.refl _ _).alloc (Nat.le_refl _) _
          replace FE := Lib.hid (FE.out.fut k_w8)
          replace BV := Lib.hid (BV.out.fut k_w8)
          have BU := Lib.hid (show Blk w8 w7.heap.size 88 #[.int .i64 x'.cls, .int .i64 x'.marg, .slice A7 n7 c7, .bool x'.en] by rw [← hw_w8]; exact Blk.now _ _ _ _ rfl)
          clear k_w8
          have cV := fun i => BV.out.cell i
          have cU := fun i => BU.out.cell i
          obtain ⟨hq1, hq2⟩ := NL.out.2
          have q1 : (x.cls == x'.cls) = true := by simp [hq1]
          have q2 : (x.marg == x'.marg) = true := by simp [hq2.1]
          have EN := Lib.hid hq2.2
          clear hq1 hq2
          go_upto_region 16 with (fail)
          clear hw_w8
          cases hen : x.en with
          | false =>
            have HE := Lib.hid hen
            go_wp2_with fail
            refine (known30_any w8).mono ?_
            rintro e w9 ⟨rfl, hb⟩
            replace FE := Lib.hid (FE.out.fut hb)
            clear hb
            go_wp2_with fail
            go_ret
            exact ⟨rfl, FE.out.out⟩
          | true =>
            have hen2 := EN.out hen
            go_wp2_with fail
            refine (known30_any w8).mono ?_
            rintro e w9 ⟨rfl, hb⟩
            replace FE := Lib.hid (FE.out.fut hb)
            clear hb
            go_wp2_with fail
            go_ret
            exact ⟨rfl, FE.out.out⟩

theorem verdictNeed_walk (cs : Array Value) (t : Tensor) {w0 : World} (ht : tTensor.rep w0 (blo w0.heap.size) cs.toList t) (cs' : Array Value) (d : Hd) (hd : tHd.rep w0 (blo w0.heap.size) cs'.toList d) (cl : Int) (hcl : InK .i64 cl) (less : Int) (hl : InK .i32 less) (c : Int) (hc : InK .u16 c) (w : World) (e : w0 = w) :
    Calls Try.prog 12 #[.agg cs, .agg cs', .int .i64 cl, .int .i32 less, .int .u16 c] w fun e w' => e = .returned (.bool true) ∧ Below w.heap.size w w' := by
  subst e
  obtain ⟨A, n, cap, e1, k1, k2⟩ := tensor_open ht
  obtain ⟨W, nw, cw, B, nb, cb, e2, k3, k4, k5⟩ := hd_open hd
  obtain ⟨cs⟩ := cs
  obtain ⟨cs'⟩ := cs'
  simp only at e1 e2
  subst e1 e2
  exact verdictNeed_any t A n cap d W nw cw B nb cb cl less c _ k1 k3 hcl hl hc k2 k4 k5
end Go.Proofs.Ytlbijkafcododaa
