/-
  Exits (layer 30): Look, the program's and the document's.
  Conditions: none.
-/
import Derived.Test.YtlbijkafcododaaChecked
import Derived.Test.YtlbijkafcododaaVerdB
import Derived.Test.YtlbijkafcododaaHead
namespace Go.Proofs.Ytlbijkafcododaa
set_option linter.unusedVariables false
set_option linter.unusedSimpArgs false
open Go.RowKit Go.ChangeShapes Go.WideShapes Go.Proofs.Ytlbijkafcododaa.Rk
set_option maxRecDepth 100000

theorem check_zero {m : Int} {nw nb : Nat} {need cl : Int} (h : checkI m nw nb need cl = 0) : 2 ≤ cl ∧ cl ≤ 16 ∧ nw ≤ 16384 ∧ (nb : Int) = cl ∧ 0 ≤ need ∧ (nw : Int) = cl * m ∧ m ≠ 0 := by
  unfold checkI at h
  split at h
  · omega
  split at h
  · omega
  split at h
  · omega
  split at h
  · omega
  · rename_i h1 h2 h3 h4
    exact ⟨by omega, by omega, by omega, by omega, by omega, by omega, h1⟩

theorem look_cases (t : Tensor) (d : Hd) (cl : Int) : (t.ok = false ∧ lookV t d cl = (noVer, 5)) ∨ (t.ok = true ∧ ∃ k, checkI (elems t.h t.v t.c) d.w.length d.bias.length d.need cl = k ∧ k ≠ 0 ∧ lookV t d cl = (noVer, k)) ∨
    (t.ok = true ∧ checkI (elems t.h t.v t.c) d.w.length d.bias.length d.need cl = 0 ∧ ∃ l, denseLine t.data d.w d.bias 0 = l ∧ lookV t d cl = (⟨bestI l, marginI l, l, decide (d.need ≤ marginI l)⟩, 0)) := by
  unfold lookV
  by_cases h1 : t.ok = false
  · rw [if_pos h1]; exact .inl ⟨h1, rfl⟩
  · rw [if_neg h1]
    have h1' : t.ok = true := by simpa using h1
    by_cases h2 : checkI (elems t.h t.v t.c) d.w.length d.bias.length d.need cl ≠ 0
    · rw [if_pos h2]; exact .inr (.inl ⟨h1', _, rfl, h2, rfl⟩)
    · rw [if_neg h2]; exact .inr (.inr ⟨h1', by simpa using h2, _, rfl, rfl⟩)

theorem verdLook_any (t : Tensor) (A : Option Addr) (n cap : Nat) (d : Hd) (W : Option Addr) (nw cw : Nat) (B : Option Addr) (nb cb : Nat) (cl : Int) (w : World) (ht : TensorIn t) (hn : InK .i32 d.need) (hcl : InK .i64 cl)
    (ha : Sl (tInt .i8) w (blo w.heap.size) A n cap t.data) (hw : Sl (tInt .i8) w (blo w.heap.size) W nw cw d.w) (hb : Sl (tInt .i32) w (blo w.heap.size) B nb cb d.bias) :
    Calls Try.prog 64 #[.agg #[.int .i64 t.h, .int .i64 t.v, .int .i64 t.c, .slice A n cap], .agg #[.slice W nw cw, .slice B nb cb, .int .i32 d.need], .int .i64 cl] w (RetVer (lookV t d cl).1 (lookV t d cl).2 w) := by
  have HT := Lib.hid ht
  have HA := Lib.hid ha
  have HW := Lib.hid hw
  have HB := Lib.hid hb
  have mA := Nat.le_trans ha.cap_le ha.max_le
  have mW := Nat.le_trans hw.cap_le hw.max_le
  have mB := Nat.le_trans hb.cap_le hb.max_le
  have hLa := ha.n_eq
  have hLw := hw.n_eq
  have hLb := hb.n_eq
  have RI := Lib.hid (fun w => tensorRight_any t.h t.v t.c A n cap w ht.h ht.v ht.c mA)
  have CK := Lib.hid (fun w => verdCheck_any t.h t.v t.c W nw cw B nb cb d.need cl w ht.h ht.v ht.c mW mB hcl)
  have hok : t.ok = decide (0 < elems t.h t.v t.c ∧ elems t.h t.v t.c = n) := by unfold Tensor.ok; rw [hLa]
  rw [← hok] at RI
  have LC := Lib.hid (look_cases t d cl)
  rw [hLw, hLb] at LC
  have LA := Lib.hid hLa
  have HOK := Lib.hid hok
  rw [inK_i32] at hn
  clear ht ha hw hb mA mW mB hLa hLw hLb hok
  have FR := Lib.hid (Far.refl w)
  obtain ⟨w1, hw_w1⟩ : ∃ x, w.alloc (.cells #[.int .i64 t.h, .int .i64 t.v, .int .i64 t.c, .slice A n cap] 55) = x := ⟨_, rfl⟩
  have k_w1 : Below w.heap.size w w1 := by rw [← hw_w1]; exact (Below.refl _ _).alloc (Nat.le_refl _) _
  replace FR := Lib.hid (FR.out.fut k_w1)
  replace HA := Lib.hid (HA.out.fut k_w1)
  replace HW := Lib.hid (HW.out.fut k_w1)
  replace HB := Lib.hid (HB.out.fut k_w1)
  have BA := Lib.hid (show Blk w1 w.heap.size 55 #[.int .i64 t.h, .int .i64 t.v, .int .i64 t.c, .slice A n cap] by rw [← hw_w1]; exact Blk.now _ _ _ _ rfl)
  clear k_w1
  obtain ⟨w2, hw_w2⟩ : ∃ x, w1.alloc (.cells #[.slice W nw cw, .slice B nb cb, .int .i32 d.need] 85) = x := ⟨_, rfl⟩
  have k_w2 : Below w1.heap.size w1 w2 := by rw [← hw_w2]; exact (Below.refl _ _).alloc (Nat.le_refl _) _
  replace FR := Lib.hid (FR.out.fut k_w2)
  replace BA := Lib.hid (BA.out.fut k_w2)
  replace HA := Lib.hid (HA.out.fut k_w2)
  replace HW := Lib.hid (HW.out.fut k_w2)
  replace HB := Lib.hid (HB.out.fut k_w2)
  have BH := Lib.hid (show Blk w2 w1.heap.size 85 #[.slice W nw cw, .slice B nb cb, .int .i32 d.need] by rw [← hw_w2]; exact Blk.now _ _ _ _ rfl)
  clear k_w2
  obtain ⟨w3, hw_w3⟩ : ∃ x, w2.alloc (.cells #[.int .i64 0, .int .i64 0, .slice none 0 0, .bool false] 88) = x := ⟨_, rfl⟩
  have k_w3 : Below w2.heap.size w2 w3 := by rw [← hw_w3]; exact (Below.refl _ _).alloc (Nat.le_refl _) _
  replace FR := Lib.hid (FR.out.fut k_w3)
  replace BA := Lib.hid (BA.out.fut k_w3)
  replace BH := Lib.hid (BH.out.fut k_w3)
  replace HA := Lib.hid (HA.out.fut k_w3)
  replace HW := Lib.hid (HW.out.fut k_w3)
  replace HB := Lib.hid (HB.out.fut k_w3)
  have BR := Lib.hid (show Blk w3 w2.heap.size 88 #[.int .i64 0, .int .i64 0, .slice none 0 0, .bool false] by rw [← hw_w3]; exact Blk.now _ _ _ _ rfl)
  clear k_w3
  have lt2 : w2.heap.size < w3.heap.size := BR.out.lt
  have lt0 : w.heap.size ≤ w2.heap.size := by rw [← hw_w2, ← hw_w1]; simp; omega
  rcases LC.out with ⟨h1, h2⟩ | ⟨h1, k, h2, h3, h4⟩ | ⟨h1, h2, l, h3, h4⟩
  · rw [h1] at RI
    rw [h2]
    clear LC h1 h2
    have cA := fun i => BA.out.cell i
    go_enter Try.func64, Try.ntmps64
    go_wp2_with (refine wpList_load_row rfl 55 (.tmp 3) rfl w.heap.size rfl _ _ (0, 0) _ BA.out.heap Try.underlying55 rfl (by kernel_rfl) ?_)
    clear hw_w1 hw_w2 hw_w3 cA
    refine (RI.out _).mono ?_
    rintro e w4 ⟨rfl, hb⟩
    replace FR := Lib.hid (FR.out.fut hb)
    replace BR := Lib.hid (BR.out.fut hb)
    clear hb
    have fR := fun i => BR.out.frozen i
    have cR := fun i => BR.out.cell i
    go_wp2_with fail
    refine ret_cell_tmp rfl ((((BR.out.set_ 0 _).set_ 1 _).set_ 2 _).set_ 3 _) rfl Try.underlying88 (by kernel_rfl) rfl ?_
    exact ⟨none, 0, 0, rfl, Sl.nil _ _ _, ((((FR.out.set ⟨w2.heap.size, 0, none⟩ _ lt0).set ⟨w2.heap.size, 1, none⟩ _ lt0).set ⟨w2.heap.size, 2, none⟩ _ lt0).set ⟨w2.heap.size, 3, none⟩ _ lt0).out⟩
  · rw [h1] at RI
    rw [h2] at CK
    rw [h4]
    have t1 : (k != 0) = true := by simp; exact h3
    clear LC h1 h2 h3 h4
    have cA := fun i => BA.out.cell i
    go_enter Try.func64, Try.ntmps64
    go_wp2_with (refine wpList_load_row rfl 55 (.tmp 3) rfl w.heap.size rfl _ _ (0, 0) _ BA.out.heap Try.underlying55 rfl (by kernel_rfl) ?_)
    clear hw_w1 hw_w2 hw_w3 cA
    refine (RI.out _).mono ?_
    rintro e w4 ⟨rfl, hb⟩
    replace FR := Lib.hid (FR.out.fut hb)
    replace BR := Lib.hid (BR.out.fut hb)
    replace BA := Lib.hid (BA.out.fut hb)
    replace BH := Lib.hid (BH.out.fut hb)
    clear hb
    have cA := fun i => BA.out.cell i
    go_wp2_with (refine wpList_load_row rfl 85 (.tmp 4) rfl w1.heap.size rfl _ _ (0, 0) _ BH.out.heap Try.underlying85 rfl (by kernel_rfl) ?_)
    clear cA
    refine (CK.out _).mono ?_
    rintro e w5 ⟨rfl, hb⟩
    replace FR := Lib.hid (FR.out.fut hb)
    replace BR := Lib.hid (BR.out.fut hb)
    clear hb
    have fR := fun i => BR.out.frozen i
    have cR := fun i => BR.out.cell i
    go_wp2_with fail
    refine ret_cell_tmp rfl ((((BR.out.set_ 0 _).set_ 1 _).set_ 2 _).set_ 3 _) rfl Try.underlying88 (by kernel_rfl) rfl ?_
    exact ⟨none, 0, 0, rfl, Sl.nil _ _ _, ((((FR.out.set ⟨w2.heap.size, 0, none⟩ _ lt0).set ⟨w2.heap.size, 1, none⟩ _ lt0).set ⟨w2.heap.size, 2, none⟩ _ lt0).set ⟨w2.heap.size, 3, none⟩ _ lt0).out⟩
  · rw [h1] at RI
    rw [h4]
    obtain ⟨z1, z2, z3, z4, z5, z6, z7⟩ := check_zero h2
    rw [h2] at CK
    have hn2 : n ≤ 1024 := by
      have := HOK.out
      rw [h1] at this
      have := of_decide_eq_true this.symm
      have := (elems_bd t.h t.v t.c).2
      omega
    have HL := Lib.hid h3
    clear LC h1 h2 h3 h4 z6 z7
    obtain ⟨mg, hmg⟩ : ∃ x, marginI l = x := ⟨_, rfl⟩
    obtain ⟨bs, hbs⟩ : ∃ x, bestI l = x := ⟨_, rfl⟩
    obtain ⟨en, hen⟩ : ∃ x, decide (d.need ≤ mg) = x := ⟨_, rfl⟩
    rw [hmg, hbs, hen]
    have MG := Lib.hid hmg
    have BS := Lib.hid hbs
    clear hmg hbs
    have cA := fun i => BA.out.cell i
    go_enter Try.func64, Try.ntmps64
    go_wp2_with (refine wpList_load_row rfl 55 (.tmp 3) rfl w.heap.size rfl _ _ (0, 0) _ BA.out.heap Try.underlying55 rfl (by kernel_rfl) ?_)
    clear hw_w1 hw_w2 hw_w3 cA
    refine (RI.out _).mono ?_
    rintro e w4 ⟨rfl, hb⟩
    replace FR := Lib.hid (FR.out.fut hb)
    replace BR := Lib.hid (BR.out.fut hb)
    replace BA := Lib.hid (BA.out.fut hb)
    replace BH := Lib.hid (BH.out.fut hb)
    replace HA := Lib.hid (HA.out.fut hb)
    replace HW := Lib.hid (HW.out.fut hb)
    replace HB := Lib.hid (HB.out.fut hb)
    clear hb
    have cA := fun i => BA.out.cell i
    go_wp2_with (refine wpList_load_row rfl 85 (.tmp 4) rfl w1.heap.size rfl _ _ (0, 0) _ BH.out.heap Try.underlying85 rfl (by kernel_rfl) ?_)
    clear cA
    refine (CK.out _).mono ?_
    rintro e w5 ⟨rfl, hb⟩
    replace FR := Lib.hid (FR.out.fut hb)
    replace BR := Lib.hid (BR.out.fut hb)
    replace BA := Lib.hid (BA.out.fut hb)
    replace BH := Lib.hid (BH.out.fut hb)
    replace HA := Lib.hid (HA.out.fut hb)
    replace HW := Lib.hid (HW.out.fut hb)
    replace HB := Lib.hid (HB.out.fut hb)
    clear hb
    have F5 := Lib.hid (Far.refl w5)
    have lt5 : w2.heap.size < w5.heap.size := BR.out.lt
    go_wp2_with (first | (refine wpList_load_row rfl 55 (.tmp 3) rfl w.heap.size rfl _ _ (0, 0) _ BA.out.heap Try.underlying55 rfl (by kernel_rfl) ?_) | (refine wpList_load_row rfl 85 (.tmp 4) rfl w1.heap.size rfl _ _ (0, 0) _ BH.out.heap Try.underlying85 rfl (by kernel_rfl) ?_))
    refine (score_any t A n cap d W nw cw B nb cb w5 HA.out HW.out HB.out (by omega) (by omega) (by omega)).mono ?_
    rintro e w6 ⟨A6, n6, c6, rfl, s6, hb⟩
    rw [HL.out] at s6 ⊢
    rw [MG.out, BS.out]
    have S6 := Lib.hid (New.of s6 F5.out)
    clear s6 HA HW HB BA
    replace FR := Lib.hid (FR.out.fut hb)
    replace BR := Lib.hid (BR.out.fut hb)
    replace BH := Lib.hid (BH.out.fut hb)
    replace F5 := Lib.hid (F5.out.fut hb)
    clear hb
    obtain ⟨w7, hw_w7⟩ : ∃ x, w6.alloc (.cells #[.int .i64 bs, .int .i64 mg, .slice A6 n6 c6] 155) = x := ⟨_, rfl⟩
    have k_w7 : Below w6.heap.size w6 w7 := by rw [← hw_w7]; exact (Below.refl _ _).alloc (Nat.le_refl _) _
    replace FR := Lib.hid (FR.out.fut k_w7)
    replace BR := Lib.hid (BR.out.fut k_w7)
    replace BH := Lib.hid (BH.out.fut k_w7)
    replace F5 := Lib.hid (F5.out.fut k_w7)
    replace S6 := Lib.hid (S6.out.fut k_w7)
    have BS6 := Lib.hid (show Blk w7 w6.heap.size 155 #[.int .i64 bs, .int .i64 mg, .slice A6 n6 c6] by rw [← hw_w7]; exact Blk.now _ _ _ _ rfl)
    clear k_w7
    have fR := fun i => BR.out.frozen i
    have cR := fun i => BR.out.cell i
    have cH := fun i => BH.out.cell i
    have cS := fun i => BS6.out.cell i
    go_wp2_with fail
    clear hw_w7
    refine ret_cell_tmp rfl ((((BR.out.set_ 0 _).set_ 1 _).set_ 2 _).set_ 3 _) rfl Try.underlying88 (by kernel_rfl) rfl ?_
    refine ⟨A6, n6, c6, rfl, ?_, ((((FR.out.set ⟨w2.heap.size, 0, none⟩ _ lt0).set ⟨w2.heap.size, 1, none⟩ _ lt0).set ⟨w2.heap.size, 2, none⟩ _ lt0).set ⟨w2.heap.size, 3, none⟩ _ lt0).out⟩
    have := ((((S6.out.set ⟨w2.heap.size, 0, none⟩ (.int .i64 bs) lt5).set ⟨w2.heap.size, 1, none⟩ (.int .i64 mg) lt5).set ⟨w2.heap.size, 2, none⟩ (.slice A6 n6 c6) lt5).set ⟨w2.heap.size, 3, none⟩ (.bool en) lt5).out
    exact this.more (bin_more (by omega) (Nat.le_refl _))
end Go.Proofs.Ytlbijkafcododaa
