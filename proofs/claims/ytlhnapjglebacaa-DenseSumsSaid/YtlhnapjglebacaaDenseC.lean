/-
  Walks of dense (layer 18): the document's shape of what a node makes; all sums, the program's and the document's.
  Conditions: none.
-/
import Derived.Test.YtlhnapjglebacaaDenseB
set_option linter.unusedVariables false
set_option linter.unusedSimpArgs false
namespace Go.Proofs.Ytlhnapjglebacaa
open Go.RowKit Go.ChangeShapes Go.WideShapes
set_option maxRecDepth 100000

set_option maxHeartbeats 2000000 in
theorem rdenseShape_any (h v c : Int) (d : Node) (W : Option Addr) (nw cw : Nat) (B : Option Addr) (nb cb : Nat) (w : World) (h0 : InK .i64 h) (h1 : InK .i64 v) (h2 : InK .i64 c) (hout : InK .i64 d.out)
    (hnw : nw = d.w.length) (hnb : nb = d.bias.length) (mw : nw ≤ maxLen) (mb : nb ≤ maxLen) :
    Calls Try.prog 37 #[.agg #[.int .i64 h, .int .i64 v, .int .i64 c], .agg #[Value.int .i64 d.kind, Value.int .i64 d.a, Value.int .i64 d.b, Value.int .i64 d.k, Value.int .i64 d.s, Value.int .i64 d.p, Value.int .i64 d.out, Value.int .i8 d.za, Value.int .i8 d.zb, Value.slice W nw cw, Value.slice B nb cb, Value.int .i32 d.qm, Value.int .i64 d.qs, Value.int .i8 d.qz, Value.int .i32 d.rm, Value.int .i64 d.rs, Value.int .i8 d.rz, Value.int .i8 d.lo, Value.int .i8 d.hi]] w fun e w' => e = shapeEnd (denseCode h v c d) d.out ∧ Below w.heap.size w w' := by
  have H0 := Lib.hid h0
  have H1 := Lib.hid h1
  have H2 := Lib.hid h2
  have HO := Lib.hid hout
  have HNW := Lib.hid hnw
  have HNB := Lib.hid hnb
  clear h0 h1 h2 hout hnw hnb
  unfold maxLen at mw mb
  have r1 := elems_range h v c
  have r2 := elems_range 1 1 d.out
  by_cases c1 : elems h v c = 0
  · have t1 := c1
    have e : denseCode h v c d = 5 := by unfold denseCode; rw [if_pos (.inl c1)]
    have E := Lib.hid e
    have T1 := Lib.hid t1
    clear e c1 t1
    go_enter Try.func37, Try.ntmps37
    go_wp2_with fail
    refine (relems_any h c v _ H0.out H1.out H2.out).mono ?_
    rintro e w1 ⟨rfl, hb⟩
    rw [T1.out]
    have g1 := below_call (B := w.heap.size) (a := w) (by go_grown) hb (by simp; omega)
    have bC := (((Blk.now _ (w.heap.size + 1 + 1) _ _ (by simp)).past _).later hb)
    have fC := fun i => bC.frozen i
    have cC := fun i => bC.cell i
    clear hb
    go_wp2_with fail
    refine ret_cell_tmp rfl (((bC.set_ 0 _).set_ 1 _).set_ 2 _) rfl Try.underlying54 (by kernel_rfl) rfl ⟨?_, by go_grown⟩
    rw [E.out]; rfl
  have t1 : (elems h v c == 0) = false := by simpa using c1
  by_cases c2 : elems 1 1 d.out = 0
  · have t2 := c2
    have e : denseCode h v c d = 5 := by unfold denseCode; rw [if_pos (.inr c2)]
    have E := Lib.hid e
    have T2 := Lib.hid t2
    clear e c1 c2 t2
    go_enter Try.func37, Try.ntmps37
    go_wp2_with fail
    refine (relems_any h c v _ H0.out H1.out H2.out).mono ?_
    rintro e w1 ⟨rfl, hb⟩
    have g1 := below_call (B := w.heap.size) (a := w) (by go_grown) hb (by simp; omega)
    have BC := Lib.hid (((Blk.now _ (w.heap.size + 1 + 1) _ _ (by simp)).past _).later hb)
    have bD := ((Blk.now _ (w.heap.size + 1 + 1 + 1) _ _ (by simp)).later hb)
    have cD := fun i => bD.cell i
    clear bD hb
    go_wp2_with fail
    refine (relems_any 1 d.out 1 _ (by decide) (by decide) HO.out).mono ?_
    rintro e w2 ⟨rfl, hb⟩
    rw [T2.out]
    have g2 := below_call g1 hb g1.size
    have bC := BC.out.later hb
    have lt2 := g2.size
    have fC := fun i => bC.frozen i
    have cC := fun i => bC.cell i
    clear hb cD
    go_wp2_with fail
    refine ret_cell_tmp rfl (((bC.set_ 0 _).set_ 1 _).set_ 2 _) rfl Try.underlying54 (by kernel_rfl) rfl ⟨?_, by go_grown⟩
    rw [E.out]; rfl
  have t2 : (elems 1 1 d.out == 0) = false := by simpa using c2
  have hE : denseCode h v c d = if ¬ (nw : Int) = d.out * elems h v c ∨ 16384 < nw ∨ ¬ (nb : Int) = d.out then 9 else 0 := by
    unfold denseCode; rw [if_neg (by omega), HNW.out, HNB.out]
  have o1 : 1 ≤ d.out ∧ d.out ≤ 1024 := by
    rw [elems_iff] at c2
    split at c2
    · omega
    · exact absurd rfl c2
  have E := Lib.hid hE
  have HC1 := Lib.hid c1
  clear hE c1 c2 r2
  go_enter Try.func37, Try.ntmps37
  go_wp2_with fail
  refine (relems_any h c v _ H0.out H1.out H2.out).mono ?_
  rintro e w1 ⟨rfl, hb⟩
  have g1 := below_call (B := w.heap.size) (a := w) (by go_grown) hb (by simp; omega)
  have bA := ((((Blk.now _ w.heap.size _ _ rfl).past _).past _).past _).later hb
  have bB := (((Blk.now _ (w.heap.size + 1) _ _ (by simp)).past _).past _).later hb
  have bC := ((Blk.now _ (w.heap.size + 1 + 1) _ _ (by simp)).past _).later hb
  have bD := (Blk.now _ (w.heap.size + 1 + 1 + 1) _ _ (by simp)).later hb
  have BA := Lib.hid bA
  have BB := Lib.hid bB
  have BC := Lib.hid bC
  have BD := Lib.hid bD
  have cD := fun i => bD.cell i
  clear bA bB bC bD hb
  go_wp2_with fail
  refine (relems_any 1 d.out 1 _ (by decide) (by decide) HO.out).mono ?_
  rintro e w2 ⟨rfl, hb⟩
  have g2 := below_call g1 hb g1.size
  have BA := Lib.hid (BA.out.later hb)
  have BB := Lib.hid (BB.out.later hb)
  have BC := Lib.hid (BC.out.later hb)
  have BD := Lib.hid (BD.out.later hb)
  clear hb cD
  go_wp2_with fail
  generalize hm : elems h v c = m at *
  have HM := Lib.hid hm
  clear hm
  have hp : 0 ≤ d.out * m ∧ d.out * m ≤ 1024 * 1024 := ⟨Int.mul_nonneg (by omega) (by omega), Int.mul_le_mul o1.2 r1.2 (by omega) (by omega)⟩
  have hwr : IntKind.i64.wrap (d.out * m) = d.out * m := IntWalk.i64_in _ (by omega)
  have cA : ∀ (x : Ext w2) (i : Nat), x.1.cell? ⟨w.heap.size, i, none⟩ = (#[.int .i64 h, .int .i64 v, .int .i64 c] : Array Value)[i]? := fun x i => (BA.out.ext x).cell i
  have cB6 : ∀ x : Ext w2, x.1.cell? ⟨w.heap.size + 1, 6, none⟩ = some (.int .i64 d.out) := fun x => (BB.out.ext x).cell 6
  have cB9 : ∀ x : Ext w2, x.1.cell? ⟨w.heap.size + 1, 9, none⟩ = some (.slice W nw cw) := fun x => (BB.out.ext x).cell 9
  have cB10 : ∀ x : Ext w2, x.1.cell? ⟨w.heap.size + 1, 10, none⟩ = some (.slice B nb cb) := fun x => (BB.out.ext x).cell 10
  have E1 := Lib.hid (fun x : Ext w2 => calls_ext x (relems_any h c v _ H0.out H1.out H2.out))
  rw [HM.out] at E1
  have t3 : ((nw : Int) != d.out * m) = true ∧ denseCode h v c d = 9 ∨ ((nw : Int) != d.out * m) = false ∧ (decide ((16384 : Int) < (nw : Int)) = true ∧ denseCode h v c d = 9 ∨
      decide ((16384 : Int) < (nw : Int)) = false ∧ (((nb : Int) != d.out) = true ∧ denseCode h v c d = 9 ∨ ((nb : Int) != d.out) = false ∧ denseCode h v c d = 0)) := by
    rw [E.out]
    by_cases c3 : (nw : Int) = d.out * m
    · refine .inr ⟨by simp [c3], ?_⟩
      by_cases c4 : 16384 < nw
      · exact .inl ⟨by simp; omega, by rw [if_pos (.inr (.inl c4))]⟩
      · refine .inr ⟨by simp; omega, ?_⟩
        by_cases c5 : (nb : Int) = d.out
        · exact .inr ⟨by simp [c5], by rw [if_neg (by omega)]⟩
        · exact .inl ⟨by rw [bne_iff_ne]; exact c5, by rw [if_pos (.inr (.inr c5))]⟩
    · exact .inl ⟨by rw [bne_iff_ne]; exact c3, by rw [if_pos (.inl c3)]⟩
  clear E
  rcases t3 with ⟨t3, e⟩ | ⟨t3, ⟨t4, e⟩ | ⟨t4, ⟨t5, e⟩ | ⟨t5, e⟩⟩⟩
  all_goals
    have E := Lib.hid e
    clear e
    refine wp_region_ext w2 (by kernel_rfl) (by kernel_rfl) (Below.refl _ _) ?_
    repeat (go_big_quiet_step ((exact E1.out _)))
    refine wpQuiet_nil ?_
    rintro _ ⟨⟨w3, hB⟩, rfl⟩
    have g3 := below_call g2 hB g2.size
    have lt3 := g3.size
    have bC := BC.out.later hB
    have bD := BD.out.later hB
    have fC := fun i => bC.frozen i
    have cC := fun i => bC.cell i
    have cD := fun i => bD.cell i
    clear hB
    go_wp2_with fail
    refine ret_cell_tmp rfl (((bC.set_ 0 _).set_ 1 _).set_ 2 _) rfl Try.underlying54 (by kernel_rfl) rfl ⟨?_, by go_grown⟩
    rw [E.out]; rfl

end Go.Proofs.Ytlhnapjglebacaa
