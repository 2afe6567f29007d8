/-
  The shapes of all values (layer 27): the document's Shapes.
  Conditions: at most 1000 weights and 100 biases a node.
-/
import Derived.Test.YtlpejbopdmledaaChecked
import Derived.Test.YtlpejbopdmledaaJ28
import Derived.Test.YtlpejbopdmledaaJ34
import Derived.Deep.DeepCutAuto
import Derived.Deep.CutRange
import Derived.Deep.CutBlock
namespace Go.Proofs.Ytlpejbopdmledaa
set_option linter.unusedVariables false
set_option linter.unusedSimpArgs false
open Go.RowKit Go.ChangeShapes Go.WideShapes
set_option maxRecDepth 100000

set_option maxHeartbeats 16000000 in
theorem rshapes_any (A : Option Addr) (n cap : Nat) (l : List Node) (h v c : Int) (w : World) (hs : Sl tNode w (blo w.heap.size) A n cap l) (i0 : InK .i64 h) (i1 : InK .i64 v) (i2 : InK .i64 c) (hf : ∀ d ∈ l, d.w.length ≤ 1000 ∧ d.bias.length ≤ 100) :
    Calls Try.prog 9 #[.slice A n cap, .agg #[.int .i64 h, .int .i64 v, .int .i64 c]] w (RetShapes (shapesV l (h, v, c)) w) := by
  have hn := hs.n_eq
  obtain ⟨r, hr⟩ : ∃ r, shapesV l (h, v, c) = r := ⟨_, rfl⟩
  rw [hr]
  unfold shapesV at hr
  simp only [hn] at hr
  have RI := Lib.hid (fun w => relems_any h c v w i0 i1 i2)
  have m0 := (elems_range h v c).1
  have GS := Lib.hid (GoodS.of (h := h) (v := v) (c := c))
  obtain ⟨m, hm⟩ : ∃ m, elems h v c = m := ⟨_, rfl⟩
  rw [hm] at hr RI m0 GS
  have VV := Lib.hid hr.symm
  have H := Lib.hid hs
  have HF := Lib.hid hf
  have hmax : n ≤ 9223372036854775807 := Nat.le_trans hs.cap_le hs.max_le
  clear hr hm hs hf i0 i1 i2 hn
  have FR := Lib.hid (Far.refl w)
  obtain ⟨w1, hw_w1⟩ : ∃ nw_, w.alloc (.cells #[.int .i64 h, .int .i64 v, .int .i64 c] 24) = nw_ := ⟨_, rfl⟩
  have k_w1 : Below w.heap.size w w1 := by rw [← hw_w1]; exact (Below.refl _ _).alloc (Nat.le_refl _) _
  replace FR := Lib.hid (FR.out.fut k_w1)
  have BA := Lib.hid (show Blk w1 w.heap.size 24 #[.int .i64 h, .int .i64 v, .int .i64 c] by rw [← hw_w1]; exact Blk.now _ _ _ _ rfl)
  clear k_w1
  have l1 : w.heap.size < w1.heap.size := by rw [← hw_w1]; simp
  by_cases c1 : m = 0
  · have t1 : (m == 0) = true := by simp [c1]
    have R := Lib.hid (show r = ([], -1, 5) by rw [VV.out, if_pos c1])
    clear c1 VV
    go_enter Try.func9, Try.ntmps9
    go_wp2_with (refine wpList_load_row rfl 24 (.tmp 3) rfl w.heap.size rfl _ _ (0, 0) _ BA.out.heap Try.underlying24 rfl (by kernel_rfl) ?_)
    clear hw_w1
    refine (RI.out _).mono ?_
    rintro e w2 ⟨rfl, hb⟩
    replace FR := Lib.hid (FR.out.fut hb)
    replace BA := Lib.hid (BA.out.fut hb)
    clear hb
    go_wp2_with fail
    go_ret3
    rw [R.out]
    exact RetShapes.none FR.out.out
  have t1 : (m == 0) = false := by simpa using c1
  have good := Lib.hid (GS.out c1)
  by_cases c2 : n = 0
  · have t2 : ((n : Int) == 0) = true := by simp; omega
    have R := Lib.hid (show r = ([], -1, 12) by rw [VV.out, if_neg c1, if_pos c2])
    clear c1 c2 VV
    go_enter Try.func9, Try.ntmps9
    go_wp2_with (refine wpList_load_row rfl 24 (.tmp 3) rfl w.heap.size rfl _ _ (0, 0) _ BA.out.heap Try.underlying24 rfl (by kernel_rfl) ?_)
    clear hw_w1
    refine (RI.out _).mono ?_
    rintro e w2 ⟨rfl, hb⟩
    replace FR := Lib.hid (FR.out.fut hb)
    replace BA := Lib.hid (BA.out.fut hb)
    clear hb
    go_wp2_with fail
    go_ret3
    rw [R.out]
    exact RetShapes.none FR.out.out
  have t2 : ((n : Int) == 0) = false := by simp; omega
  by_cases c3 : 8 < n
  · have t3 : decide (8 < (n : Int)) = true := by simp; omega
    have R := Lib.hid (show r = ([], -1, 4) by rw [VV.out, if_neg c1, if_neg c2, if_pos c3])
    clear c1 c2 c3 VV
    go_enter Try.func9, Try.ntmps9
    go_wp2_with (refine wpList_load_row rfl 24 (.tmp 3) rfl w.heap.size rfl _ _ (0, 0) _ BA.out.heap Try.underlying24 rfl (by kernel_rfl) ?_)
    clear hw_w1
    refine (RI.out _).mono ?_
    rintro e w2 ⟨rfl, hb⟩
    replace FR := Lib.hid (FR.out.fut hb)
    replace BA := Lib.hid (BA.out.fut hb)
    clear hb
    go_wp2_with fail
    go_ret3
    rw [R.out]
    exact RetShapes.none FR.out.out
  have t3 : decide (8 < (n : Int)) = false := by simp; omega
  have hn8 : n ≤ 8 := by omega
  have V2 := Lib.hid (show r = endS n (runS l (h, v, c) n) by rw [VV.out, if_neg c1, if_neg c2, if_neg c3])
  clear c1 c2 c3 VV GS
  go_enter Try.func9, Try.ntmps9
  go_wp2_with (refine wpList_load_row rfl 24 (.tmp 3) rfl w.heap.size rfl _ _ (0, 0) _ BA.out.heap Try.underlying24 rfl (by kernel_rfl) ?_)
  clear hw_w1
  refine (RI.out _).mono ?_
  rintro e w2 ⟨rfl, hb⟩
  replace FR := Lib.hid (FR.out.fut hb)
  replace BA := Lib.hid (BA.out.fut hb)
  clear hb
  clear RI
  go_wp2_with (first
    | (refine wpList_load_row rfl 24 (.tmp 3) rfl w.heap.size rfl _ _ (0, 0) _ BA.out.heap Try.underlying24 rfl (by kernel_rfl) ?_)
    | (refine wpList_lit1 rfl (.tmp 22) rfl ei_shape #[.int .i64 h, .int .i64 v, .int .i64 c] rfl rfl (by decide) ?_))
  have z2 := FR.out.size
  go_loopw [7, 8] (fun u i wr => ∃ (k : Nat) (out : List Sh3), k ≤ n ∧ i = .int .i64 k ∧ runS l (h, v, c) k = .on out ∧ Own tShape wr (fun _ => False) w.heap.size 24 u (k + 1) out ∧ Below w.heap.size w wr) (fun _ i _ => n - (intOf i).toNat)
  case atStart => exact ⟨0, [(h, v, c)], Nat.zero_le _, rfl, rfl, Own.one z2 good.out.rep, FR.out.out.alloc z2 _⟩
  case round =>
    clear FR BA z2 t1 t2 t3
    obtain ⟨k, out, hk, rfl, hrun, hown, hb⟩ := hrel
    have HB := Lib.hid hb
    have ON := Lib.hid hown
    have HR := Lib.hid hrun
    obtain ⟨A1, c1, rfl, sl⟩ := hown.sl (S' := bin w.heap.size wr.heap.size) (by decide) (fun b h1 h2 => ⟨h1, h2⟩) (fun _ h => h.elim)
    have SL := Lib.hid sl
    clear hb hown hrun sl
    by_cases hlt : k < n
    · have p1 : (k : Int) < (n : Int) := by omega
      obtain ⟨d, b0, off, W, nw, cw, B, nb, cb, hd, rfl, _, _, hin, hw8, hw32, hrg⟩ := (H.out.below HB.out (fun _ h => h)).node_at k hlt
      have hsz := HF.out d (List.mem_of_getElem? hd)
      have hnx := runS_next HR.out hd
      have q8 := hw8.n_eq
      have q32 := hw32.n_eq
      have RG := Lib.hid hrg
      have HIN := Lib.hid hin
      have HW := Lib.hid (hw8.more (blo_more HB.out.size))
      have HW32 := Lib.hid (hw32.more (blo_more HB.out.size))
      have NX := Lib.hid hnx
      have HSZ := Lib.hid hsz
      have Q8 := Lib.hid q8
      have Q32 := Lib.hid q32
      have CK := Lib.hid (fun (w' : World) (hb' : Below wr.heap.size wr w') => rcheck_any d W nw cw B nb cb w' (HW.out.later hb' (Nat.le_refl _)) (HW32.out.later hb' (Nat.le_refl _)) (by omega) (by omega))
      have TH := Lib.hid (fun w => rthere_any d W nw cw B nb cb ((k + 1 : Nat) : Int) w)
      have SE := Lib.hid (fun w => second_any d W nw cw B nb cb w)
      have KD := Lib.hid (check_kind (d := d))
      have TB := Lib.hid (there_bd (d := d) (n := ((k + 1 : Nat) : Int)))
      have hol := SL.out.n_eq
      have NV := Lib.hid (show nextV d out = _ from rfl)
      have NV' := NV.out
      have NG := Lib.hid (nextV_good (d := d) (l := out))
      obtain ⟨nx, hnxx⟩ : ∃ x, nextV d out = x := ⟨_, rfl⟩
      have NE := Lib.hid hnxx
      unfold nextV at hnxx
      rw [hol] at hnxx
      obtain ⟨ck, hck⟩ : ∃ x, checkV d = x := ⟨_, rfl⟩
      obtain ⟨th, hth⟩ : ∃ x, thereV d ((k + 1 : Nat) : Int) = x := ⟨_, rfl⟩
      rw [hck] at CK KD hnxx
      rw [hth] at TH TB hnxx
      have VV := Lib.hid hnxx.symm
      clear hd hin hw8 hw32 hrg hnx hnxx hck hth hsz q8 q32 NV NV' hol
      have zr := HB.out.size
      have front : True := trivial
      clear front
      by_cases e1 : ck = 0
      rotate_left
      · have t4 : (ck != 0) = true := by simpa using e1
        have RX := Lib.hid (show nx = noS ck by rw [VV.out, if_pos e1])
        have R := Lib.hid (show r = ([], (k : Int), ck) by
          have := NX.out
          rw [NE.out, RX.out, if_pos (by exact e1)] at this
          rw [V2.out, runS_bad this n (by omega)]; rfl)
        clear e1 VV V2 NX NE NG RX
        go_wp2_with (first
          | (refine wpList_load_mid rfl 53 (.tmp 32) rfl b0 (off + k * 19) rfl _ _ RG.out Try.underlying53 rfl (by kernel_rfl) ?_)
          | (refine wpList_store_all rfl 53 (.tmp 9) (.tmp 33) rfl wr.heap.size #[.int .i64 d.kind, .int .i64 d.a, .int .i64 d.b, .int .i64 d.k, .int .i64 d.s, .int .i64 d.p, .int .i64 d.out, .int .i8 d.za, .int .i8 d.zb, .slice W nw cw, .slice B nb cb, .int .i32 d.qm, .int .i64 d.qs, .int .i8 d.qz, .int .i32 d.rm, .int .i64 d.rs, .int .i8 d.rz, .int .i8 d.lo, .int .i8 d.hi] rfl rfl _ _ (Blk.now _ _ _ _ rfl) rfl (by kernel_rfl) (by simp [Value.oneCell']) ?_; intro w7 B7 g7; have G7 := Lib.hid (show Below wr.heap.size wr w7 from ((Below.refl _ _).alloc (Nat.le_refl _) _).grown g7 (by simp) (fun k h => by have := Option.some.inj h; omega)); have BD := Lib.hid B7; clear B7 g7)
          | (refine wpList_load_row rfl 53 (.tmp 9) rfl wr.heap.size rfl _ _ (0, 0) _ BD.out.heap Try.underlying53 rfl (by kernel_rfl) ?_))
        refine (CK.out _ G7.out).mono ?_
        rintro e w8 ⟨rfl, hb⟩
        have G8 := Lib.hid (below_later hb G7.out)
        clear hb
        go_wp2_with fail
        go_ret3
        rw [R.out]
        exact RetShapes.none (below_later G8.out HB.out)
      subst e1
      have t4 : ((0 : Int) != 0) = false := rfl
      cases th with
      | false =>
        have RX := Lib.hid (show nx = noS 8 by rw [VV.out, if_neg (by decide), if_pos rfl])
        have R := Lib.hid (show r = ([], (k : Int), 8) by
          have := NX.out
          rw [NE.out, RX.out, if_pos (by decide)] at this
          rw [V2.out, runS_bad this n (by omega)]; rfl)
        clear VV V2 NX NE NG RX
        go_wp2_with (first
          | (refine wpList_load_mid rfl 53 (.tmp 32) rfl b0 (off + k * 19) rfl _ _ RG.out Try.underlying53 rfl (by kernel_rfl) ?_)
          | (refine wpList_store_all rfl 53 (.tmp 9) (.tmp 33) rfl wr.heap.size #[.int .i64 d.kind, .int .i64 d.a, .int .i64 d.b, .int .i64 d.k, .int .i64 d.s, .int .i64 d.p, .int .i64 d.out, .int .i8 d.za, .int .i8 d.zb, .slice W nw cw, .slice B nb cb, .int .i32 d.qm, .int .i64 d.qs, .int .i8 d.qz, .int .i32 d.rm, .int .i64 d.rs, .int .i8 d.rz, .int .i8 d.lo, .int .i8 d.hi] rfl rfl _ _ (Blk.now _ _ _ _ rfl) rfl (by kernel_rfl) (by simp [Value.oneCell']) ?_; intro w7 B7 g7; have G7 := Lib.hid (show Below wr.heap.size wr w7 from ((Below.refl _ _).alloc (Nat.le_refl _) _).grown g7 (by simp) (fun k h => by have := Option.some.inj h; omega)); have BD := Lib.hid B7; clear B7 g7)
          | (refine wpList_load_row rfl 53 (.tmp 9) rfl wr.heap.size rfl _ _ (0, 0) _ BD.out.heap Try.underlying53 rfl (by kernel_rfl) ?_))
        refine (CK.out _ G7.out).mono ?_
        rintro e w8 ⟨rfl, hb⟩
        have G8 := Lib.hid (below_later hb G7.out)
        replace BD := Lib.hid (BD.out.fut hb)
        clear hb
        go_wp2_with (refine wpList_load_row rfl 53 (.tmp 9) rfl wr.heap.size rfl _ _ (0, 0) _ BD.out.heap Try.underlying53 rfl (by kernel_rfl) ?_)
        refine (TH.out _).mono ?_
        rintro e w9 ⟨rfl, hb⟩
        replace G8 := Lib.hid (below_later hb G8.out)
        clear hb
        go_wp2_with fail
        go_ret3
        rw [R.out]
        exact RetShapes.none (below_later G8.out HB.out)
      | true =>
        obtain ⟨u1, u2, u3, u4⟩ := TB.out rfl
        have hk9 := KD.out rfl
        obtain ⟨ia, hia⟩ : ∃ ia, d.a.toNat = ia := ⟨_, rfl⟩
        obtain ⟨ib, hib⟩ : ∃ ib, (secondV d).toNat = ib := ⟨_, rfl⟩
        obtain ⟨g0, go0, rfl, _, _, k1, k2, k3, _, q1⟩ := SL.out.shape_at ia (by omega)
        obtain ⟨g0', go0', e0, _, _, k4, k5, k6, _, q2⟩ := SL.out.shape_at ib (by omega)
        obtain ⟨rfl, rfl⟩ : g0 = g0' ∧ go0 = go0' := by simpa using e0
        have V3 := Lib.hid (show nx = shapeV (out.getD ia (0, 0, 0)).1 (out.getD ia (0, 0, 0)).2.1 (out.getD ia (0, 0, 0)).2.2 (out.getD ib (0, 0, 0)).1 (out.getD ib (0, 0, 0)).2.1 (out.getD ib (0, 0, 0)).2.2 d by rw [VV.out, if_neg (by decide), if_neg (by decide), hia, hib])
        obtain ⟨⟨x, y, z⟩, hx⟩ : ∃ s, out.getD ia (0, 0, 0) = s := ⟨_, rfl⟩
        obtain ⟨⟨x', y', z'⟩, hx'⟩ : ∃ s, out.getD ib (0, 0, 0) = s := ⟨_, rfl⟩
        rw [hx] at q1 k1 k2 k3 V3
        rw [hx'] at q2 k4 k5 k6 V3
        simp only at q1 q2 k1 k2 k3 k4 k5 k6 V3
        have Q1 := Lib.hid q1
        have Q2 := Lib.hid q2
        obtain ⟨sc, hsc⟩ : ∃ s, secondV d = s := ⟨_, rfl⟩
        rw [hsc] at u3 u4 SE hib
        have KS := Lib.hid (fun w => rkshape_any x y z x' y' z' d W nw cw B nb cb w k1 k2 k3 HIN.out.out HIN.out.p Q8.out.symm Q32.out.symm (by have := HSZ.out; have := Q8.out; omega) (by have := HSZ.out; have := Q32.out; omega) hk9)
        obtain ⟨⟨⟨x1, x2, x3⟩, xe⟩, hxx⟩ : ∃ s, shapeV x y z x' y' z' d = s := ⟨_, rfl⟩
        rw [hxx] at KS V3
        simp only [retS] at KS
        have NX2 := NX.out
        rw [NE.out] at NG NX2
        rw [V3.out] at NG NX2
        simp only at NX2
        replace NX := Lib.hid NX2
        clear NX2 NE V3 VV hx hx' hxx hsc k1 k2 k3 k4 k5 k6 q1 q2 e0 hk9 KD TB HIN
        have y2 : d.a < (k : Int) + 1 := by omega
        have y4 : sc < (k : Int) + 1 := by omega
        clear u2 u4
        go_wp2_with (first
          | (refine wpList_load_mid rfl 53 (.tmp 32) rfl b0 (off + k * 19) rfl _ _ RG.out Try.underlying53 rfl (by kernel_rfl) ?_)
          | (refine wpList_store_all rfl 53 (.tmp 9) (.tmp 33) rfl wr.heap.size #[.int .i64 d.kind, .int .i64 d.a, .int .i64 d.b, .int .i64 d.k, .int .i64 d.s, .int .i64 d.p, .int .i64 d.out, .int .i8 d.za, .int .i8 d.zb, .slice W nw cw, .slice B nb cb, .int .i32 d.qm, .int .i64 d.qs, .int .i8 d.qz, .int .i32 d.rm, .int .i64 d.rs, .int .i8 d.rz, .int .i8 d.lo, .int .i8 d.hi] rfl rfl _ _ (Blk.now _ _ _ _ rfl) rfl (by kernel_rfl) (by simp [Value.oneCell']) ?_; intro w7 B7 g7; have G7 := Lib.hid (show Below wr.heap.size wr w7 from ((Below.refl _ _).alloc (Nat.le_refl _) _).grown g7 (by simp) (fun k h => by have := Option.some.inj h; omega)); have BD := Lib.hid B7; clear B7 g7)
          | (refine wpList_load_row rfl 53 (.tmp 9) rfl wr.heap.size rfl _ _ (0, 0) _ BD.out.heap Try.underlying53 rfl (by kernel_rfl) ?_))
        refine (CK.out _ G7.out).mono ?_
        rintro e w8 ⟨rfl, hb⟩
        have G8 := Lib.hid (below_later hb G7.out)
        replace BD := Lib.hid (BD.out.fut hb)
        clear hb
        go_wp2_with (refine wpList_load_row rfl 53 (.tmp 9) rfl wr.heap.size rfl _ _ (0, 0) _ BD.out.heap Try.underlying53 rfl (by kernel_rfl) ?_)
        refine (TH.out _).mono ?_
        rintro e w9 ⟨rfl, hb⟩
        replace G8 := Lib.hid (below_later hb G8.out)
        replace BD := Lib.hid (BD.out.fut hb)
        clear hb CK TH
        have zg := G8.out.size
        go_upto_region 17 with (fail)
        go_cut [11, 12] (fun b c wx => ∃ g, b = .pointer (some ⟨g, 0, none⟩) ∧ c = .int .i64 xe ∧ Blk wx g 24 #[.int .i64 x1, .int .i64 x2, .int .i64 x3] ∧ Below wr.heap.size wr wx)
        case first =>
          refine wp_region_held_drew (S := fun w' => w'.cell? ⟨wr.heap.size, 1, none⟩ = some (.int .i64 d.a) ∧ Blk w' wr.heap.size 53 #[.int .i64 d.kind, .int .i64 d.a, .int .i64 d.b, .int .i64 d.k, .int .i64 d.s, .int .i64 d.p, .int .i64 d.out, .int .i8 d.za, .int .i8 d.zb, .slice W nw cw, .slice B nb cb, .int .i32 d.qm, .int .i64 d.qs, .int .i8 d.qz, .int .i32 d.rm, .int .i64 d.rs, .int .i8 d.rz, .int .i8 d.lo, .int .i8 d.hi] ∧ Below wr.heap.size wr w') (by kernel_rfl) ?_ (fun hS => ?_)
          · exact ⟨BD.out.drew.cell 1, BD.out.drew, G8.out.drew⟩
          refine wpAnyH_take (i := 0) rfl (by as_aux_lemma => kernel_rfl) (by as_aux_lemma => kernel_rfl) (by as_aux_lemma => kernel_rfl) (fun _ _ _ h => h) (yieldsIf_load_blk (by rfl) 53 (.tmp 9) rfl wr.heap.size 0 rfl _ _ #[.int .i64 d.kind, .int .i64 d.a, .int .i64 d.b, .int .i64 d.k, .int .i64 d.s, .int .i64 d.p, .int .i64 d.out, .int .i8 d.za, .int .i8 d.zb, .slice W nw cw, .slice B nb cb, .int .i32 d.qm, .int .i64 d.qs, .int .i8 d.qz, .int .i32 d.rm, .int .i64 d.rs, .int .i8 d.rz, .int .i8 d.lo, .int .i8 d.hi] _ (fun w hs => hs.2.1) Try.underlying53 rfl (by kernel_rfl) rfl) hS ?_
          try simp only [Act.put, List.getElem_toArray, List.getElem_cons_succ, List.getElem_cons_zero, List.setIfInBounds_toArray, List.set_cons_zero, List.set_cons_succ]
          refine wpAnyH_take (i := 1) (v := ?_) rfl (by as_aux_lemma => kernel_rfl) (by as_aux_lemma => kernel_rfl) (by as_aux_lemma => kernel_rfl) (fun _ _ _ h => h) (Or.inl ⟨by rfl, ?_⟩) hS ?_
          rotate_left
          · intro w hSw; (try dsimp only at hSw); go_simp; try with_reducible rfl
          try simp only [Act.put, List.getElem_toArray, List.getElem_cons_succ, List.getElem_cons_zero, List.setIfInBounds_toArray, List.set_cons_zero, List.set_cons_succ]
          refine wpAnyH_take (i := 2) (v := ?_) rfl (by as_aux_lemma => kernel_rfl) (by as_aux_lemma => kernel_rfl) (by as_aux_lemma => kernel_rfl) (fun _ _ _ h => h) (Or.inl ⟨by rfl, ?_⟩) hS ?_
          rotate_left
          · intro w hSw; (try dsimp only at hSw); go_simp; try with_reducible rfl
          try simp only [Act.put, List.getElem_toArray, List.getElem_cons_succ, List.getElem_cons_zero, List.setIfInBounds_toArray, List.set_cons_zero, List.set_cons_succ]
          refine wpAnyH_take (i := 3) (v := ?_) rfl (by as_aux_lemma => kernel_rfl) (by as_aux_lemma => kernel_rfl) (by as_aux_lemma => kernel_rfl) (fun _ _ _ h => h) (Or.inl ⟨by rfl, ?_⟩) hS ?_
          rotate_left
          · intro w hSw; (try dsimp only at hSw); go_simp; try with_reducible rfl
          try simp only [Act.put, List.getElem_toArray, List.getElem_cons_succ, List.getElem_cons_zero, List.setIfInBounds_toArray, List.set_cons_zero, List.set_cons_succ]
          refine wpAnyH_take (i := 4) (v := ?_) rfl (by as_aux_lemma => kernel_rfl) (by as_aux_lemma => kernel_rfl) (by as_aux_lemma => kernel_rfl) (fun _ _ _ h => h) (Or.inl ⟨by rfl, ?_⟩) hS ?_
          rotate_left
          · intro w hSw; (try dsimp only at hSw); go_simp; try with_reducible rfl
          try simp only [Act.put, List.getElem_toArray, List.getElem_cons_succ, List.getElem_cons_zero, List.setIfInBounds_toArray, List.set_cons_zero, List.set_cons_succ]
          refine wpAnyH_take (i := 5) rfl (by as_aux_lemma => kernel_rfl) (by as_aux_lemma => kernel_rfl) (by as_aux_lemma => kernel_rfl) (fun _ _ _ h => h) (yieldsIf_load_mid (by rfl) 24 (.tmp 51) rfl g0 (go0 + ia * 3) (by rw [← hia]; rfl) _ _ (fun w hs j v hv => cell_later hs.2.2 (Q1.out j v hv)) Try.underlying24 rfl (by kernel_rfl)) hS ?_
          try simp only [Act.put, List.getElem_toArray, List.getElem_cons_succ, List.getElem_cons_zero, List.setIfInBounds_toArray, List.set_cons_zero, List.set_cons_succ]
          refine wpAnyH_take (i := 6) (v := ?_) rfl (by as_aux_lemma => kernel_rfl) (by as_aux_lemma => kernel_rfl) (by as_aux_lemma => kernel_rfl) (fun _ _ _ h => h) (Or.inl ⟨by rfl, ?_⟩) hS ?_
          rotate_left
          · intro w hSw; (try dsimp only at hSw); go_simp; try with_reducible rfl
          try simp only [Act.put, List.getElem_toArray, List.getElem_cons_succ, List.getElem_cons_zero, List.setIfInBounds_toArray, List.set_cons_zero, List.set_cons_succ]
          refine wpAnyH_take (i := 7) rfl (by as_aux_lemma => kernel_rfl) (by as_aux_lemma => kernel_rfl) (by as_aux_lemma => kernel_rfl) (fun _ _ _ h => h) (yieldsIf_load_blk (by rfl) 53 (.tmp 9) rfl wr.heap.size 0 rfl _ _ #[.int .i64 d.kind, .int .i64 d.a, .int .i64 d.b, .int .i64 d.k, .int .i64 d.s, .int .i64 d.p, .int .i64 d.out, .int .i8 d.za, .int .i8 d.zb, .slice W nw cw, .slice B nb cb, .int .i32 d.qm, .int .i64 d.qs, .int .i8 d.qz, .int .i32 d.rm, .int .i64 d.rs, .int .i8 d.rz, .int .i8 d.lo, .int .i8 d.hi] _ (fun w hs => hs.2.1) Try.underlying53 rfl (by kernel_rfl) rfl) hS ?_
          try simp only [Act.put, List.getElem_toArray, List.getElem_cons_succ, List.getElem_cons_zero, List.setIfInBounds_toArray, List.set_cons_zero, List.set_cons_succ]
          refine wpAnyH_ready (rs := [8, 15]) (by kernel_rfl) (by simp) ?_
          refine AllReadyH.cons rfl (fun K hK => ?_) (AllReadyH.cons rfl (fun K hK => ?_) AllReadyH.nil)
          · go_simp
            refine (SE.out _).mono ?_
            rintro e wa ⟨rfl, hb⟩
            refine hK.out _ _ ?_ (fun hS => ?_)
            · exact ⟨cell_later hb hS.1, Blk.later hS.2.1 hb, below_later hb hS.2.2⟩
            clear hK K
            try simp only [Act.put, List.getElem_toArray, List.getElem_cons_succ, List.getElem_cons_zero, List.setIfInBounds_toArray, List.set_cons_zero, List.set_cons_succ]
            refine wpAnyH_take (i := 9) (v := ?_) rfl (by as_aux_lemma => kernel_rfl) (by as_aux_lemma => kernel_rfl) (by as_aux_lemma => kernel_rfl) (fun _ _ _ h => h) (Or.inl ⟨by rfl, ?_⟩) hS ?_
            rotate_left
            · intro w hSw; (try dsimp only at hSw); go_simp; try with_reducible rfl
            try simp only [Act.put, List.getElem_toArray, List.getElem_cons_succ, List.getElem_cons_zero, List.setIfInBounds_toArray, List.set_cons_zero, List.set_cons_succ]
            refine wpAnyH_take (i := 10) rfl (by as_aux_lemma => kernel_rfl) (by as_aux_lemma => kernel_rfl) (by as_aux_lemma => kernel_rfl) (fun _ _ _ h => h) (yieldsIf_load_mid (by rfl) 24 (.tmp 56) rfl g0 (go0 + ib * 3) (by rw [← hib]; rfl) _ _ (fun w hs j v hv => cell_later hs.2.2 (Q2.out j v hv)) Try.underlying24 rfl (by kernel_rfl)) hS ?_
            try simp only [Act.put, List.getElem_toArray, List.getElem_cons_succ, List.getElem_cons_zero, List.setIfInBounds_toArray, List.set_cons_zero, List.set_cons_succ]
            refine wpAnyH_ready (rs := [11, 15]) (by kernel_rfl) (by simp) ?_
            refine AllReadyH.cons rfl (fun K hK => ?_) (AllReadyH.cons rfl (fun K hK => ?_) AllReadyH.nil)
            · go_simp
              refine (KS.out _).mono ?_
              rintro e wb ⟨rfl, hb⟩
              refine hK.out _ _ ?_ (fun hS => ?_)
              · exact ⟨cell_later hb hS.1, Blk.later hS.2.1 hb, below_later hb hS.2.2⟩
              clear hK K
              try simp only [Act.put, List.getElem_toArray, List.getElem_cons_succ, List.getElem_cons_zero, List.setIfInBounds_toArray, List.set_cons_zero, List.set_cons_succ]
              refine wpAnyH_take (i := 12) (v := ?_) rfl (by as_aux_lemma => kernel_rfl) (by as_aux_lemma => kernel_rfl) (by as_aux_lemma => kernel_rfl) (fun _ _ _ h => h) (Or.inl ⟨by rfl, ?_⟩) hS ?_
              rotate_left
              · intro w hSw; (try dsimp only at hSw); go_simp; try with_reducible rfl
              try simp only [Act.put, List.getElem_toArray, List.getElem_cons_succ, List.getElem_cons_zero, List.setIfInBounds_toArray, List.set_cons_zero, List.set_cons_succ]
              refine wpAnyH_take (i := 13) (v := ?_) rfl (by as_aux_lemma => kernel_rfl) (by as_aux_lemma => kernel_rfl) (by as_aux_lemma => kernel_rfl) (fun _ _ _ h => h) (Or.inl ⟨by rfl, ?_⟩) hS ?_
              rotate_left
              · intro w hSw; (try dsimp only at hSw); go_simp; try with_reducible rfl
              try simp only [Act.put, List.getElem_toArray, List.getElem_cons_succ, List.getElem_cons_zero, List.setIfInBounds_toArray, List.set_cons_zero, List.set_cons_succ]
              refine wpAnyH_take (i := 14) (v := ?_) rfl (by as_aux_lemma => kernel_rfl) (by as_aux_lemma => kernel_rfl) (by as_aux_lemma => kernel_rfl) (fun _ _ _ h => h) (Or.inl ⟨by rfl, ?_⟩) hS ?_
              rotate_left
              · intro w hSw; (try dsimp only at hSw); go_simp; try with_reducible rfl
              try simp only [Act.put, List.getElem_toArray, List.getElem_cons_succ, List.getElem_cons_zero, List.setIfInBounds_toArray, List.set_cons_zero, List.set_cons_succ]
              refine wpAnyH_ready (rs := [15]) (by kernel_rfl) (by simp) ?_
              refine AllReadyH.cons rfl (fun K hK => ?_) AllReadyH.nil
              go_simp
              have zlt : wr.heap.size < wb.heap.size := hS.2.1.lt
              have hb : Below wb.heap.size wb (wb.alloc (.cells #[.int .i64 0, .int .i64 0, .int .i64 0] 24)) := (Below.refl _ _).alloc (Nat.le_refl _) _
              have BZ := Lib.hid (Blk.now wb wb.heap.size 24 #[.int .i64 0, .int .i64 0, .int .i64 0] rfl)
              refine hK.out _ _ ?_ (fun hS => ?_)
              · exact ⟨cell_later hb hS.1, Blk.later hS.2.1 hb, below_later hb hS.2.2⟩
              clear hK K
              try simp only [Act.put, List.getElem_toArray, List.getElem_cons_succ, List.getElem_cons_zero, List.setIfInBounds_toArray, List.set_cons_zero, List.set_cons_succ]
              refine wpAnyH_ready (rs := [16]) (by kernel_rfl) (by simp) ?_
              refine AllReadyH.cons rfl (fun K hK => ?_) AllReadyH.nil
              rw [if_pos (by rfl)]
              refine oper_store_blk 24 (.tmp 11) (.tmp 59) rfl wb.heap.size 0 #[.int .i64 x1, .int .i64 x2, .int .i64 x3] rfl rfl _ #[.int .i64 0, .int .i64 0, .int .i64 0] #[.int .i64 x1, .int .i64 x2, .int .i64 x3] BZ.out (by simp) (by kernel_rfl) (by simp [Value.oneCell']) rfl ?_
              intro wc BX gc
              have BDc := hS.2.1.away gc (by omega)
              refine hK.out _ _ ⟨BDc.cell 1, BDc, hS.2.2.grown gc hS.2.2.size (fun k h => by have := Option.some.inj h; omega)⟩ (fun hS => ?_)
              clear hK K
              try simp only [Act.put, List.getElem_toArray, List.getElem_cons_succ, List.getElem_cons_zero, List.setIfInBounds_toArray, List.set_cons_zero, List.set_cons_succ]
              refine wpAnyH_take (i := 17) (v := ?_) rfl (by as_aux_lemma => kernel_rfl) (by as_aux_lemma => kernel_rfl) (by as_aux_lemma => kernel_rfl) (fun _ _ _ h => h) (Or.inl ⟨by rfl, ?_⟩) hS ?_
              rotate_left
              · intro w hSw; (try dsimp only at hSw); go_simp; try with_reducible rfl
              try simp only [Act.put, List.getElem_toArray, List.getElem_cons_succ, List.getElem_cons_zero, List.setIfInBounds_toArray, List.set_cons_zero, List.set_cons_succ]
              refine wpAnyH_done (by kernel_rfl) ?_ _
              have FZ := hS.2.2
              go_wp2_with fail
              go_meet
              case rel => exact ⟨_, rfl, rfl, BX, FZ⟩
            · go_simp
              have zlt : wr.heap.size < wa.heap.size := hS.2.1.lt
              have hb : Below wa.heap.size wa (wa.alloc (.cells #[.int .i64 0, .int .i64 0, .int .i64 0] 24)) := (Below.refl _ _).alloc (Nat.le_refl _) _
              have BZ := Lib.hid (Blk.now wa wa.heap.size 24 #[.int .i64 0, .int .i64 0, .int .i64 0] rfl)
              refine hK.out _ _ ?_ (fun hS => ?_)
              · exact ⟨cell_later hb hS.1, Blk.later hS.2.1 hb, below_later hb hS.2.2⟩
              clear hK K
              try simp only [Act.put, List.getElem_toArray, List.getElem_cons_succ, List.getElem_cons_zero, List.setIfInBounds_toArray, List.set_cons_zero, List.set_cons_succ]
              refine wpAnyH_ready (rs := [11]) (by kernel_rfl) (by simp) ?_
              refine AllReadyH.cons rfl (fun K hK => ?_) AllReadyH.nil
              go_simp
              refine (KS.out _).mono ?_
              rintro e wb ⟨rfl, hb⟩
              replace BZ := Lib.hid (BZ.out.later hb)
              refine hK.out _ _ ?_ (fun hS => ?_)
              · exact ⟨cell_later hb hS.1, Blk.later hS.2.1 hb, below_later hb hS.2.2⟩
              clear hK K
              try simp only [Act.put, List.getElem_toArray, List.getElem_cons_succ, List.getElem_cons_zero, List.setIfInBounds_toArray, List.set_cons_zero, List.set_cons_succ]
              refine wpAnyH_take (i := 12) (v := ?_) rfl (by as_aux_lemma => kernel_rfl) (by as_aux_lemma => kernel_rfl) (by as_aux_lemma => kernel_rfl) (fun _ _ _ h => h) (Or.inl ⟨by rfl, ?_⟩) hS ?_
              rotate_left
              · intro w hSw; (try dsimp only at hSw); go_simp; try with_reducible rfl
              try simp only [Act.put, List.getElem_toArray, List.getElem_cons_succ, List.getElem_cons_zero, List.setIfInBounds_toArray, List.set_cons_zero, List.set_cons_succ]
              refine wpAnyH_take (i := 13) (v := ?_) rfl (by as_aux_lemma => kernel_rfl) (by as_aux_lemma => kernel_rfl) (by as_aux_lemma => kernel_rfl) (fun _ _ _ h => h) (Or.inl ⟨by rfl, ?_⟩) hS ?_
              rotate_left
              · intro w hSw; (try dsimp only at hSw); go_simp; try with_reducible rfl
              try simp only [Act.put, List.getElem_toArray, List.getElem_cons_succ, List.getElem_cons_zero, List.setIfInBounds_toArray, List.set_cons_zero, List.set_cons_succ]
              refine wpAnyH_take (i := 14) (v := ?_) rfl (by as_aux_lemma => kernel_rfl) (by as_aux_lemma => kernel_rfl) (by as_aux_lemma => kernel_rfl) (fun _ _ _ h => h) (Or.inl ⟨by rfl, ?_⟩) hS ?_
              rotate_left
              · intro w hSw; (try dsimp only at hSw); go_simp; try with_reducible rfl
              try simp only [Act.put, List.getElem_toArray, List.getElem_cons_succ, List.getElem_cons_zero, List.setIfInBounds_toArray, List.set_cons_zero, List.set_cons_succ]
              refine wpAnyH_ready (rs := [16]) (by kernel_rfl) (by simp) ?_
              refine AllReadyH.cons rfl (fun K hK => ?_) AllReadyH.nil
              rw [if_pos (by rfl)]
              refine oper_store_blk 24 (.tmp 11) (.tmp 59) rfl wa.heap.size 0 #[.int .i64 x1, .int .i64 x2, .int .i64 x3] rfl rfl _ #[.int .i64 0, .int .i64 0, .int .i64 0] #[.int .i64 x1, .int .i64 x2, .int .i64 x3] BZ.out (by simp) (by kernel_rfl) (by simp [Value.oneCell']) rfl ?_
              intro wc BX gc
              have BDc := hS.2.1.away gc (by omega)
              refine hK.out _ _ ⟨BDc.cell 1, BDc, hS.2.2.grown gc hS.2.2.size (fun k h => by have := Option.some.inj h; omega)⟩ (fun hS => ?_)
              clear hK K
              try simp only [Act.put, List.getElem_toArray, List.getElem_cons_succ, List.getElem_cons_zero, List.setIfInBounds_toArray, List.set_cons_zero, List.set_cons_succ]
              refine wpAnyH_take (i := 17) (v := ?_) rfl (by as_aux_lemma => kernel_rfl) (by as_aux_lemma => kernel_rfl) (by as_aux_lemma => kernel_rfl) (fun _ _ _ h => h) (Or.inl ⟨by rfl, ?_⟩) hS ?_
              rotate_left
              · intro w hSw; (try dsimp only at hSw); go_simp; try with_reducible rfl
              try simp only [Act.put, List.getElem_toArray, List.getElem_cons_succ, List.getElem_cons_zero, List.setIfInBounds_toArray, List.set_cons_zero, List.set_cons_succ]
              refine wpAnyH_done (by kernel_rfl) ?_ _
              have FZ := hS.2.2
              go_wp2_with fail
              go_meet
              case rel => exact ⟨_, rfl, rfl, BX, FZ⟩
          · go_simp
            have zlt : wr.heap.size < w9.heap.size := hS.2.1.lt
            have hb : Below w9.drew.heap.size w9.drew (w9.drew.alloc (.cells #[.int .i64 0, .int .i64 0, .int .i64 0] 24)) := (Below.refl _ _).alloc (Nat.le_refl _) _
            have BZ := Lib.hid (Blk.now w9.drew w9.heap.size 24 #[.int .i64 0, .int .i64 0, .int .i64 0] rfl)
            refine hK.out _ _ ?_ (fun hS => ?_)
            · exact ⟨cell_later hb hS.1, Blk.later hS.2.1 hb, below_later hb hS.2.2⟩
            clear hK K
            try simp only [Act.put, List.getElem_toArray, List.getElem_cons_succ, List.getElem_cons_zero, List.setIfInBounds_toArray, List.set_cons_zero, List.set_cons_succ]
            refine wpAnyH_ready (rs := [8]) (by kernel_rfl) (by simp) ?_
            refine AllReadyH.cons rfl (fun K hK => ?_) AllReadyH.nil
            go_simp
            refine (SE.out _).mono ?_
            rintro e wa ⟨rfl, hb⟩
            replace BZ := Lib.hid (BZ.out.later hb)
            refine hK.out _ _ ?_ (fun hS => ?_)
            · exact ⟨cell_later hb hS.1, Blk.later hS.2.1 hb, below_later hb hS.2.2⟩
            clear hK K
            try simp only [Act.put, List.getElem_toArray, List.getElem_cons_succ, List.getElem_cons_zero, List.setIfInBounds_toArray, List.set_cons_zero, List.set_cons_succ]
            refine wpAnyH_take (i := 9) (v := ?_) rfl (by as_aux_lemma => kernel_rfl) (by as_aux_lemma => kernel_rfl) (by as_aux_lemma => kernel_rfl) (fun _ _ _ h => h) (Or.inl ⟨by rfl, ?_⟩) hS ?_
            rotate_left
            · intro w hSw; (try dsimp only at hSw); go_simp; try with_reducible rfl
            try simp only [Act.put, List.getElem_toArray, List.getElem_cons_succ, List.getElem_cons_zero, List.setIfInBounds_toArray, List.set_cons_zero, List.set_cons_succ]
            refine wpAnyH_take (i := 10) rfl (by as_aux_lemma => kernel_rfl) (by as_aux_lemma => kernel_rfl) (by as_aux_lemma => kernel_rfl) (fun _ _ _ h => h) (yieldsIf_load_mid (by rfl) 24 (.tmp 56) rfl g0 (go0 + ib * 3) (by rw [← hib]; rfl) _ _ (fun w hs j v hv => cell_later hs.2.2 (Q2.out j v hv)) Try.underlying24 rfl (by kernel_rfl)) hS ?_
            try simp only [Act.put, List.getElem_toArray, List.getElem_cons_succ, List.getElem_cons_zero, List.setIfInBounds_toArray, List.set_cons_zero, List.set_cons_succ]
            refine wpAnyH_ready (rs := [11]) (by kernel_rfl) (by simp) ?_
            refine AllReadyH.cons rfl (fun K hK => ?_) AllReadyH.nil
            go_simp
            refine (KS.out _).mono ?_
            rintro e wb ⟨rfl, hb⟩
            replace BZ := Lib.hid (BZ.out.later hb)
            refine hK.out _ _ ?_ (fun hS => ?_)
            · exact ⟨cell_later hb hS.1, Blk.later hS.2.1 hb, below_later hb hS.2.2⟩
            clear hK K
            try simp only [Act.put, List.getElem_toArray, List.getElem_cons_succ, List.getElem_cons_zero, List.setIfInBounds_toArray, List.set_cons_zero, List.set_cons_succ]
            refine wpAnyH_take (i := 12) (v := ?_) rfl (by as_aux_lemma => kernel_rfl) (by as_aux_lemma => kernel_rfl) (by as_aux_lemma => kernel_rfl) (fun _ _ _ h => h) (Or.inl ⟨by rfl, ?_⟩) hS ?_
            rotate_left
            · intro w hSw; (try dsimp only at hSw); go_simp; try with_reducible rfl
            try simp only [Act.put, List.getElem_toArray, List.getElem_cons_succ, List.getElem_cons_zero, List.setIfInBounds_toArray, List.set_cons_zero, List.set_cons_succ]
            refine wpAnyH_take (i := 13) (v := ?_) rfl (by as_aux_lemma => kernel_rfl) (by as_aux_lemma => kernel_rfl) (by as_aux_lemma => kernel_rfl) (fun _ _ _ h => h) (Or.inl ⟨by rfl, ?_⟩) hS ?_
            rotate_left
            · intro w hSw; (try dsimp only at hSw); go_simp; try with_reducible rfl
            try simp only [Act.put, List.getElem_toArray, List.getElem_cons_succ, List.getElem_cons_zero, List.setIfInBounds_toArray, List.set_cons_zero, List.set_cons_succ]
            refine wpAnyH_take (i := 14) (v := ?_) rfl (by as_aux_lemma => kernel_rfl) (by as_aux_lemma => kernel_rfl) (by as_aux_lemma => kernel_rfl) (fun _ _ _ h => h) (Or.inl ⟨by rfl, ?_⟩) hS ?_
            rotate_left
            · intro w hSw; (try dsimp only at hSw); go_simp; try with_reducible rfl
            try simp only [Act.put, List.getElem_toArray, List.getElem_cons_succ, List.getElem_cons_zero, List.setIfInBounds_toArray, List.set_cons_zero, List.set_cons_succ]
            refine wpAnyH_ready (rs := [16]) (by kernel_rfl) (by simp) ?_
            refine AllReadyH.cons rfl (fun K hK => ?_) AllReadyH.nil
            rw [if_pos (by rfl)]
            refine oper_store_blk 24 (.tmp 11) (.tmp 59) rfl w9.heap.size 0 #[.int .i64 x1, .int .i64 x2, .int .i64 x3] rfl rfl _ #[.int .i64 0, .int .i64 0, .int .i64 0] #[.int .i64 x1, .int .i64 x2, .int .i64 x3] BZ.out (by simp) (by kernel_rfl) (by simp [Value.oneCell']) rfl ?_
            intro wc BX gc
            have BDc := hS.2.1.away gc (by omega)
            refine hK.out _ _ ⟨BDc.cell 1, BDc, hS.2.2.grown gc hS.2.2.size (fun k h => by have := Option.some.inj h; omega)⟩ (fun hS => ?_)
            clear hK K
            try simp only [Act.put, List.getElem_toArray, List.getElem_cons_succ, List.getElem_cons_zero, List.setIfInBounds_toArray, List.set_cons_zero, List.set_cons_succ]
            refine wpAnyH_take (i := 17) (v := ?_) rfl (by as_aux_lemma => kernel_rfl) (by as_aux_lemma => kernel_rfl) (by as_aux_lemma => kernel_rfl) (fun _ _ _ h => h) (Or.inl ⟨by rfl, ?_⟩) hS ?_
            rotate_left
            · intro w hSw; (try dsimp only at hSw); go_simp; try with_reducible rfl
            try simp only [Act.put, List.getElem_toArray, List.getElem_cons_succ, List.getElem_cons_zero, List.setIfInBounds_toArray, List.set_cons_zero, List.set_cons_succ]
            refine wpAnyH_done (by kernel_rfl) ?_ _
            have FZ := hS.2.2
            go_wp2_with fail
            go_meet
            case rel => exact ⟨_, rfl, rfl, BX, FZ⟩
        case rest =>
          obtain ⟨wb, rfl, rfl, BX, hbx⟩ := hcut
          have G9 := Lib.hid hbx
          have BXX := Lib.hid BX
          have OC := Lib.hid (ON.out.below G9.out (Nat.le_refl _) (fun _ h => h.elim))
          clear BX hbx BD G8 SE KS
          by_cases hxe : xe = 0
          · subst hxe
            have gx := Lib.hid (NG.out rfl)
            rw [if_neg (by decide)] at NX
            clear NG
            go_wp2_with (first
              | (refine wpList_load_row rfl 24 (.tmp 11) rfl wb rfl _ _ (0, 0) _ BXX.out.heap Try.underlying24 rfl (by kernel_rfl) ?_)
              | (refine wpList_lit1 rfl (.tmp 66) rfl ei_shape #[.int .i64 x1, .int .i64 x2, .int .i64 x3] rfl rfl (by decide) ?_)
              | (at_builtin; refine wpList_push (W := wc) (cs := #[.int .i64 x1, .int .i64 x2, .int .i64 x3]) (E := 24) (t := tShape) (S := fun _ => False) (base := w.heap.size) rfl (.tmp 65) (.tmp 67) rfl ei_shape rfl OC.out 1 rfl (x1, x2, x3) gx.out.rep (by unfold maxLen; omega) (by omega) (Nat.le_trans zr G9.out.size) (fun _ h => h.elim) ?_; intro v' wz ownz gz atz))
            have bz := (below_later G9.out HB.out).grown gz (Nat.le_trans zr G9.out.size) (fun j hj => (OC.out.lt j hj).1)
            exact ⟨⟨k + 1, out ++ [(x1, x2, x3)], by omega, by go_num, NX.out, ownz, bz⟩, by simp [intOf]; omega⟩
          · have t5 : (xe != 0) = true := by simpa using hxe
            rw [if_pos hxe] at NX
            have R := Lib.hid (show r = ([], (k : Int), xe) by rw [V2.out, runS_bad NX.out n (by omega)]; rfl)
            clear hxe NG NX V2
            go_wp2_with fail
            go_ret3
            rw [R.out]
            exact RetShapes.none (below_later G9.out HB.out)
    · obtain rfl : k = n := by omega
      have R := Lib.hid (show r = (out, (k : Int), 0) by rw [V2.out, HR.out]; rfl)
      clear hlt hk V2
      go_wp2_with fail
      go_ret3
      rw [R.out]
      exact ⟨A1, _, c1, rfl, SL.out, HB.out⟩
end Go.Proofs.Ytlpejbopdmledaa
