/-
  The shape of the next value (layer 27): next.
  Conditions: at most 2^20 weights.
-/
import Derived.Test.YtlpejbopdmledaaChecked
import Derived.Test.YtlpejbopdmledaaJ20
import Derived.Test.YtlpejbopdmledaaJ25
import Derived.Test.YtlpejbopdmledaaJ26
import Derived.Test.YtlpejbopdmledaaJ10
namespace Go.Proofs.Ytlpejbopdmledaa
set_option linter.unusedVariables false
set_option linter.unusedSimpArgs false
open Go.RowKit Go.ChangeShapes Go.WideShapes
set_option maxRecDepth 100000

abbrev Sh3 := Int × Int × Int
theorem Sl.shape_at {w : World} {S : Nat → Prop} {A : Option Addr} {n cap : Nat} {l : List Sh3} (h : Sl tShape w S A n cap l) (i : Nat) (hi : i < n) :
    ∃ b off, A = some ⟨b, off, none⟩ ∧ S b ∧ b < w.heap.size ∧ InK .i64 (l.getD i (0, 0, 0)).1 ∧ InK .i64 (l.getD i (0, 0, 0)).2.1 ∧ InK .i64 (l.getD i (0, 0, 0)).2.2 ∧ l[i]? = some (l.getD i (0, 0, 0)) ∧
      w.rangeAt b (off + i * 3) [.int .i64 (l.getD i (0, 0, 0)).1, .int .i64 (l.getD i (0, 0, 0)).2.1, .int .i64 (l.getD i (0, 0, 0)).2.2] := by
  obtain ⟨x, b, off, xs, hx, hA, hS, hb, hr, hl, hc⟩ := h.cells i hi (by decide)
  obtain ⟨_, _, rfl, ⟨rfl, h1⟩, _, _, rfl, ⟨rfl, h2⟩, rfl, h3⟩ := hr
  have e : l.getD i (0, 0, 0) = x := by rw [List.getD_eq_getElem?_getD, hx]; rfl
  rw [e]
  refine ⟨b, off, hA, hS, hb, h1, h2, h3, hx, fun j v hv => ?_⟩
  have := hc j v hv
  rwa [show tShape.size = 3 from rfl, ← Nat.add_assoc] at this

/-- The shape of the next value, behind those that are there. -/
def nextV (d : Node) (l : List Sh3) : ShE :=
  if checkV d ≠ 0 then noS (checkV d) else if thereV d l.length = false then noS 8
  else shapeV (l.getD d.a.toNat (0, 0, 0)).1 (l.getD d.a.toNat (0, 0, 0)).2.1 (l.getD d.a.toNat (0, 0, 0)).2.2 (l.getD (secondV d).toNat (0, 0, 0)).1 (l.getD (secondV d).toNat (0, 0, 0)).2.1 (l.getD (secondV d).toNat (0, 0, 0)).2.2 d
theorem check_kind {d : Node} (h : checkV d = 0) : 1 ≤ d.kind ∧ d.kind ≤ 9 := by
  unfold checkV at h
  by_cases hk : kindOk d.kind
  · exact hk
  · rw [if_pos hk] at h; cases h
theorem there_bd {d : Node} {n : Int} (h : thereV d n = true) : 0 ≤ d.a ∧ d.a < n ∧ 0 ≤ secondV d ∧ secondV d < n := by
  unfold thereV at h
  unfold secondV
  simp only [Bool.and_eq_true, Bool.or_eq_true, decide_eq_true_eq] at h
  split <;> omega

set_option maxHeartbeats 16000000 in
theorem next_any (d : Node) (W : Option Addr) (nw cw : Nat) (B : Option Addr) (nb cb : Nat) (A : Option Addr) (n cap : Nat) (l : List Sh3) (w : World) (hd : NodeIn d) (hw : Sl (tInt .i8) w (blo w.heap.size) W nw cw d.w) (hb : Sl (tInt .i32) w (blo w.heap.size) B nb cb d.bias) (mw : nw ≤ 1048576) (mb : nb ≤ 1048576) (hs : Sl tShape w (blo w.heap.size) A n cap l) :
    Calls Try.prog 18 #[.agg #[.int .i64 d.kind, .int .i64 d.a, .int .i64 d.b, .int .i64 d.k, .int .i64 d.s, .int .i64 d.p, .int .i64 d.out, .int .i8 d.za, .int .i8 d.zb, .slice W nw cw, .slice B nb cb, .int .i32 d.qm, .int .i64 d.qs, .int .i8 d.qz, .int .i32 d.rm, .int .i64 d.rs, .int .i8 d.rz, .int .i8 d.lo, .int .i8 d.hi], .slice A n cap] w fun e w' => e = retS (nextV d l) ∧ Below w.heap.size w w' := by
  have hn := hs.n_eq
  have hm : n ≤ 9223372036854775807 := Nat.le_trans hs.cap_le hs.max_le
  obtain ⟨r, hr⟩ : ∃ r, nextV d l = r := ⟨_, rfl⟩
  rw [hr]
  unfold nextV at hr
  rw [hn] at hr
  have CK := Lib.hid (fun (w' : World) (hb' : Below w.heap.size w w') => kcheck_any d W nw cw B nb cb w' (hw.later hb' (Nat.le_refl _)) (hb.later hb' (Nat.le_refl _)) mw mb)
  have TH := Lib.hid (fun w => there_any d W nw cw B nb cb n w hd.a hd.b)
  have OF := Lib.hid (fun w => of_any d W nw cw B nb cb w hd.a hd.b)
  have HW := Lib.hid hw.n_eq
  have HB := Lib.hid hb.n_eq
  have HS := Lib.hid hs
  have HD := Lib.hid hd
  have KD := Lib.hid (check_kind (d := d))
  have TB := Lib.hid (there_bd (d := d) (n := n))
  have VV := Lib.hid hr.symm
  clear hr hw hb hs hd hn
  obtain ⟨ck, hck⟩ : ∃ x, checkV d = x := ⟨_, rfl⟩
  obtain ⟨th, hth⟩ : ∃ x, thereV d n = x := ⟨_, rfl⟩
  rw [hck] at CK KD VV
  rw [hth] at TH TB VV
  clear hck hth
  have FR := Lib.hid (Far.refl w)
  obtain ⟨w1, hw_w1⟩ : ∃ nw_, w.alloc (.cells #[.int .i64 d.kind, .int .i64 d.a, .int .i64 d.b, .int .i64 d.k, .int .i64 d.s, .int .i64 d.p, .int .i64 d.out, .int .i8 d.za, .int .i8 d.zb, .slice W nw cw, .slice B nb cb, .int .i32 d.qm, .int .i64 d.qs, .int .i8 d.qz, .int .i32 d.rm, .int .i64 d.rs, .int .i8 d.rz, .int .i8 d.lo, .int .i8 d.hi] 53) = nw_ := ⟨_, rfl⟩
  have k_w1 : Below w.heap.size w w1 := by rw [← hw_w1]; exact (Below.refl _ _).alloc (Nat.le_refl _) _
  replace FR := Lib.hid (FR.out.fut k_w1)
  have BN := Lib.hid (show Blk w1 w.heap.size 53 #[.int .i64 d.kind, .int .i64 d.a, .int .i64 d.b, .int .i64 d.k, .int .i64 d.s, .int .i64 d.p, .int .i64 d.out, .int .i8 d.za, .int .i8 d.zb, .slice W nw cw, .slice B nb cb, .int .i32 d.qm, .int .i64 d.qs, .int .i8 d.qz, .int .i32 d.rm, .int .i64 d.rs, .int .i8 d.rz, .int .i8 d.lo, .int .i8 d.hi] by rw [← hw_w1]; exact Blk.now _ _ _ _ rfl)
  clear k_w1
  obtain ⟨w2, hw_w2⟩ : ∃ nw_, w1.alloc (.cells #[.int .i64 0, .int .i64 0, .int .i64 0] 24) = nw_ := ⟨_, rfl⟩
  have k_w2 : Below w1.heap.size w1 w2 := by rw [← hw_w2]; exact (Below.refl _ _).alloc (Nat.le_refl _) _
  replace FR := Lib.hid (FR.out.fut k_w2)
  replace BN := Lib.hid (BN.out.fut k_w2)
  have BR := Lib.hid (show Blk w2 w1.heap.size 24 #[.int .i64 0, .int .i64 0, .int .i64 0] by rw [← hw_w2]; exact Blk.now _ _ _ _ rfl)
  clear k_w2
  have l1 : w.heap.size < w1.heap.size := by rw [← hw_w1]; simp
  have l2 : w1.heap.size < w2.heap.size := by rw [← hw_w2]; simp
  by_cases c1 : ck = 0
  rotate_left
  · have t1 : (ck != 0) = true := by simpa using c1
    have R := Lib.hid (show r = noS ck by rw [VV.out, if_pos c1])
    clear c1 VV
    go_enter Try.func18, Try.ntmps18
    go_wp2_with (refine wpList_load_row rfl 53 (.tmp 2) rfl w.heap.size rfl _ _ (0, 0) _ BN.out.heap Try.underlying53 rfl (by kernel_rfl) ?_)
    clear hw_w1 hw_w2
    refine (CK.out _ FR.out.out).mono ?_
    rintro e w3 ⟨rfl, hb⟩
    replace FR := Lib.hid (FR.out.fut hb)
    replace BN := Lib.hid (BN.out.fut hb)
    replace BR := Lib.hid (BR.out.fut hb)
    clear hb
    go_wp2_with (refine wpList_store_all rfl 24 (.tmp 4) (.tmp 11) rfl w1.heap.size #[.int .i64 0, .int .i64 0, .int .i64 0] rfl rfl _ _ BR.out rfl (by kernel_rfl) (by simp [Value.oneCell']) ?_; intro w7 BR7 g7)
    refine ret_cell_tmp rfl BR7 rfl Try.underlying24 (by kernel_rfl) rfl ⟨by rw [R.out]; rfl, (FR.out.away g7 (by omega)).out⟩
  subst c1
  have t1 : ((0 : Int) != 0) = false := rfl
  cases th with
  | false =>
    have R := Lib.hid (show r = noS 8 by rw [VV.out, if_neg (by decide), if_pos rfl])
    clear VV
    go_enter Try.func18, Try.ntmps18
    go_wp2_with (refine wpList_load_row rfl 53 (.tmp 2) rfl w.heap.size rfl _ _ (0, 0) _ BN.out.heap Try.underlying53 rfl (by kernel_rfl) ?_)
    clear hw_w1 hw_w2
    refine (CK.out _ FR.out.out).mono ?_
    rintro e w3 ⟨rfl, hb⟩
    replace FR := Lib.hid (FR.out.fut hb)
    replace BN := Lib.hid (BN.out.fut hb)
    replace BR := Lib.hid (BR.out.fut hb)
    clear hb
    go_wp2_with (refine wpList_load_row rfl 53 (.tmp 2) rfl w.heap.size rfl _ _ (0, 0) _ BN.out.heap Try.underlying53 rfl (by kernel_rfl) ?_)
    refine (TH.out _).mono ?_
    rintro e w4 ⟨rfl, hb⟩
    replace FR := Lib.hid (FR.out.fut hb)
    replace BN := Lib.hid (BN.out.fut hb)
    replace BR := Lib.hid (BR.out.fut hb)
    clear hb
    go_wp2_with (refine wpList_store_all rfl 24 (.tmp 4) (.tmp 18) rfl w1.heap.size #[.int .i64 0, .int .i64 0, .int .i64 0] rfl rfl _ _ BR.out rfl (by kernel_rfl) (by simp [Value.oneCell']) ?_; intro w7 BR7 g7)
    refine ret_cell_tmp rfl BR7 rfl Try.underlying24 (by kernel_rfl) rfl ⟨by rw [R.out]; rfl, (FR.out.away g7 (by omega)).out⟩
  | true =>
    obtain ⟨p1, p2, p3, p4⟩ := TB.out rfl
    have hk := KD.out rfl
    obtain ⟨ia, hia⟩ : ∃ ia, d.a.toNat = ia := ⟨_, rfl⟩
    obtain ⟨ib, hib⟩ : ∃ ib, (secondV d).toNat = ib := ⟨_, rfl⟩
    obtain ⟨b0, off0, rfl, _, _, k1, k2, k3, _, q1⟩ := HS.out.shape_at ia (by omega)
    obtain ⟨b0', off0', e0, _, _, k4, k5, k6, _, q2⟩ := HS.out.shape_at ib (by omega)
    obtain ⟨rfl, rfl⟩ : b0 = b0' ∧ off0 = off0' := by simpa using e0
    have V2 := Lib.hid (show r = shapeV (l.getD ia (0, 0, 0)).1 (l.getD ia (0, 0, 0)).2.1 (l.getD ia (0, 0, 0)).2.2 (l.getD ib (0, 0, 0)).1 (l.getD ib (0, 0, 0)).2.1 (l.getD ib (0, 0, 0)).2.2 d by rw [VV.out, if_neg (by decide), if_neg (by decide), hia, hib])
    obtain ⟨⟨x, y, z⟩, hx⟩ : ∃ s, l.getD ia (0, 0, 0) = s := ⟨_, rfl⟩
    obtain ⟨⟨x', y', z'⟩, hx'⟩ : ∃ s, l.getD ib (0, 0, 0) = s := ⟨_, rfl⟩
    rw [hx] at q1 k1 k2 k3 V2
    rw [hx'] at q2 k4 k5 k6 V2
    simp only at q1 q2 k1 k2 k3 k4 k5 k6 V2
    have Q1 := Lib.hid q1
    have Q2 := Lib.hid q2
    obtain ⟨sc, hsc⟩ : ∃ s, secondV d = s := ⟨_, rfl⟩
    rw [hsc] at p3 p4 OF hib
    have KS := Lib.hid (fun w => kshape_any x y z x' y' z' d W nw cw B nb cb w k1 k2 k3 HD.out.out HD.out.p HW.out.symm HB.out.symm mw mb hk)
    obtain ⟨⟨⟨x1, x2, x3⟩, xe⟩, hxx⟩ : ∃ s, shapeV x y z x' y' z' d = s := ⟨_, rfl⟩
    rw [hxx] at KS V2
    simp only [retS] at KS
    have R := Lib.hid V2.out
    clear VV V2 hx hx' hxx hsc k1 k2 k3 k4 k5 k6 q1 q2 e0 hk KD TB HD
    go_enter Try.func18, Try.ntmps18
    go_wp2_with (refine wpList_load_row rfl 53 (.tmp 2) rfl w.heap.size rfl _ _ (0, 0) _ BN.out.heap Try.underlying53 rfl (by kernel_rfl) ?_)
    clear hw_w1 hw_w2
    refine (CK.out _ FR.out.out).mono ?_
    rintro e w3 ⟨rfl, hb⟩
    replace FR := Lib.hid (FR.out.fut hb)
    replace BN := Lib.hid (BN.out.fut hb)
    replace BR := Lib.hid (BR.out.fut hb)
    clear hb
    go_wp2_with (refine wpList_load_row rfl 53 (.tmp 2) rfl w.heap.size rfl _ _ (0, 0) _ BN.out.heap Try.underlying53 rfl (by kernel_rfl) ?_)
    refine (TH.out _).mono ?_
    rintro e w4 ⟨rfl, hb⟩
    replace FR := Lib.hid (FR.out.fut hb)
    replace BN := Lib.hid (BN.out.fut hb)
    replace BR := Lib.hid (BR.out.fut hb)
    clear hb
    clear CK TH
    go_wp2_with fail
    refine wp_region_held_drew (S := fun w' => w'.cell? ⟨w.heap.size, 1, none⟩ = some (.int .i64 d.a) ∧ Blk w' w.heap.size 53 #[.int .i64 d.kind, .int .i64 d.a, .int .i64 d.b, .int .i64 d.k, .int .i64 d.s, .int .i64 d.p, .int .i64 d.out, .int .i8 d.za, .int .i8 d.zb, .slice W nw cw, .slice B nb cb, .int .i32 d.qm, .int .i64 d.qs, .int .i8 d.qz, .int .i32 d.rm, .int .i64 d.rs, .int .i8 d.rz, .int .i8 d.lo, .int .i8 d.hi] ∧ Below w.heap.size w w') (by kernel_rfl) ?_ (fun hS => ?_)
    · exact ⟨BN.out.drew.cell 1, BN.out.drew, FR.out.out.drew⟩
    refine wpAnyH_take (i := 0) rfl (by as_aux_lemma => kernel_rfl) (by as_aux_lemma => kernel_rfl) (by as_aux_lemma => kernel_rfl) (fun _ _ _ h => h) (yieldsIf_load_blk (by rfl) 53 (.tmp 2) rfl w.heap.size 0 rfl _ _ #[.int .i64 d.kind, .int .i64 d.a, .int .i64 d.b, .int .i64 d.k, .int .i64 d.s, .int .i64 d.p, .int .i64 d.out, .int .i8 d.za, .int .i8 d.zb, .slice W nw cw, .slice B nb cb, .int .i32 d.qm, .int .i64 d.qs, .int .i8 d.qz, .int .i32 d.rm, .int .i64 d.rs, .int .i8 d.rz, .int .i8 d.lo, .int .i8 d.hi] _ (fun w hs => hs.2.1) Try.underlying53 rfl (by kernel_rfl) rfl) hS ?_
    try simp only [Act.put, List.getElem_toArray, List.getElem_cons_succ, List.getElem_cons_zero, List.setIfInBounds_toArray, List.set_cons_zero, List.set_cons_succ]
    refine wpAnyH_take (i := 1) (v := ?_) rfl (by as_aux_lemma => kernel_rfl) (by as_aux_lemma => kernel_rfl) (by as_aux_lemma => kernel_rfl) (fun _ _ _ h => h) (Or.inl ⟨by rfl, ?_⟩) hS ?_
    rotate_left
    · intro w hSw; (try dsimp only at hSw); go_simp; try with_reducible rfl
    try simp only [Act.put, List.getElem_toArray, List.getElem_cons_succ, List.getElem_cons_zero, List.setIfInBounds_toArray, List.set_cons_zero, List.set_cons_succ]
    refine wpAnyH_take (i := 2) (v := ?_) rfl (by as_aux_lemma => kernel_rfl) (by as_aux_lemma => kernel_rfl) (by as_aux_lemma => kernel_rfl) (fun _ _ _ h => h) (Or.inl ⟨by rfl, ?_⟩) hS ?_
    rotate_left
    · intro w hSw; (try dsimp only at hSw); go_simp; try with_reducible rfl
    try simp only [Act.put, List.getElem_toArray, List.getElem_cons_succ, List.getElem_cons_zero, List.setIfInBounds_toArray, List.set_cons_zero, List.set_cons_succ]
    refine wpAnyH_take (i := 3) (v := ?_) rfl (by as_aux_lemma => kernel_rfl) (by as_aux_lemma => kernel_rfl) (by as_aux_lemma => kernel_rfl) (fun _ _ _ h => h) (Or.inl ⟨by rfl, ?_⟩) hS ?_
    rotate_left
    · intro w hSw; (try dsimp only at hSw); go_simp; try with_reducible rfl
    try simp only [Act.put, List.getElem_toArray, List.getElem_cons_succ, List.getElem_cons_zero, List.setIfInBounds_toArray, List.set_cons_zero, List.set_cons_succ]
    refine wpAnyH_take (i := 4) (v := ?_) rfl (by as_aux_lemma => kernel_rfl) (by as_aux_lemma => kernel_rfl) (by as_aux_lemma => kernel_rfl) (fun _ _ _ h => h) (Or.inl ⟨by rfl, ?_⟩) hS ?_
    rotate_left
    · intro w hSw; (try dsimp only at hSw); go_simp; try with_reducible rfl
    try simp only [Act.put, List.getElem_toArray, List.getElem_cons_succ, List.getElem_cons_zero, List.setIfInBounds_toArray, List.set_cons_zero, List.set_cons_succ]
    refine wpAnyH_take (i := 5) rfl (by as_aux_lemma => kernel_rfl) (by as_aux_lemma => kernel_rfl) (by as_aux_lemma => kernel_rfl) (fun _ _ _ h => h) (yieldsIf_load_mid (by rfl) 24 (.tmp 23) rfl b0 (off0 + ia * 3) (by rw [← hia]; rfl) _ _ (fun w hs j v hv => cell_later hs.2.2 (Q1.out j v hv)) Try.underlying24 rfl (by kernel_rfl)) hS ?_
    try simp only [Act.put, List.getElem_toArray, List.getElem_cons_succ, List.getElem_cons_zero, List.setIfInBounds_toArray, List.set_cons_zero, List.set_cons_succ]
    refine wpAnyH_take (i := 6) (v := ?_) rfl (by as_aux_lemma => kernel_rfl) (by as_aux_lemma => kernel_rfl) (by as_aux_lemma => kernel_rfl) (fun _ _ _ h => h) (Or.inl ⟨by rfl, ?_⟩) hS ?_
    rotate_left
    · intro w hSw; (try dsimp only at hSw); go_simp; try with_reducible rfl
    try simp only [Act.put, List.getElem_toArray, List.getElem_cons_succ, List.getElem_cons_zero, List.setIfInBounds_toArray, List.set_cons_zero, List.set_cons_succ]
    refine wpAnyH_take (i := 7) rfl (by as_aux_lemma => kernel_rfl) (by as_aux_lemma => kernel_rfl) (by as_aux_lemma => kernel_rfl) (fun _ _ _ h => h) (yieldsIf_load_blk (by rfl) 53 (.tmp 2) rfl w.heap.size 0 rfl _ _ #[.int .i64 d.kind, .int .i64 d.a, .int .i64 d.b, .int .i64 d.k, .int .i64 d.s, .int .i64 d.p, .int .i64 d.out, .int .i8 d.za, .int .i8 d.zb, .slice W nw cw, .slice B nb cb, .int .i32 d.qm, .int .i64 d.qs, .int .i8 d.qz, .int .i32 d.rm, .int .i64 d.rs, .int .i8 d.rz, .int .i8 d.lo, .int .i8 d.hi] _ (fun w hs => hs.2.1) Try.underlying53 rfl (by kernel_rfl) rfl) hS ?_
    try simp only [Act.put, List.getElem_toArray, List.getElem_cons_succ, List.getElem_cons_zero, List.setIfInBounds_toArray, List.set_cons_zero, List.set_cons_succ]
    refine wpAnyH_ready (rs := [8]) (by kernel_rfl) (by simp) ?_
    refine AllReadyH.cons rfl (fun K hK => ?_) AllReadyH.nil
    go_simp
    refine (OF.out _).mono ?_; rintro e w5 ⟨rfl, hb⟩; have BR5 := Lib.hid (BR.out.drew.later hb)
    refine hK.out _ _ ?_ (fun hS => ?_)
    · exact ⟨(by first | exact cell_later hb hS.1 | exact Blk.later hS.1 hb), (by first | exact cell_later hb hS.2.1 | exact Blk.later hS.2.1 hb), below_later hb hS.2.2⟩
    clear hK K
    try simp only [Act.put, List.getElem_toArray, List.getElem_cons_succ, List.getElem_cons_zero, List.setIfInBounds_toArray, List.set_cons_zero, List.set_cons_succ]
    refine wpAnyH_take (i := 9) (v := ?_) rfl (by as_aux_lemma => kernel_rfl) (by as_aux_lemma => kernel_rfl) (by as_aux_lemma => kernel_rfl) (fun _ _ _ h => h) (Or.inl ⟨by rfl, ?_⟩) hS ?_
    rotate_left
    · intro w hSw; (try dsimp only at hSw); go_simp; try with_reducible rfl
    try simp only [Act.put, List.getElem_toArray, List.getElem_cons_succ, List.getElem_cons_zero, List.setIfInBounds_toArray, List.set_cons_zero, List.set_cons_succ]
    refine wpAnyH_take (i := 10) rfl (by as_aux_lemma => kernel_rfl) (by as_aux_lemma => kernel_rfl) (by as_aux_lemma => kernel_rfl) (fun _ _ _ h => h) (yieldsIf_load_mid (by rfl) 24 (.tmp 28) rfl b0 (off0 + ib * 3) (by rw [← hib]; rfl) _ _ (fun w hs j v hv => cell_later hs.2.2 (Q2.out j v hv)) Try.underlying24 rfl (by kernel_rfl)) hS ?_
    try simp only [Act.put, List.getElem_toArray, List.getElem_cons_succ, List.getElem_cons_zero, List.setIfInBounds_toArray, List.set_cons_zero, List.set_cons_succ]
    refine wpAnyH_ready (rs := [11]) (by kernel_rfl) (by simp) ?_
    refine AllReadyH.cons rfl (fun K hK => ?_) AllReadyH.nil
    go_simp
    refine (KS.out _).mono ?_; rintro e w6 ⟨rfl, hb⟩; have BR6 := Lib.hid (BR5.out.later hb)
    refine hK.out _ _ ?_ (fun hS => ?_)
    · exact ⟨(by first | exact cell_later hb hS.1 | exact Blk.later hS.1 hb), (by first | exact cell_later hb hS.2.1 | exact Blk.later hS.2.1 hb), below_later hb hS.2.2⟩
    clear hK K
    try simp only [Act.put, List.getElem_toArray, List.getElem_cons_succ, List.getElem_cons_zero, List.setIfInBounds_toArray, List.set_cons_zero, List.set_cons_succ]
    refine wpAnyH_take (i := 12) (v := ?_) rfl (by as_aux_lemma => kernel_rfl) (by as_aux_lemma => kernel_rfl) (by as_aux_lemma => kernel_rfl) (fun _ _ _ h => h) (Or.inl ⟨by rfl, ?_⟩) hS ?_
    rotate_left
    · intro w hSw; (try dsimp only at hSw); go_simp; try with_reducible rfl
    try simp only [Act.put, List.getElem_toArray, List.getElem_cons_succ, List.getElem_cons_zero, List.setIfInBounds_toArray, List.set_cons_zero, List.set_cons_succ]
    refine wpAnyH_take (i := 13) (v := ?_) rfl (by as_aux_lemma => kernel_rfl) (by as_aux_lemma => kernel_rfl) (by as_aux_lemma => kernel_rfl) (fun _ _ _ h => h) (Or.inl ⟨by rfl, ?_⟩) hS ?_
    rotate_left
    · intro w hSw; (try dsimp only at hSw); go_simp; try with_reducible rfl
    try simp only [Act.put, List.getElem_toArray, List.getElem_cons_succ, List.getElem_cons_zero, List.setIfInBounds_toArray, List.set_cons_zero, List.set_cons_succ]
    refine wpAnyH_ready (rs := [14]) (by kernel_rfl) (by simp) ?_
    refine AllReadyH.cons rfl (fun K hK => ?_) AllReadyH.nil
    (rw [if_pos (by rfl)]; refine oper_store_blk 24 (.tmp 4) (.tmp 31) rfl w1.heap.size 0 #[.int .i64 x1, .int .i64 x2, .int .i64 x3] rfl rfl _ #[.int .i64 0, .int .i64 0, .int .i64 0] #[.int .i64 x1, .int .i64 x2, .int .i64 x3] BR6.out (by simp) (by kernel_rfl) (by simp [Value.oneCell']) rfl ?_; intro w7 BR7 g7; have BN7 := hS.2.1.away g7 (by omega); refine hK.out _ _ ⟨BN7.cell 1, BN7, hS.2.2.grown g7 hS.2.2.size (fun k h => by have := Option.some.inj h; omega)⟩ (fun hS => ?_))
    clear hK K
    try simp only [Act.put, List.getElem_toArray, List.getElem_cons_succ, List.getElem_cons_zero, List.setIfInBounds_toArray, List.set_cons_zero, List.set_cons_succ]
    refine wpAnyH_take (i := 15) (v := ?_) rfl (by as_aux_lemma => kernel_rfl) (by as_aux_lemma => kernel_rfl) (by as_aux_lemma => kernel_rfl) (fun _ _ _ h => h) (Or.inl ⟨by rfl, ?_⟩) hS ?_
    rotate_left
    · intro w hSw; (try dsimp only at hSw); go_simp; try with_reducible rfl
    try simp only [Act.put, List.getElem_toArray, List.getElem_cons_succ, List.getElem_cons_zero, List.setIfInBounds_toArray, List.set_cons_zero, List.set_cons_succ]
    refine wpAnyH_done (by kernel_rfl) ?_ _
    have FZ := hS.2.2
    go_wp2_with fail
    refine ret_cell_tmp rfl BR7 rfl Try.underlying24 (by kernel_rfl) rfl ⟨by rw [R.out]; rfl, FZ⟩
end Go.Proofs.Ytlpejbopdmledaa
