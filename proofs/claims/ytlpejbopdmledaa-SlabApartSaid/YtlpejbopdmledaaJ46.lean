/-
  The fixed call of layer 29, and the walk of the law SlabPlans.
  Conditions: none.
-/
import Derived.Test.YtlpejbopdmledaaChecked
import Derived.Test.YtlpejbopdmledaaJ44
import Derived.Test.YtlpejbopdmledaaJ45
namespace Go.Proofs.Ytlpejbopdmledaa
set_option linter.unusedVariables false
set_option linter.unusedSimpArgs false
open Go.RowKit Go.ChangeShapes Go.WideShapes Go.Proofs.Ytlpejbopdmledaa.Ar
set_option maxRecDepth 100000

theorem plan_known : planV [flatN] (2, 1, 1) = (([(2, 1, 1), (1, 1, 2)], [0, 2], 4), 1, 0) := by decide +kernel

set_option maxHeartbeats 8000000 in
theorem known29_any (w : World) : Calls Try.prog 12 #[] w fun e w' => e = .returned (.bool true) ∧ Below w.heap.size w w' := by
  go_enter Try.func12, Try.ntmps12
  go_wp2_with (refine wpList_lit1 rfl (.tmp 5) rfl ei_node #[.int .i64 9, .int .i64 0, .int .i64 0, .int .i64 0, .int .i64 0, .int .i64 0, .int .i64 0, .int .i8 0, .int .i8 0, .slice none 0 0, .slice none 0 0, .int .i32 0, .int .i64 0, .int .i8 0, .int .i32 0, .int .i64 0, .int .i8 0, .int .i8 0, .int .i8 0] rfl rfl (by decide) ?_)
  have b1 : Below w.heap.size w (w.alloc (.cells #[.int .i64 9, .int .i64 0, .int .i64 0, .int .i64 0, .int .i64 0, .int .i64 0, .int .i64 0, .int .i8 0, .int .i8 0, .slice none 0 0, .slice none 0 0, .int .i32 0, .int .i64 0, .int .i8 0, .int .i32 0, .int .i64 0, .int .i8 0, .int .i8 0, .int .i8 0] 53)) := (Below.refl _ _).alloc (Nat.le_refl _) _
  refine (slabOf_any _ 1 1 [flatN] 2 1 1 _ (Sl.of_block (heap_now _ _ _ rfl) (show blo _ _ by simp [blo]) (Nat.le_refl _) (by unfold maxLen; decide) rfl (RowsOf.one (flatN_rep _ _))) (by decide) (by decide) (by decide) ⟨by decide, by intro d hd; simp at hd; subst hd; decide⟩).mono ?_
  rintro e w2 ⟨A, m, cp, A2, m2, c2, rfl, hs, hs2, hb⟩
  rw [plan_known] at hs hs2 ⊢
  obtain rfl : m2 = 2 := hs2.n_eq.symm
  have FR := Lib.hid (Far.mk (below_later hb b1))
  have HS := Lib.hid hs2.old
  clear hs hs2 hb b1
  go_wp2_with (refine wpList_store_all rfl 41 (.tmp 1) (.tmp 9) rfl w2.heap.size #[.slice A m cp, .slice A2 2 c2, .int .i64 4] rfl rfl _ _ (Blk.now _ _ _ _ rfl) rfl (by kernel_rfl) (by simp [Value.oneCell']) ?_; intro w3 BQ gq; have BQ := Lib.hid BQ; have GQ := Lib.hid (show Below w2.heap.size w2 w3 from ((Below.refl _ _).alloc (Nat.le_refl _) _).grown gq (by simp) (fun k h => by have := Option.some.inj h; omega)); clear gq; have q1 := BQ.out.cell 1; have q2 := BQ.out.cell 2)
  have FQ := Lib.hid (FR.out.fut GQ.out)
  have SQ := Lib.hid (HS.out.fut GQ.out)
  clear FR HS GQ
  refine (samei_eq _ _ _ _ _ _ [0, 2] _ (SQ.out.fut ((Below.refl _ _).alloc (Nat.le_refl _) _)) (Sl.lit [0, 2] (heap_now _ _ _ rfl) rfl (by intro x hx; simp at hx; rcases hx with rfl | rfl <;> decide) (show blo _ _ by simp [blo]) rfl rfl (by simp [maxLen]))).mono ?_
  rintro e w4 ⟨rfl, hb⟩
  have G := Lib.hid (below_later hb (FQ.out.out.alloc FQ.out.size _))
  clear hb SQ q1 q2
  go_wp2_with fail
  go_ret
  exact ⟨rfl, G.out⟩

theorem planV_err {l : List Node} {s : Sh3} {sl : List Sh3} {p er : Int} (h : shapesV l s = (sl, p, er)) (he : er ≠ 0) : planV l s = (([], [], 0), p, er) := by
  unfold planV; rw [h]; simp only; rw [if_pos he]
theorem planV_ok {l : List Node} {s : Sh3} {sl : List Sh3} {p : Int} (h : shapesV l s = (sl, p, 0)) : planV l s = ((sl, atTo (sizesV sl) (lastsV l) (l.length + 1), roomTo (sizesV sl) (lastsV l) (l.length + 1)), (l.length : Int), 0) := by
  unfold planV; rw [h]; simp only; rw [if_neg (by decide)]
theorem Apart.two {su un su' un' : Value} {m m' : Nat} (h : Apart su un) (h1 : su'.ownBlock = su.ownBlock ∨ su'.ownBlock = some m) (l1 : ∀ k, un.ownBlock = some k → k < m) (h2 : un'.ownBlock = un.ownBlock ∨ un'.ownBlock = some m') (l2 : ∀ k, su'.ownBlock = some k → k < m') : Apart su' un' :=
  ((h.push h1 l1).symm.push h2 l2).symm
theorem lastsV_take (l : List Node) (k : Nat) (h : k ≤ l.length) : (lastsV l).take (k + 1) = (lastsV l).take k ++ [lastV l (k : Int)] := by
  rw [take_snoc (lastsV l) k (lastV l (k : Int)) (by
    have := lastsV_get l k h
    rw [List.getD_eq_getElem?_getD, List.getElem?_eq_getElem (by rw [lastsV_length]; omega)] at this
    rw [List.getElem?_eq_getElem (by rw [lastsV_length]; omega)]
    exact congrArg some this)]
theorem lastV_bd (l : List Node) (v : Int) : 0 ≤ lastV l v ∧ lastV l v ≤ (l.length : Int) + 1 := by
  unfold lastV
  by_cases c : v = l.length
  · rw [if_pos c]; omega
  · rw [if_neg c]; have := lastTo_bd l v l.length; omega

set_option maxHeartbeats 16000000 in
theorem splans_any (A : Option Addr) (n cap : Nat) (l : List Node) (h v c : Int) (w : World) (hs : Sl tNode w (blo w.heap.size) A n cap l) (i0 : InK .i64 h) (i1 : InK .i64 v) (i2 : InK .i64 c) :
    Calls Try.prog 4 #[.slice A n cap, .agg #[.int .i64 h, .int .i64 v, .int .i64 c]] w fun e w' => e = .returned (.bool true) ∧ Below w.heap.size w w' := by
  have FR := Lib.hid (Far.refl w)
  obtain ⟨w1, hw_w1⟩ : ∃ nw_, w.alloc (.cells #[.int .i64 h, .int .i64 v, .int .i64 c] 24) = nw_ := ⟨_, rfl⟩
  have k_w1 : Below w.heap.size w w1 := by rw [← hw_w1]; exact (Below.refl _ _).alloc (Nat.le_refl _) _
  replace FR := Lib.hid (FR.out.fut k_w1)
  have BA := Lib.hid (show Blk w1 w.heap.size 24 #[.int .i64 h, .int .i64 v, .int .i64 c] by rw [← hw_w1]; exact Blk.now _ _ _ _ rfl)
  clear k_w1
  have H := Lib.hid (hs.later FR.out.out (Nat.le_refl _))
  have RS := Lib.hid (fun w' (hb : Below w1.heap.size w1 w') hf => rshapes_any A n cap l h v c w' (H.out.later hb (Nat.le_refl _)) i0 i1 i2 hf)
  have PS := Lib.hid (fun w' (hb : Below w1.heap.size w1 w') hf => slabOf_any A n cap l h v c w' (H.out.later hb (Nat.le_refl _)) i0 i1 i2 hf)
  have hn := hs.n_eq
  have hmax : n ≤ 9223372036854775807 := Nat.le_trans hs.cap_le hs.max_le
  have HN := Lib.hid hn
  clear hs hn i0 i1 i2
  go_enter Try.func4, Try.ntmps4
  go_wp2_with fail
  clear hw_w1
  refine (few27_any A n cap l 0 0 0 none 0 0 w1 H.out).mono ?_
  rintro e w2 ⟨b, rfl, hfew, hb⟩
  have F := Lib.hid hfew
  have K2 := Lib.hid hb
  replace FR := Lib.hid (FR.out.fut hb)
  replace BA := Lib.hid (BA.out.fut hb)
  clear hb
  clear hfew
  cases b with
  | false =>
    go_wp2_with fail
    refine (known29_any _).mono ?_
    rintro e w3 ⟨rfl, hb⟩
    replace FR := Lib.hid (FR.out.fut hb)
    clear hb
    go_wp2_with fail
    go_ret
    exact ⟨rfl, FR.out.out⟩
  | true =>
  have FN := Lib.hid (F.out rfl).1
  have h12 : n ≤ 12 := by rw [← HN.out]; exact FN.out.1
  clear F
  go_wp2_with (refine wpList_load_row rfl 24 (.tmp 3) rfl w.heap.size rfl _ _ (0, 0) _ BA.out.heap Try.underlying24 rfl (by kernel_rfl) ?_)
  refine (PS.out _ K2.out FN.out).mono ?_
  rintro e w3 ⟨A1, m1, c1, A2, m2, c2, rfl, hs1, hs2, hb⟩
  have S1 := Lib.hid hs1.old
  have S2 := Lib.hid hs2.old
  have K3 := Lib.hid (below_later hb K2.out)
  replace FR := Lib.hid (FR.out.fut hb)
  replace BA := Lib.hid (BA.out.fut hb)
  clear hb
  clear hs1 hs2 PS K2
  have PE := Lib.hid (fun sl p er (h' : shapesV l (h, v, c) = (sl, p, er)) he => planV_err h' he)
  have PO := Lib.hid (fun sl p (h' : shapesV l (h, v, c) = (sl, p, 0)) => And.intro (planV_ok h') (shapesV_ok h'))
  have SE := Lib.hid (fun sl p er (h' : shapesV l (h, v, c) = (sl, p, er)) he => shapesV_err h' he)
  obtain ⟨⟨⟨ps, pa, pr⟩, pp, pe⟩, hpv⟩ : ∃ r, planV l (h, v, c) = r := ⟨_, rfl⟩
  rw [hpv] at S1 S2 PE PO ⊢
  obtain ⟨⟨sl, p, er⟩, hr⟩ : ∃ r, shapesV l (h, v, c) = r := ⟨_, rfl⟩
  rw [hr] at RS PE PO SE
  replace PE := Lib.hid (PE.out _ _ _ rfl)
  replace SE := Lib.hid (SE.out _ _ _ rfl)
  clear hpv hr
  simp only at S1 S2 ⊢
  go_wp2_with (first
    | (refine wpList_store_all rfl 41 (.tmp 5) (.tmp 25) rfl w3.heap.size #[.slice A1 m1 c1, .slice A2 m2 c2, .int .i64 pr] rfl rfl _ _ (Blk.now _ _ _ _ rfl) rfl (by kernel_rfl) (by simp [Value.oneCell']) ?_; intro w4 BQ gq; have BQ := Lib.hid BQ; have GQ := Lib.hid (show Below w3.heap.size w3 w4 from ((Below.refl _ _).alloc (Nat.le_refl _) _).grown gq (by simp) (fun k h => by have := Option.some.inj h; omega)); clear gq; have BA := Lib.hid (BA.out.fut GQ.out))
    | (refine wpList_load_row rfl 24 (.tmp 3) rfl w.heap.size rfl _ _ (0, 0) _ BA.out.heap Try.underlying24 rfl (by kernel_rfl) ?_))
  replace K3 := Lib.hid (below_later GQ.out K3.out)
  replace FR := Lib.hid (FR.out.fut GQ.out)
  replace S1 := Lib.hid (S1.out.fut GQ.out)
  replace S2 := Lib.hid (S2.out.fut GQ.out)
  clear GQ
  refine (RS.out _ K3.out FN.out.2).mono ?_
  rintro e w5 ⟨A3, m3, c3, rfl, hs3, hb⟩
  have S3 := Lib.hid hs3.old
  have K5 := Lib.hid (below_later hb K3.out)
  replace FR := Lib.hid (FR.out.fut hb)
  replace S1 := Lib.hid (S1.out.fut hb)
  replace S2 := Lib.hid (S2.out.fut hb)
  replace BQ := Lib.hid (BQ.out.fut hb)
  clear hb
  clear hs3 RS K3 BA
  have e1 : (pp != pp) = false := by simp
  have q0 := BQ.out.cell 0
  have q1 := BQ.out.cell 1
  have q2 := BQ.out.cell 2
  have m1b : m1 ≤ 9223372036854775807 := Nat.le_trans S1.out.cap_le S1.out.max_le
  by_cases he : er = 0
  rotate_left
  · have hpl := PE.out he
    simp only [Prod.mk.injEq] at hpl
    obtain ⟨⟨rfl, rfl, rfl⟩, rfl, rfl⟩ := hpl
    obtain rfl := SE.out he
    obtain rfl : m1 = 0 := S1.out.n_eq.symm
    obtain rfl : m2 = 0 := S2.out.n_eq.symm
    obtain rfl : m3 = 0 := S3.out.n_eq.symm
    have e2 : (pe != pe) = false := by simp
    have e3 : (pe != 0) = true := by simpa using he
    clear PE PO SE he
    go_wp2_with fail
    refine (known29_any _).mono ?_
    rintro e w6 ⟨rfl, hb⟩
    replace FR := Lib.hid (FR.out.fut hb)
    clear hb
    go_wp2_with fail
    go_ret
    exact ⟨rfl, FR.out.out⟩
  subst he
  obtain ⟨hpl, ok⟩ := PO.out _ _ rfl
  simp only [Prod.mk.injEq] at hpl
  obtain ⟨⟨rfl, rfl, rfl⟩, hpp, rfl⟩ := hpl
  obtain rfl : p = pp := by rw [hpp]; exact ok.at_
  have OK := Lib.hid ok
  have h8 : n ≤ 8 := by rw [← HN.out]; exact ok.few
  obtain rfl : m1 = n + 1 := by rw [← S1.out.n_eq, ok.len, HN.out]
  obtain rfl : m2 = n + 1 := by rw [← S2.out.n_eq, atTo_len, HN.out]
  obtain rfl : m3 = n + 1 := by rw [← S3.out.n_eq, ok.len, HN.out]
  have e3 : ((n : Int) + 1 != (n : Int) + 1) = false := by simp
  have RB := Lib.hid (room_bd ok)
  have H5 := Lib.hid (H.out.later K5.out (Nat.le_refl _))
  clear PE PO SE hpp ok H K5
  rw [HN.out] at RB S2 BQ q2
  obtain ⟨rm, hrm⟩ : ∃ x, roomTo (sizesV ps) (lastsV l) (n + 1) = x := ⟨_, rfl⟩
  rw [hrm] at BQ q2 RB
  have RM := Lib.hid hrm
  clear hrm
  go_wp2_with fail
  clear e1 e3 q0 q1 q2
  go_loopw [11, 12, 13] (fun su un i wr => ∃ k : Nat, k ≤ n + 1 ∧ i = .int .i64 k ∧ Own (tInt .i64) wr (fun _ => False) w5.heap.size 3 su k (sizesV (ps.take k)) ∧ Own (tInt .i64) wr (fun _ => False) w5.heap.size 3 un k ((lastsV l).take k) ∧ Apart su un ∧ Below w5.heap.size w5 wr) (fun _ _ i _ => n + 1 - (intOf i).toNat)
  case atStart => exact ⟨0, Nat.zero_le _, rfl, by simpa [sizesV] using Own.nil _ _ _ _ _, by simpa using Own.nil _ _ _ _ _, Apart.nil _, Below.refl _ _⟩
  case round =>
    obtain ⟨k, hk, rfl, hsu, hun, hap, hb⟩ := hrel
    have HB := Lib.hid hb
    have SU := Lib.hid hsu
    have UN := Lib.hid hun
    have AP := Lib.hid hap
    clear hsu hun hap hb
    by_cases hlt : k < n + 1
    · have p1 : (k : Int) < (n : Int) + 1 := by omega
      obtain ⟨b1, off1, rfl, _, _, j1, j2, j3, _, r1⟩ := (S1.out.below HB.out (fun _ h => h)).shape_at k hlt
      obtain ⟨b2, off2, rfl, _, _, _, _, _, _, r2⟩ := (S3.out.below HB.out (fun _ h => h)).shape_at k hlt
      have hst := sizesV_take ps k (by rw [OK.out.len, HN.out]; exact hlt)
      have hut := lastsV_take l k (by rw [HN.out]; omega)
      have hlb := lastV_bd l (k : Int)
      rw [HN.out] at hlb
      obtain ⟨⟨x1, y1, z1⟩, hx⟩ : ∃ x, ps.getD k (0, 0, 0) = x := ⟨_, rfl⟩
      rw [hx] at r1 r2 hst j1 j2 j3
      simp only at r1 r2 hst j1 j2 j3
      have R1 := Lib.hid (fun x : Ext wr => rangeAt_ext r1 x)
      have R2 := Lib.hid (fun x : Ext wr => rangeAt_ext r2 x)
      have RG := Lib.hid r2
      have EQ := Lib.hid (fun w => run_eql_st3 (P := Try.prog) (t := 24) (k0 := .i64) (k1 := .i64) (k2 := .i64) w Try.underlying24 (by kernel_rfl) (by decide) ⟨rfl, rfl, rfl⟩ Try.underlying3 Try.underlying3 Try.underlying3 (by kernel_rfl) (by kernel_rfl) (by kernel_rfl) x1 y1 z1 x1 y1 z1)
      have hb3 : ([x1, y1, z1] == [x1, y1, z1]) = true := by simp
      rw [hb3] at EQ
      have EL := Lib.hid (fun w => relems_any x1 z1 y1 w j1 j2 j3)
      have eb := elems_range x1 y1 z1
      obtain ⟨y, hy⟩ : ∃ y, elems x1 y1 z1 = y := ⟨_, rfl⟩
      obtain ⟨lv, hlv⟩ : ∃ y, lastV l (k : Int) = y := ⟨_, rfl⟩
      rw [hy] at hst EL eb
      obtain ⟨eb1, eb2⟩ := eb
      have LS := Lib.hid (fun w' (hb' : Below w5.heap.size w5 w') => rlast_any A n cap l (k : Int) w' (H5.out.later hb' (Nat.le_refl _)) h12)
      rw [hlv] at hut hlb LS
      obtain ⟨lb1, lb2⟩ := hlb
      have ST := Lib.hid hst
      have UT := Lib.hid hut
      have C0 := Lib.hid (fun x : Ext wr => ext_cell (BQ.out.later HB.out |>.cell 0) x)
      have c0 := C0.out
      have zr := HB.out.size
      clear hx r1 r2 hb3 j1 j2 j3 hst hut hy hlv
      go_upto_region 13 with fail
      (try simp only [Act.put])
      refine wp_region_ext wr (by kernel_rfl) (by kernel_rfl) (Below.refl _ _) ?_
      go_big_quiet_step (fail)
      go_big_quiet_step (fail)
      go_big_quiet_step (fail)
      go_big_quiet_step (fail)
      refine wpQuiet_load_mid (by kernel_rfl) 24 (.tmp 74) rfl b1 (off1 + k * 3) rfl _ _ (by rintro _ ⟨x, rfl⟩; exact R1.out x) Try.underlying24 rfl (by kernel_rfl) ?_
      simp only [Act.put, List.getElem_toArray, List.getElem_cons_succ, List.getElem_cons_zero, List.setIfInBounds_toArray, List.set_cons_zero, List.set_cons_succ]
      go_big_quiet_step (fail)
      go_big_quiet_step (fail)
      go_big_quiet_step (fail)
      refine wpQuiet_load_mid (by kernel_rfl) 24 (.tmp 78) rfl b2 (off2 + k * 3) rfl _ _ (by rintro _ ⟨x, rfl⟩; exact R2.out x) Try.underlying24 rfl (by kernel_rfl) ?_
      simp only [Act.put, List.getElem_toArray, List.getElem_cons_succ, List.getElem_cons_zero, List.setIfInBounds_toArray, List.set_cons_zero, List.set_cons_succ]
      refine wpQuiet_neq_agg (by kernel_rfl) 24 _ (.tmp 75) (.tmp 79) rfl _ _ rfl rfl (by kernel_rfl) _ EQ.out ?_
      simp only [Act.put, List.getElem_toArray, List.getElem_cons_succ, List.getElem_cons_zero, List.setIfInBounds_toArray, List.set_cons_zero, List.set_cons_succ]
      refine wpQuiet_nil ?_
      rintro _ ⟨⟨wa, hba⟩, rfl⟩
      have GA := Lib.hid (below_call HB.out hba HB.out.size)
      have SUA := Lib.hid (SU.out.below hba (Nat.le_refl _) (fun _ h => h.elim))
      have UNA := Lib.hid (UN.out.below hba (Nat.le_refl _) (fun _ h => h.elim))
      replace RG := Lib.hid (rangeAt_later RG.out hba)
      have za := hba.size
      clear hba R1 R2 EQ c0 C0 SU UN HB
      go_wp2_with (refine wpList_load_mid rfl 24 (.tmp 84) rfl b2 (off2 + k * 3) rfl _ _ RG.out Try.underlying24 rfl (by kernel_rfl) ?_)
      refine (EL.out _).mono ?_
      rintro e w8 ⟨rfl, hb⟩
      have G8 := Lib.hid (below_later hb GA.out)
      have SU8 := Lib.hid (SUA.out.below hb (Nat.le_refl _) (fun _ h => h.elim))
      have UN8 := Lib.hid (UNA.out.below hb (Nat.le_refl _) (fun _ h => h.elim))
      have z0 := G8.out.size
      clear hb EL SUA UNA RG GA
      go_wp2_with (at_builtin; refine wpList_push (t := tInt .i64) rfl (.tmp 81) (.tmp 87) rfl ei_int rfl SU8.out 1 rfl y ⟨rfl, by rw [inK_i64]; omega⟩ (by unfold maxLen; omega) (by omega) z0 (fun _ h => h.elim) ?_; intro v9 w9 own9 g9 at9)
      have B9 := Lib.hid (G8.out.grown g9 z0 (fun j hj => (SU8.out.lt j hj).1))
      have UN9 := Lib.hid (UN8.out.flat g9 AP.out.symm (fun _ h => h))
      have AT9 := Lib.hid at9
      have L9 := Lib.hid (fun j hj => (UN8.out.lt j hj).2)
      have SU9 := Lib.hid own9
      clear own9 at9 g9 SU8 UN8
      refine (LS.out _ B9.out).mono ?_
      rintro e w10 ⟨rfl, hb⟩
      have G10 := Lib.hid (below_later hb B9.out)
      have SU10 := Lib.hid (SU9.out.below hb (Nat.le_refl _) (fun _ h => h.elim))
      have UN10 := Lib.hid (UN9.out.below hb (Nat.le_refl _) (fun _ h => h.elim))
      have z10 := G10.out.size
      clear hb LS SU9 UN9
      go_wp2_with (at_builtin; refine wpList_push (t := tInt .i64) rfl (.tmp 89) (.tmp 93) rfl ei_int rfl UN10.out 1 rfl lv ⟨rfl, by rw [inK_i64]; omega⟩ (by unfold maxLen; omega) (by omega) z10 (fun _ h => h.elim) ?_; intro v11 w11 own11 g11 at11)
      have B11 := G10.out.grown g11 z10 (fun j hj => (UN10.out.lt j hj).1)
      have AP9 := AP.out.push AT9.out (fun j hj => Nat.lt_succ_of_lt (L9.out j hj))
      have SU11 := SU10.out.flat g11 AP9 (fun _ h => h)
      have AP11 := (AP9.symm.push at11 (fun j hj => Nat.lt_succ_of_lt ((SU10.out.lt j hj).2))).symm
      exact ⟨⟨k + 1, by omega, by go_num, by rw [ST.out]; exact SU11, by rw [UT.out]; exact own11, AP11, B11⟩, by simp [intOf]; omega⟩
    · obtain rfl : k = n + 1 := by omega
      have hall : ps.take (n + 1) = ps := List.take_of_length_le (by rw [OK.out.len, HN.out]; exact Nat.le_refl _)
      have hall2 : (lastsV l).take (n + 1) = lastsV l := List.take_of_length_le (by rw [lastsV_length, HN.out]; exact Nat.le_refl _)
      rw [hall] at SU
      rw [hall2] at UN
      obtain ⟨A8, c8, rfl, s8⟩ := SU.out.sl (S' := blo wr.heap.size) (by decide) (fun b h1 h2 => h2) (fun _ h => h.elim)
      obtain ⟨A9, c9, rfl, s9⟩ := UN.out.sl (S' := blo wr.heap.size) (by decide) (fun b h1 h2 => h2) (fun _ h => h.elim)
      have S8 := Lib.hid s8
      have S9 := Lib.hid s9
      replace FR := Lib.hid (FR.out.fut HB.out)
      replace S2 := Lib.hid (S2.out.fut HB.out)
      replace BQ := Lib.hid (BQ.out.fut HB.out)
      clear SU UN AP hall hall2 s8 s9 hlt hk HB S1 S3 H5
      go_wp2_with fail
      refine (rfPlace_any A8 (n + 1) c8 A9 (n + 1) c9 (sizesV ps) (lastsV l) wr S8.out S9.out (plan_may OK.out)).mono ?_
      rintro e w6 ⟨A7, c7, rfl, hs7, hb⟩
      rw [RM.out]
      have S7 := Lib.hid hs7.old
      replace FR := Lib.hid (FR.out.fut hb)
      replace S2 := Lib.hid (S2.out.fut hb)
      replace BQ := Lib.hid (BQ.out.fut hb)
      clear hb
      have q1 := BQ.out.cell 1
      clear hs7 S8 S9
      go_wp2_with fail
      refine (samei_eq A2 A7 (n + 1) c2 (n + 1) c7 _ w6 S2.out S7.out).mono ?_
      rintro e w7 ⟨rfl, hb⟩
      replace FR := Lib.hid (FR.out.fut hb)
      replace BQ := Lib.hid (BQ.out.fut hb)
      clear hb
      have q2 := BQ.out.cell 2
      have e4 : (rm == rm) = true := by simp
      clear q1 S2 S7
      go_wp2_with fail
      refine (known29_any _).mono ?_
      rintro e w8 ⟨rfl, hb⟩
      replace FR := Lib.hid (FR.out.fut hb)
      clear hb
      go_wp2_with fail
      go_ret
      exact ⟨rfl, FR.out.out⟩

theorem splans_walk (A : Option Addr) (n cap : Nat) (l : List Node) {W : World} (hs : Sl tNode W (blo W.heap.size) A n cap l) (cs : Array Value) (y : Sh3) (hy : tShape.rep W (blo W.heap.size) cs.toList y) (w : World) (e : W = w) :
    Calls Try.prog 4 #[.slice A n cap, .agg cs] w fun e w' => e = .returned (.bool true) ∧ Below w.heap.size w w' := by
  subst e
  obtain ⟨x, y, z⟩ := y
  obtain ⟨_, _, h0, ⟨rfl, h1⟩, _, _, rfl, ⟨rfl, h2⟩, rfl, h3⟩ := hy
  obtain rfl : cs = #[.int .i64 x, .int .i64 y, .int .i64 z] := by rw [← Array.toArray_toList (xs := cs), h0]; rfl
  exact splans_any A n cap l x y z W hs h1 h2 h3
end Go.Proofs.Ytlpejbopdmledaa
