/-
  The walk of the law SlabApart (layer 29).
  Conditions: none.
-/
import Derived.Test.YtlpejbopdmledaaChecked
import Derived.Test.YtlpejbopdmledaaJ46
import Derived.Deep.CutBlock
import Derived.StillTailTactics
import Derived.Deep.DeepCutAuto
import Derived.Deep.CutRange
namespace Go.Proofs.Ytlpejbopdmledaa
set_option linter.unusedVariables false
set_option linter.unusedSimpArgs false
open Go.RowKit Go.ChangeShapes Go.WideShapes Go.Proofs.Ytlpejbopdmledaa.Ar
set_option maxRecDepth 100000

/-- What has no size stands at the beginning. -/
theorem at_zero {sz un : List Int} {n : Nat} (hs : ∀ j, j < n → 0 ≤ sz.getD j 0 ∧ sz.getD j 0 ≤ 1048576) (k : Nat) (hk : k < n) (hz : sz.getD k 0 = 0) : (atTo sz un n).getD k 0 = 0 := by
  induction n with
  | zero => omega
  | succ n ih =>
    by_cases hkn : k < n
    · rw [at_old _ _ _ _ hkn]
      exact ih (fun j hj => hs j (by omega)) hkn
    · obtain rfl : k = n := by omega
      rw [at_new]
      have g := good_at (un := un) hs k (by omega)
      exact best_zero hz (fun j hj => (hs j (by omega)).1) (fun j hj => (g.bd j hj).1)
theorem plan_apart' {l : List Node} {s : Sh3} {sl : List Sh3} {p : Int} (h : ShapesOk l s sl p) {i v : Nat} {d : Node} (hd : l[i]? = some d) (hv : (v : Int) = d.a ∨ (v : Int) = secondV d) (hvi : v ≤ i)
    (c : (atTo (sizesV sl) (lastsV l) (l.length + 1)).getD v 0 < (atTo (sizesV sl) (lastsV l) (l.length + 1)).getD (i + 1) 0 + (sizesV sl).getD (i + 1) 0)
    (c' : (atTo (sizesV sl) (lastsV l) (l.length + 1)).getD (i + 1) 0 < (atTo (sizesV sl) (lastsV l) (l.length + 1)).getD v 0 + (sizesV sl).getD v 0) : False := by
  have hi : i < l.length := (List.getElem?_eq_some_iff.1 hd).1
  have hs : ∀ j, j < l.length + 1 → 0 ≤ (sizesV sl).getD j 0 ∧ (sizesV sl).getD j 0 ≤ 1048576 := fun j _ => by have := sizesV_bd sl j; omega
  have b1 := plan_bd h v (by omega)
  have b2 := plan_bd h (i + 1) (by omega)
  by_cases z1 : (sizesV sl).getD (i + 1) 0 = 0
  · have := at_zero (un := lastsV l) hs (i + 1) (by omega) z1
    omega
  by_cases z2 : (sizesV sl).getD v 0 = 0
  · have := at_zero (un := lastsV l) hs v (by omega) z2
    omega
  exact plan_apart h hd hv hvi c c' z1 z2

set_option maxHeartbeats 16000000 in
theorem sapart_any (A : Option Addr) (n cap : Nat) (l : List Node) (h v c : Int) (w : World) (hs : Sl tNode w (blo w.heap.size) A n cap l) (i0 : InK .i64 h) (i1 : InK .i64 v) (i2 : InK .i64 c) :
    Calls Try.prog 5 #[.slice A n cap, .agg #[.int .i64 h, .int .i64 v, .int .i64 c]] w fun e w' => e = .returned (.bool true) ∧ Below w.heap.size w w' := by
  have FR := Lib.hid (Far.refl w)
  obtain ⟨w1, hw_w1⟩ : ∃ nw_, w.alloc (.cells #[.int .i64 h, .int .i64 v, .int .i64 c] 24) = nw_ := ⟨_, rfl⟩
  have k_w1 : Below w.heap.size w w1 := by rw [← hw_w1]; exact (Below.refl _ _).alloc (Nat.le_refl _) _
  replace FR := Lib.hid (FR.out.fut k_w1)
  have BA := Lib.hid (show Blk w1 w.heap.size 24 #[.int .i64 h, .int .i64 v, .int .i64 c] by rw [← hw_w1]; exact Blk.now _ _ _ _ rfl)
  clear k_w1
  have H := Lib.hid (hs.later FR.out.out (Nat.le_refl _))
  have PS := Lib.hid (fun w' (hb : Below w1.heap.size w1 w') hf => slabOf_any A n cap l h v c w' (H.out.later hb (Nat.le_refl _)) i0 i1 i2 hf)
  have hn := hs.n_eq
  have hmax : n ≤ 9223372036854775807 := Nat.le_trans hs.cap_le hs.max_le
  have HN := Lib.hid hn
  clear hs hn i0 i1 i2
  go_enter Try.func5, Try.ntmps5
  go_wp2_with fail
  clear hw_w1
  refine (few27_any A n cap l 0 0 0 none 0 0 w1 H.out).mono ?_
  rintro e w2 ⟨b, rfl, hfew, hb⟩
  have F := Lib.hid hfew
  have K2 := Lib.hid hb
  replace FR := Lib.hid (FR.out.fut hb)
  replace BA := Lib.hid (BA.out.fut hb)
  clear hb
  clear hfew
  cases b with
  | false =>
    go_wp2_with fail
    refine (known29_any _).mono ?_
    rintro e w3 ⟨rfl, hb⟩
    replace FR := Lib.hid (FR.out.fut hb)
    clear hb
    go_wp2_with fail
    go_ret
    exact ⟨rfl, FR.out.out⟩
  | true =>
  have FN := Lib.hid (F.out rfl).1
  have h12 : n ≤ 12 := by rw [← HN.out]; exact FN.out.1
  clear F
  go_wp2_with (refine wpList_load_row rfl 24 (.tmp 3) rfl w.heap.size rfl _ _ (0, 0) _ BA.out.heap Try.underlying24 rfl (by kernel_rfl) ?_)
  refine (PS.out _ K2.out FN.out).mono ?_
  rintro e w3 ⟨A1, m1, c1, A2, m2, c2, rfl, hs1, hs2, hb⟩
  have S1 := Lib.hid hs1.old
  have S2 := Lib.hid hs2.old
  have K3 := Lib.hid (below_later hb K2.out)
  replace FR := Lib.hid (FR.out.fut hb)
  replace BA := Lib.hid (BA.out.fut hb)
  clear hb
  clear hs1 hs2 PS K2
  have PE := Lib.hid (fun sl p er (h' : shapesV l (h, v, c) = (sl, p, er)) he => planV_err h' he)
  have PO := Lib.hid (fun sl p (h' : shapesV l (h, v, c) = (sl, p, 0)) => And.intro (planV_ok h') (shapesV_ok h'))
  obtain ⟨⟨⟨ps, pa, pr⟩, pp, pe⟩, hpv⟩ : ∃ r, planV l (h, v, c) = r := ⟨_, rfl⟩
  rw [hpv] at S1 S2 PE PO ⊢
  obtain ⟨⟨sl, p, er⟩, hr⟩ : ∃ r, shapesV l (h, v, c) = r := ⟨_, rfl⟩
  rw [hr] at PE PO
  replace PE := Lib.hid (PE.out _ _ _ rfl)
  clear hpv hr
  simp only at S1 S2 ⊢
  by_cases he : er = 0
  rotate_left
  · have hpl := PE.out he
    simp only [Prod.mk.injEq] at hpl
    obtain ⟨⟨rfl, rfl, rfl⟩, rfl, rfl⟩ := hpl
    obtain rfl : m2 = 0 := S2.out.n_eq.symm
    have e3 : (pe != 0) = true := by simpa using he
    clear PE PO he
    go_wp2_with (refine wpList_store_all rfl 41 (.tmp 5) (.tmp 23) rfl w3.heap.size #[.slice A1 m1 c1, .slice A2 0 c2, .int .i64 0] rfl rfl _ _ (Blk.now _ _ _ _ rfl) rfl (by kernel_rfl) (by simp [Value.oneCell']) ?_; intro w4 BQ gq; have BQ := Lib.hid BQ; have GQ := Lib.hid (show Below w3.heap.size w3 w4 from ((Below.refl _ _).alloc (Nat.le_refl _) _).grown gq (by simp) (fun k h => by have := Option.some.inj h; omega)); clear gq; have q0 := BQ.out.cell 0; have q1 := BQ.out.cell 1)
    replace FR := Lib.hid (FR.out.fut GQ.out)
    refine (known29_any _).mono ?_
    rintro e w6 ⟨rfl, hb⟩
    replace FR := Lib.hid (FR.out.fut hb)
    clear hb
    go_wp2_with fail
    go_ret
    exact ⟨rfl, FR.out.out⟩
  subst he
  obtain ⟨hpl, ok⟩ := PO.out _ _ rfl
  simp only [Prod.mk.injEq] at hpl
  obtain ⟨⟨rfl, rfl, rfl⟩, hpp, rfl⟩ := hpl
  have OK := Lib.hid ok
  have h8 : n ≤ 8 := by rw [← HN.out]; exact ok.few
  obtain rfl : m1 = n + 1 := by rw [← S1.out.n_eq, ok.len, HN.out]
  obtain rfl : m2 = n + 1 := by rw [← S2.out.n_eq, atTo_len, HN.out]
  have e4 : ((n : Int) + 1 != (n : Int) + 1) = false := by simp
  have e5 : ((0 : Int) != 0) = false := rfl
  have PA := Lib.hid (fun (i v : Nat) (d : Node) (hd : l[i]? = some d) hv hvi => plan_apart' ok (i := i) (v := v) hd hv hvi)
  have PB := Lib.hid (fun k hk => plan_bd ok k hk)
  have PI := Lib.hid (fun k hk => plan_in (l := l) (sl := ps) k hk)
  have H3 := Lib.hid (H.out.later K3.out (Nat.le_refl _))
  clear PE PO hpp ok H K3
  rw [HN.out] at S2 PA PB PI ⊢
  obtain ⟨rm, hrm⟩ : ∃ x, roomTo (sizesV ps) (lastsV l) (n + 1) = x := ⟨_, rfl⟩
  obtain ⟨al, hal⟩ : ∃ x, atTo (sizesV ps) (lastsV l) (n + 1) = x := ⟨_, rfl⟩
  rw [hrm] at PI ⊢
  rw [hal] at S2 PA PB PI
  clear hrm hal
  go_wp2_with (refine wpList_store_all rfl 41 (.tmp 5) (.tmp 23) rfl w3.heap.size #[.slice A1 (n + 1) c1, .slice A2 (n + 1) c2, .int .i64 rm] rfl rfl _ _ (Blk.now _ _ _ _ rfl) rfl (by kernel_rfl) (by simp [Value.oneCell']) ?_; intro w4 BQ gq; have BQ := Lib.hid BQ; have GQ := Lib.hid (show Below w3.heap.size w3 w4 from ((Below.refl _ _).alloc (Nat.le_refl _) _).grown gq (by simp) (fun k h => by have := Option.some.inj h; omega)); clear gq; have q0 := BQ.out.cell 0; have q1 := BQ.out.cell 1)
  replace FR := Lib.hid (FR.out.fut GQ.out)
  replace S1 := Lib.hid (S1.out.fut GQ.out)
  replace S2 := Lib.hid (S2.out.fut GQ.out)
  replace H3 := Lib.hid (H3.out.later GQ.out (Nat.le_refl _))
  clear GQ e4 e5 q0 q1 BA
  go_loopw [8] (fun i wr => ∃ k : Nat, k ≤ n ∧ i = .int .i64 k ∧ Below w4.heap.size w4 wr) (fun i _ => n - (intOf i).toNat)
  case atStart => exact ⟨0, Nat.zero_le _, rfl, Below.refl _ _⟩
  case round =>
    obtain ⟨k, hk, rfl, hb⟩ := hrel
    have HB := Lib.hid hb
    clear hb
    by_cases hlt : k < n
    · have p1 : (k : Int) < (n : Int) := by omega
      obtain ⟨d, b0, off, W, nw, cw, B, nb, cb, hd, rfl, _, _, hin, hw8, hw32, hrg⟩ := (H3.out.below HB.out (fun _ h => h)).node_at k hlt
      have hth := OK.out.there k (by rw [HN.out]; exact hlt)
      rw [List.getD_eq_getElem?_getD, hd] at hth
      have hbd := there_bd (d := d) (n := (k : Int) + 1) hth
      have PK := Lib.hid (fun v hv hvi => PA.out k v d hd hv hvi)
      have r0 := hrg 0 _ rfl
      have r1 := hrg 1 _ rfl
      have r2 := hrg 2 _ rfl
      simp only [Nat.add_zero] at r0
      have ra : InK .i64 d.a := hin.a
      have rb : InK .i64 (secondV d) := by unfold secondV; split; exact hin.b; exact hin.a
      have SV := Lib.hid (show (if d.kind = 6 then d.b else d.a) = secondV d from rfl)
      obtain ⟨sv, hsv⟩ : ∃ x, secondV d = x := ⟨_, rfl⟩
      obtain ⟨da, hda⟩ : ∃ x, d.a = x := ⟨_, rfl⟩
      obtain ⟨db, hdb⟩ : ∃ x, d.b = x := ⟨_, rfl⟩
      obtain ⟨dk, hdk⟩ : ∃ x, d.kind = x := ⟨_, rfl⟩
      rw [hsv] at PK hbd rb SV
      rw [hda] at PK hbd ra r1 SV
      rw [hdb] at r2 SV
      rw [hdk] at r0 SV
      obtain ⟨B1, B2, B3, B4⟩ := hbd
      have zr := HB.out.size
      have RA := Lib.hid ra
      have RB := Lib.hid rb
      clear hd hin hw8 hw32 hrg hsv hda hdb hdk hth ra rb
      go_upto_region 11 with fail
      go_still_tail 10, (by kernel_rfl)
      change wpList _ _ _ _ _ wr.drew
      obtain ⟨w5, hw_w5⟩ : ∃ nw_, wr.drew.alloc (.cells #[.int .i64 da, .int .i64 da] 3) = nw_ := ⟨_, rfl⟩
      have k_w5 : Below wr.drew.heap.size wr.drew w5 := by rw [← hw_w5]; exact (Below.refl _ _).alloc (Nat.le_refl _) _
      have BT := Lib.hid (show Blk w5 wr.drew.heap.size 3 #[.int .i64 da, .int .i64 da] by rw [← hw_w5]; exact Blk.now _ _ _ _ rfl)
      clear k_w5
      have k5 : Below wr.heap.size wr w5 := by rw [← hw_w5]; exact (Below.refl _ _).drew.alloc (Nat.le_refl _) _
      have zw : wr.drew.heap.size = wr.heap.size := rfl
      have r0 := cell_later k5 r0
      have r2 := cell_later k5 r2
      rw [zw] at BT
      have K5 := Lib.hid (below_later k5 HB.out)
      clear k5 r1 zw
      go_upto_if 73 with fail
      clear hw_w5
      go_cut [] (fun wx => Blk wx wr.heap.size 3 #[.int .i64 da, .int .i64 sv] ∧ Below w4.heap.size w4 wx)
      case first =>
        by_cases k6 : dk = 6
        · rw [if_pos k6] at SV
          have t6 : (dk == 6) = true := by simpa using k6
          have f1 := BT.out.frozen 1
          have c1 : w5.cell? ⟨wr.heap.size, 1, none⟩ = some (.int .i64 da) := BT.out.cell 1
          have l5 := BT.out.lt
          clear k6
          go_wp2_with fail
          go_meet
          case rel => exact ⟨by rw [← SV.out]; exact BT.out.set_ 1 (.int .i64 db), K5.out.setCell zr _⟩
        · rw [if_neg k6] at SV
          have t6 : (dk == 6) = false := by simpa using k6
          clear k6
          go_wp2_with fail
          go_meet
          case rel => exact ⟨by rw [← SV.out]; exact BT.out, K5.out⟩
      case rest =>
      obtain ⟨bt, k6⟩ := hcut
      have ST := Lib.hid (show Sl (tInt .i64) wc (blo wc.heap.size) (some ⟨wr.heap.size, 0, none⟩) 2 2 [da, sv] from Sl.lit [da, sv] bt.heap rfl (by intro x hx; simp at hx; rcases hx with rfl | rfl; exact RA.out; exact RB.out) bt.lt rfl rfl (by simp [maxLen]))
      obtain ⟨w6, rfl⟩ : ∃ x, x = wc := ⟨_, rfl⟩
      have K6 := Lib.hid k6
      have zk := k6.size
      clear bt k6 BT K5 SV r0 r2 RA RB HB
      go_wp2_with fail
      go_loopw [10] (fun i wr => ∃ q : Nat, q ≤ 2 ∧ i = .int .i64 q ∧ Below w6.heap.size w6 wr) (fun i _ => 2 - (intOf i).toNat)
      case atStart => exact ⟨0, Nat.zero_le _, rfl, Below.refl _ _⟩
      case round =>
        obtain ⟨q, hq, rfl, hb⟩ := hrel
        have HB := Lib.hid hb
        have KB := Lib.hid (below_call K6.out hb zk)
        clear hb
        have q0 : ∀ x : Ext wr, x.1.cell? ⟨w3.heap.size, 0, none⟩ = some (.slice A1 (n + 1) c1) := fun x => (((BQ.out.fut KB.out).ext x).cell 0)
        have q1 : ∀ x : Ext wr, x.1.cell? ⟨w3.heap.size, 1, none⟩ = some (.slice A2 (n + 1) c2) := fun x => (((BQ.out.fut KB.out).ext x).cell 1)
        have q2 : ∀ x : Ext wr, x.1.cell? ⟨w3.heap.size, 2, none⟩ = some (.int .i64 rm) := fun x => (((BQ.out.fut KB.out).ext x).cell 2)
        obtain ⟨ba, offa, hA2, _, _, cb', ib⟩ := (S2.out.fut KB.out).int_at (k + 1) (by omega)
        obtain ⟨bs, offs, hA1, _, _, j1, j2, j3, _, rs⟩ := (S1.out.fut KB.out).shape_at (k + 1) (by omega)
        have hz := sizesV_get ps (k + 1) (by rw [OK.out.len, HN.out]; omega)
        have hb1 := PB.out (k + 1) (by omega)
        have hb2 := sizesV_bd ps (k + 1)
        have hpi := PI.out (k + 1) (by omega)
        have PQ := Lib.hid (fun v hv hvi => PK.out v hv hvi)
        obtain ⟨bv, hbv⟩ : ∃ x, al.getD (k + 1) 0 = x := ⟨_, rfl⟩
        rw [hbv] at cb' hb1 hpi PQ
        obtain ⟨⟨x1, y1, z1⟩, hx⟩ : ∃ x, ps.getD (k + 1) (0, 0, 0) = x := ⟨_, rfl⟩
        rw [hx] at rs hz j1 j2 j3
        simp only at rs hz j1 j2 j3
        obtain ⟨e1, he1⟩ : ∃ x, elems x1 y1 z1 = x := ⟨_, rfl⟩
        rw [hz, he1] at hb1 hb2 hpi PQ
        have E1 := Lib.hid (fun w => relems_any x1 z1 y1 w j1 j2 j3)
        rw [he1] at E1
        have RS := Lib.hid rs
        clear hbv hx hz he1 j1 j2 j3 rs ib
        have CB := Lib.hid (fun x : Ext wr => ext_cell cb' x)
        have cbx := CB.out
        by_cases hlq : q < 2
        · have p2 : (q : Int) < 2 := by omega
          obtain ⟨g, o, hg, _, _, ct, _⟩ := (ST.out.fut HB.out).int_at q hlq
          cases hg
          rw [Nat.zero_add] at ct
          have hv : (0 ≤ [da, sv].getD q 0 ∧ [da, sv].getD q 0 < (k : Int) + 1) ∧ ([da, sv].getD q 0 = da ∨ [da, sv].getD q 0 = sv) := by
            match q, hlq with
            | 0, _ => exact ⟨⟨B1, B2⟩, .inl rfl⟩
            | 1, _ => exact ⟨⟨B3, B4⟩, .inr rfl⟩
          obtain ⟨⟨v1, v2⟩, v3⟩ := hv
          obtain ⟨vn, hvn⟩ : ∃ vn : Nat, [da, sv].getD q 0 = (vn : Int) := ⟨([da, sv].getD q 0).toNat, by omega⟩
          rw [hvn] at ct v1 v2 v3
          have hvk : vn ≤ k := by omega
          have PV := Lib.hid (PQ.out vn v3 hvk)
          obtain ⟨ba', offa', hA2', _, _, ca', ia⟩ := (S2.out.fut KB.out).int_at vn (by omega)
          rw [hA2] at hA2'
          cases hA2'
          obtain ⟨bs', offs', hA1', _, _, j1, j2, j3, _, rs'⟩ := (S1.out.fut KB.out).shape_at vn (by omega)
          rw [hA1] at hA1'
          cases hA1'
          have hz := sizesV_get ps vn (by rw [OK.out.len, HN.out]; omega)
          have hc1 := PB.out vn (by omega)
          have hc2 := sizesV_bd ps vn
          obtain ⟨av, hav⟩ : ∃ x, al.getD vn 0 = x := ⟨_, rfl⟩
          rw [hav] at ca' hc1 PV
          obtain ⟨⟨x2, y2, z2⟩, hx⟩ : ∃ x, ps.getD vn (0, 0, 0) = x := ⟨_, rfl⟩
          rw [hx] at rs' hz j1 j2 j3
          simp only at rs' hz j1 j2 j3
          obtain ⟨e2, he2⟩ : ∃ x, elems x2 y2 z2 = x := ⟨_, rfl⟩
          rw [hz, he2] at hc1 hc2 PV
          have E2 := Lib.hid (fun w => relems_any x2 z2 y2 w j1 j2 j3)
          rw [he2] at E2
          have RS' := Lib.hid rs'
          clear hav hx hz he2 j1 j2 j3 rs' ia hvn v3
          have CA := Lib.hid (fun x : Ext wr => ext_cell ca' x)
          have cax := CA.out
          obtain ⟨b1, b2⟩ := hb1
          obtain ⟨b3, b4⟩ := hb2
          obtain ⟨b5, b6⟩ := hc1
          obtain ⟨b7, b8⟩ := hc2
          subst hA2 hA1
          have p3 : (vn : Int) < (n : Int) + 1 := by omega
          have p4 : (k : Int) + 1 < (n : Int) + 1 := by omega
          have t1 : decide ((vn : Int) < 0) = false := by simp
          have t2 : decide ((k : Int) < (vn : Int)) = false := by simp; omega
          clear hpi cb' ca' PB PI PK PQ
          go_upto_region 20 with fail
          clear ct
          (try simp only [Act.put])
          refine wp_region_ext wr (by kernel_rfl) (by kernel_rfl) (Below.refl _ _) ?_
          repeat (go_big_quiet_step (fail))
          refine wpQuiet_nil ?_
          rintro _ ⟨⟨wa, hba⟩, rfl⟩
          have KA := Lib.hid (below_call HB.out hba HB.out.size)
          have RS := Lib.hid (rangeAt_later RS.out hba)
          have RS' := Lib.hid (rangeAt_later RS'.out hba)
          have BZ := Lib.hid ((BQ.out.fut KB.out).fut hba)
          clear q0 q1 q2 cbx cax hba
          have q0' := BZ.out.cell 0
          go_wp2_with (refine wpList_load_mid rfl 24 (.tmp 113) rfl bs (offs + (k + 1) * 3) rfl _ _ RS.out Try.underlying24 rfl (by kernel_rfl) ?_)
          refine (E1.out _).mono ?_
          rintro e w7 ⟨rfl, hb⟩
          have K7 := Lib.hid (below_later hb KA.out)
          have RS' := Lib.hid (rangeAt_later RS'.out hb)
          have BZ := Lib.hid (BZ.out.fut hb)
          clear hb E1 RS q0'
          have q0 := BZ.out.cell 0
          by_cases g1 : av < bv + e1
          · have s1 : decide (av < bv + e1) = true := decide_eq_true g1
            have g2 : ¬ bv < av + e2 := fun h => PV.out g1 h
            have s2 : decide (bv < av + e2) = false := decide_eq_false g2
            clear g1 g2 PV
            go_wp2_with (refine wpList_load_midw (by kernel_rfl) 24 (.tmp 124) rfl bs (offs + vn * 3) rfl _ _ RS'.out Try.underlying24 rfl (by kernel_rfl) ?_)
            refine (E2.out _).mono ?_
            rintro e w8 ⟨rfl, hb⟩
            have K8 := Lib.hid (below_later hb K7.out)
            clear hb
            go_wp2_with fail
            exact ⟨⟨q + 1, by omega, by go_num, K8.out⟩, by simp [intOf]; omega⟩
          · have s1 : decide (av < bv + e1) = false := decide_eq_false g1
            clear g1 PV
            go_wp2_with fail
            exact ⟨⟨q + 1, by omega, by go_num, K7.out⟩, by simp [intOf]; omega⟩
        · obtain rfl : q = 2 := by omega
          subst hA2 hA1
          have p4 : (k : Int) + 1 < (n : Int) + 1 := by omega
          obtain ⟨b1, b2⟩ := hb1
          obtain ⟨b3, b4⟩ := hb2
          have s1 : decide (rm < bv + e1) = false := by simp; omega
          have E1x := Lib.hid (fun x : Ext wr => calls_ext x (E1.out x.1))
          have RX := Lib.hid (fun x : Ext wr => rangeAt_ext RS.out x)
          clear hpi cb' PB PI PK PQ hlq hq E1
          go_upto_region 23 with fail
          (try simp only [Act.put])
          refine wp_region_ext wr (by kernel_rfl) (by kernel_rfl) (Below.refl _ _) ?_
          go_big_quiet_step (fail)
          go_big_quiet_step (fail)
          go_big_quiet_step (fail)
          go_big_quiet_step (fail)
          go_big_quiet_step (fail)
          go_big_quiet_step (fail)
          go_big_quiet_step (fail)
          go_big_quiet_step (fail)
          go_big_quiet_step (fail)
          go_big_quiet_step (fail)
          go_big_quiet_step (fail)
          refine wpQuiet_load_mid (by kernel_rfl) 24 (.tmp 140) rfl bs (offs + (k + 1) * 3) rfl _ _ (by rintro _ ⟨x, rfl⟩; exact RX.out x) Try.underlying24 rfl (by kernel_rfl) ?_
          simp only [Act.put, List.getElem_toArray, List.getElem_cons_succ, List.getElem_cons_zero, List.setIfInBounds_toArray, List.set_cons_zero, List.set_cons_succ]
          repeat (go_big_quiet_step ((exact E1x.out _)))
          refine wpQuiet_nil ?_
          rintro _ ⟨⟨wa, hba⟩, rfl⟩
          have KA := Lib.hid (below_call KB.out hba (Nat.le_trans zk HB.out.size))
          clear q0 q1 q2 cbx hba
          go_wp2_with fail
          exact ⟨⟨k + 1, by omega, by go_num, KA.out⟩, by simp [intOf]; omega⟩
    · obtain rfl : k = n := by omega
      have F7 := Lib.hid (FR.out.fut HB.out)
      clear hlt hk
      go_wp2_with fail
      refine (known29_any _).mono ?_
      rintro e w8 ⟨rfl, hb⟩
      go_wp2_with fail
      go_ret
      exact ⟨rfl, (F7.out.fut hb).out⟩

theorem sapart_walk (A : Option Addr) (n cap : Nat) (l : List Node) {W : World} (hs : Sl tNode W (blo W.heap.size) A n cap l) (cs : Array Value) (y : Sh3) (hy : tShape.rep W (blo W.heap.size) cs.toList y) (w : World) (e : W = w) :
    Calls Try.prog 5 #[.slice A n cap, .agg cs] w fun e w' => e = .returned (.bool true) ∧ Below w.heap.size w w' := by
  subst e
  obtain ⟨x, y, z⟩ := y
  obtain ⟨_, _, h0, ⟨rfl, h1⟩, _, _, rfl, ⟨rfl, h2⟩, rfl, h3⟩ := hy
  obtain rfl : cs = #[.int .i64 x, .int .i64 y, .int .i64 z] := by rw [← Array.toArray_toList (xs := cs), h0]; rfl
  exact sapart_any A n cap l x y z W hs h1 h2 h3
end Go.Proofs.Ytlpejbopdmledaa
