/-
  Ops (layer 44): op.read and its closure.
  Conditions: the library's tables lie as they are laid; at least one word; at most 2^40 bytes a word.
-/
import Derived.Test.YthnhknomjepijaaDoorOpJ
import Derived.Test.YthnhknomjepijaaDoorExt
import Derived.Test.YthnhknomjepijaaDoorRows2
namespace Go.Proofs.YthnhknomjepijaaDoor
set_option linter.unusedVariables false
set_option linter.unusedSimpArgs false
open Go.RowKit Go.ChangeShapes Go.WideShapes
set_option maxRecDepth 100000
set_option maxHeartbeats 4000000

def nxt (l : List ByteArray) (p : Nat) (is : Bool) : ByteArray × Nat := if is = true ∧ p < l.length then (l.getD p ⟨#[]⟩, p + 1) else (⟨#[]⟩, p)
theorem str_at {w : World} {S : Nat → Prop} {A : Option Addr} {n cap : Nat} {l : List ByteArray} (h : Sl tStr w S A n cap l) (i : Nat) (hi : i < n) : ∃ b off, A = some ⟨b, off, none⟩ ∧ S b ∧ b < w.heap.size ∧ w.cell? ⟨b, off + i, none⟩ = some (.string (l.getD i ⟨#[]⟩)) ∧ (l.getD i ⟨#[]⟩).size ≤ maxLen := by
  obtain ⟨x, b, off, xs, hx, rfl, hS, hb, hr, _, hc⟩ := h.cells i hi (by decide)
  obtain ⟨rfl, hz⟩ := hr
  rw [List.getD_eq_getElem?_getD, hx]
  refine ⟨b, off, rfl, hS, hb, ?_, hz⟩
  have := hc 0 _ rfl
  simpa [tStr] using this

theorem readNext_any (is : Bool) (ga gl p : Nat) (A : Option Addr) (n cap : Nat) (l : List ByteArray) (S : Nat → Prop) (w : World) (ba : Blk w ga 3 #[.int .i64 (p : Int)]) (bl : Blk w gl 46 #[.slice A n cap]) (hs : Sl tStr w S A n cap l) (hS : ¬ S ga) (hp : p < 1000000) :
    Calls Tryd.prog 42 #[.bool is, .pointer (some ⟨ga, 0, none⟩), .pointer (some ⟨gl, 0, none⟩)] w fun e w' => e = .returned (.string (nxt l p is).1) ∧ Blk w' ga 3 #[.int .i64 ((nxt l p is).2 : Int)] ∧ w.grownBy w' (some ga) := by
  have BA := Lib.hid ba
  have BLL := Lib.hid bl
  have HS := Lib.hid hs
  have SN := Lib.hid hS
  have HN := Lib.hid hs.n_eq
  have a0 := BA.out.cell 0
  have b0 := BLL.out.cell 0
  simp only [List.getElem?_toArray, List.getElem?_cons_succ, List.getElem?_cons_zero] at a0 b0
  have HV := Lib.hid (show nxt l p is = if is = true ∧ p < l.length then (l.getD p ⟨#[]⟩, p + 1) else (⟨#[]⟩, p) from rfl)
  have G0 := Lib.hid (show w.grownBy w (some ga) from ⟨rfl, rfl, rfl, Nat.le_refl _, fun _ _ _ => rfl⟩)
  clear ba bl hs hS
  rw [HN.out] at HV
  obtain ⟨⟨x, q⟩, hv⟩ : ∃ r, nxt l p is = r := ⟨_, rfl⟩
  rw [hv] at HV ⊢
  clear hv
  cases is with
  | false =>
    have RV := Lib.hid (show (x, q) = (⟨#[]⟩, p) from HV.out)
    go_enter Tryd.func42, Tryd.ntmps42
    go_wp2_with fail
    go_ret
    obtain ⟨rfl, rfl⟩ := Prod.mk.inj RV.out
    exact ⟨rfl, BA.out, G0.out⟩
  | true =>
    by_cases c : p < n
    · have RV := Lib.hid (show (x, q) = (l.getD p ⟨#[]⟩, p + 1) by rw [HV.out, if_pos ⟨rfl, c⟩])
      obtain ⟨b, off, rfl, hSb, -, cx, -⟩ := str_at HS.out p c
      obtain ⟨y, hy⟩ : ∃ y, l.getD p ⟨#[]⟩ = y := ⟨_, rfl⟩
      rw [hy] at cx RV
      have CX := Lib.hid cx
      have NB := Lib.hid (show some b ≠ some ga from fun e => SN.out (Option.some.inj e ▸ hSb))
      have p1 : ¬ (n : Int) ≤ (p : Int) := by omega
      have p2 : (p : Int) < (n : Int) := by omega
      have e1 : IntKind.i64.wrap ((p : Int) + 1) = ((p + 1 : Nat) : Int) := (IntWalk.i64_in _ (by omega)).trans (by simp)
      obtain ⟨q1, hq1⟩ : ∃ q1, p + 1 = q1 := ⟨_, rfl⟩
      rw [hq1] at e1 RV
      have e2 : IntKind.i64.wrap ((q1 : Int) - 1) = (p : Int) := (IntWalk.i64_in _ (by omega)).trans (by omega)
      have GL := Lib.hid (show some gl ≠ some ga from fun e => by
        have h1 := BA.out.cell 0
        have h2 := BLL.out.cell 0
        rw [Option.some.inj e] at h2
        have := h1.symm.trans h2
        cases this)
      clear hy c hq1 hSb
      go_enter Tryd.func42, Tryd.ntmps42
      go_wp2_with (refine wpList_store_one rfl 3 (.tmp 1) (.tmp 14) rfl ga 0 (.int .i64 (q1 : Int)) rfl rfl rfl rfl _ _ #[.int .i64 (q1 : Int)] BA.out (by simp) (by kernel_rfl) rfl ?_; intro w2 BA2 g2; clear a0 b0; have a0 := BA2.cell 0; have b0 := (BLL.out.rowR g2 GL.out).cell 0; have cy : w2.cell? ⟨b, off + p, none⟩ = some (.string y) := cell_grown g2 CX.out NB.out; simp only [List.getElem?_toArray, List.getElem?_cons_succ, List.getElem?_cons_zero] at a0 b0; clear cx)
      go_ret
      obtain ⟨rfl, rfl⟩ := Prod.mk.inj RV.out
      exact ⟨rfl, BA2, g2⟩
    · have RV := Lib.hid (show (x, q) = (⟨#[]⟩, p) by rw [HV.out, if_neg (fun h => c h.2)])
      have p1 : (n : Int) ≤ (p : Int) := by omega
      clear c
      go_enter Tryd.func42, Tryd.ntmps42
      go_wp2_with fail
      go_ret
      obtain ⟨rfl, rfl⟩ := Prod.mk.inj RV.out
      exact ⟨rfl, BA.out, G0.out⟩

def kindK (s : ByteArray) : Nat → Int
  | 0 => 0
  | j + 1 => if 0 < j ∧ wordB j = s then j else kindK s j
def readO (l : List ByteArray) : Opd :=
  ⟨kindK (l.getD 0 ⟨#[]⟩) 7,
   (numV (nxt l (nxt l (nxt l 1 (tel0 (kindK (l.getD 0 ⟨#[]⟩) 7))).2 (tel1 (kindK (l.getD 0 ⟨#[]⟩) 7))).2 (tel2 (kindK (l.getD 0 ⟨#[]⟩) 7))).1.data.toList).getD 0,
   (numV (nxt l (nxt l 1 (tel0 (kindK (l.getD 0 ⟨#[]⟩) 7))).2 (tel1 (kindK (l.getD 0 ⟨#[]⟩) 7))).1.data.toList).getD 0,
   (unhexB (nums (nxt l 1 (tel0 (kindK (l.getD 0 ⟨#[]⟩) 7))).1)).getD []⟩
def RetOp (o : Opd) (w : World) (e : Ending) (w' : World) : Prop :=
  ∃ A m cap, e = .returned (.agg #[.int .i64 o.kind, .int .i64 o.n, .int .i64 o.d, .slice A m cap]) ∧ Sl (tInt .u8) w' (bin w.heap.size w'.heap.size) A m cap o.data ∧ Below w.heap.size w w'
theorem nxt_size {l : List ByteArray} {p : Nat} {b : Bool} (h : ∀ x ∈ l, x.size ≤ 1099511627776) : (nxt l p b).1.size ≤ 1099511627776 ∧ (nxt l p b).2 ≤ p + 1 := by
  unfold nxt
  split
  · rename_i q
    refine ⟨?_, Nat.le_refl _⟩
    show (l.getD p ⟨#[]⟩).size ≤ _
    rw [List.getD_eq_getElem?_getD, List.getElem?_eq_getElem q.2]
    exact h _ (List.getElem_mem _)
  · exact ⟨by show ByteArray.size ⟨#[]⟩ ≤ _; decide, Nat.le_succ _⟩

theorem opRead_any (A : Option Addr) (n cap : Nat) (l : List ByteArray) (w : World) (hs : Sl tStr w (blo w.heap.size) A n cap l) (h1 : 1 ≤ n) (hz : ∀ x ∈ l, x.size ≤ 1099511627776) (hw : LW w) :
    Calls Tryd.prog 27 #[.slice A n cap] w (RetOp (readO l) w) := by
  have FR := Lib.hid (Far.refl w)
  have HL := Lib.hid hw
  have NS := Lib.hid (fun p b => nxt_size (l := l) (p := p) (b := b) hz)
  obtain ⟨bs, os, rfl, hSb, hbs, c0, hzl⟩ := str_at hs 0 h1
  have HS := Lib.hid (Old.now hs)
  have HSW := Lib.hid (Old.now hs)
  have HR := Lib.hid (show readO l = readO l from rfl)
  unfold readO at HR
  obtain ⟨r, hr⟩ : ∃ r, readO l = r := ⟨_, rfl⟩
  have HR2 := Lib.hid (show r = _ from hr.symm.trans HR.out)
  obtain ⟨s0, hs0⟩ : ∃ s, l.getD 0 ⟨#[]⟩ = s := ⟨_, rfl⟩
  rw [hs0] at HR2 c0
  rw [hr]
  have C0 := Lib.hid c0
  have SB := Lib.hid hSb
  have h1n : (0 : Int) < (n : Int) := by omega
  clear hs HR hr hs0 hw hz hzl hSb hbs c0
  obtain ⟨w1, hw_w1⟩ : ∃ nw_, w.alloc (.cells #[.slice (some ⟨bs, os, none⟩) n cap] 46) = nw_ := ⟨_, rfl⟩
  have k_w1 : Below w.heap.size w w1 := by rw [← hw_w1]; exact (Below.refl _ _).alloc (Nat.le_refl _) _
  replace FR := Lib.hid (FR.out.fut k_w1)
  replace HS := Lib.hid (HS.out.fut k_w1)
  have BX := Lib.hid (show Blk w1 w.heap.size 46 #[.slice (some ⟨bs, os, none⟩) n cap] by rw [← hw_w1]; exact Blk.now _ _ _ _ rfl)
  clear k_w1
  obtain ⟨w2, hw_w2⟩ : ∃ nw_, w1.alloc (.cells #[.int .i64 0, .int .i64 0, .int .i64 0, .slice none 0 0] 24) = nw_ := ⟨_, rfl⟩
  have k_w2 : Below w1.heap.size w1 w2 := by rw [← hw_w2]; exact (Below.refl _ _).alloc (Nat.le_refl _) _
  replace FR := Lib.hid (FR.out.fut k_w2)
  replace HS := Lib.hid (HS.out.fut k_w2)
  replace BX := Lib.hid (BX.out.fut k_w2)
  have BR := Lib.hid (show Blk w2 w1.heap.size 24 #[.int .i64 0, .int .i64 0, .int .i64 0, .slice none 0 0] by rw [← hw_w2]; exact Blk.now _ _ _ _ rfl)
  clear k_w2
  obtain ⟨w3, hw_w3⟩ : ∃ nw_, w2.alloc (.cells #[.int .i64 0, .int .i64 0, .int .i64 0, .slice none 0 0] 24) = nw_ := ⟨_, rfl⟩
  have k_w3 : Below w2.heap.size w2 w3 := by rw [← hw_w3]; exact (Below.refl _ _).alloc (Nat.le_refl _) _
  replace FR := Lib.hid (FR.out.fut k_w3)
  replace HS := Lib.hid (HS.out.fut k_w3)
  replace BX := Lib.hid (BX.out.fut k_w3)
  replace BR := Lib.hid (BR.out.fut k_w3)
  have BO := Lib.hid (show Blk w3 w2.heap.size 24 #[.int .i64 0, .int .i64 0, .int .i64 0, .slice none 0 0] by rw [← hw_w3]; exact Blk.now _ _ _ _ rfl)
  clear k_w3
  have l1 : w.heap.size < w1.heap.size := by rw [← hw_w1]; simp
  have l2 : w1.heap.size < w2.heap.size := by rw [← hw_w2]; simp
  go_enter Tryd.func27, Tryd.ntmps27
  go_wp2_with (refine wpList_store_all rfl 24 (.tmp 3) (.tmp 8) rfl w2.heap.size #[.int .i64 0, .int .i64 0, .int .i64 0, .slice none 0 0] rfl rfl _ _ BO.out rfl (by kernel_rfl) (by simp [Value.oneCell']) ?_; intro w4 o4 g4; replace FR := Lib.hid (FR.out.away g4 (by omega)); replace HS := Lib.hid (HS.out.away g4 (by omega)); replace BX := Lib.hid (BX.out.away g4 (by omega)); replace BR := Lib.hid (BR.out.away g4 (by omega)); replace BO := Lib.hid o4; clear o4 g4 hw_w1 hw_w2 hw_w3)
  go_loopw [9] (fun i wr => ∃ j : Nat, j ≤ 7 ∧ i = .int .i64 j ∧ Blk wr w2.heap.size 24 #[.int .i64 (kindK s0 j), .int .i64 0, .int .i64 0, .slice none 0 0] ∧ Blk wr w1.heap.size 24 #[.int .i64 0, .int .i64 0, .int .i64 0, .slice none 0 0] ∧ Blk wr w.heap.size 46 #[.slice (some ⟨bs, os, none⟩) n cap] ∧ Below w.heap.size w wr) (fun i _ => 7 - (intOf i).toNat)
  case atStart => exact ⟨0, by omega, rfl, BO.out, BR.out, BX.out, FR.out.out⟩
  case round =>
    clear BO BR BX FR HS
    obtain ⟨j, hj, rfl, hBO, hBR, hBX, hb⟩ := hrel
    have BO := Lib.hid hBO
    have BR := Lib.hid hBR
    have BX := Lib.hid hBX
    have FR := Lib.hid (show Far w wr from ⟨hb⟩)
    clear hBO hBR hBX hb
    by_cases hlt : j < 7
    · have p1 : (j : Int) < 7 := by omega
      have x0 : ∀ (x : Ext wr), x.1.cell? ⟨w.heap.size, 0, none⟩ = some (.slice (some ⟨bs, os, none⟩) n cap) := fun x => (BX.out.ext x).cell 0
      have x1 : ∀ (x : Ext wr), x.1.cell? ⟨bs, os, none⟩ = some (.string s0) := fun x => ext_cell ((FR.out.out.cell (show bs < w.heap.size from SB.out)).trans C0.out) x
      have E1 := Lib.hid (fun x : Ext wr => calls_ext x (opWord_any (j : Int) x.1))
      have HK := Lib.hid (show kindK s0 (j + 1) = if 0 < j ∧ wordB j = s0 then (j : Int) else kindK s0 j from rfl)
      obtain ⟨wb, hwb⟩ : ∃ x, wordB (j : Int) = x := ⟨_, rfl⟩
      rw [hwb] at E1 HK
      have gi : IntKind.i64.wrap ((j : Int) + 1) = ((j + 1 : Nat) : Int) := (IntWalk.i64_in _ (by omega)).trans (by simp)
      clear hwb
      by_cases c : 0 < j ∧ wb = s0
      · have p2 : 0 < j := by omega
        obtain rfl := c.2
        have t1 : (wb.toList == wb.toList) = true := by simp
        have HK2 := Lib.hid (show kindK wb (j + 1) = (j : Int) by rw [HK.out, if_pos c])
        clear c HK
        go_upto_region 5 with fail
        refine wp_region_ext wr (by kernel_rfl) (by kernel_rfl) (Below.refl _ _) ?_
        repeat (go_big_quiet_step ((exact E1.out _)))
        refine wpQuiet_nil ?_
        rintro wa ⟨⟨_, hb⟩, rfl⟩
        replace FR := Lib.hid (FR.out.fut hb); replace BO := Lib.hid (BO.out.fut hb); replace BX := Lib.hid (BX.out.fut hb); replace BR := Lib.hid (BR.out.fut hb)
        clear x0 x1 hb
        go_wp2_with (refine wpList_store_one rfl _ (.tmp 23) (.tmp 22) rfl w2.heap.size 0 (.int .i64 (j : Int)) rfl rfl rfl rfl _ _ #[.int .i64 (j : Int), .int .i64 0, .int .i64 0, .slice none 0 0] BO.out (by simp) (by kernel_rfl) rfl ?_; intro w6 o6 g6; replace FR := Lib.hid (FR.out.away g6 (by omega)); replace BX := Lib.hid (BX.out.away g6 (by omega)); replace BR := Lib.hid (BR.out.away g6 (by omega)); replace BO := Lib.hid o6; clear o6 g6)
        exact ⟨⟨j + 1, by omega, by go_num, by rw [HK2.out]; exact BO.out, BR.out, BX.out, FR.out.out⟩, by simp [intOf]; omega⟩
      · have HK2 := Lib.hid (show kindK s0 (j + 1) = kindK s0 j by rw [HK.out, if_neg c])
        obtain ⟨kk, hkk⟩ : ∃ x, kindK s0 j = x := ⟨_, rfl⟩
        rw [hkk] at HK2 BO
        clear HK hkk
        by_cases c0 : 0 < j
        · have p2 : 0 < j := by omega
          have t1 : (wb.toList == s0.toList) = false := by
            rw [Bool.eq_false_iff]
            intro e
            rw [beq_iff_eq, ByteArray.toList_eq, ByteArray.toList_eq] at e
            exact c ⟨c0, WideShapes.bytes_inj e⟩
          clear c c0
          go_upto_region 5 with fail
          refine wp_region_ext wr (by kernel_rfl) (by kernel_rfl) (Below.refl _ _) ?_
          repeat (go_big_quiet_step ((exact E1.out _)))
          refine wpQuiet_nil ?_
          rintro wa ⟨⟨_, hb⟩, rfl⟩
          replace FR := Lib.hid (FR.out.fut hb); replace BO := Lib.hid (BO.out.fut hb); replace BX := Lib.hid (BX.out.fut hb); replace BR := Lib.hid (BR.out.fut hb)
          clear x0 x1 hb
          go_wp2_with fail
          exact ⟨⟨j + 1, by omega, by go_num, by rw [HK2.out]; exact BO.out, BR.out, BX.out, FR.out.out⟩, by simp [intOf]; omega⟩
        · have p2 : decide (0 < j) = false := by simpa using c0
          clear c c0
          go_upto_region 5 with fail
          refine wp_region_ext wr (by kernel_rfl) (by kernel_rfl) (Below.refl _ _) ?_
          repeat (go_big_quiet_step (fail))
          refine wpQuiet_nil ?_
          rintro wa ⟨⟨_, hb⟩, rfl⟩
          replace FR := Lib.hid (FR.out.fut hb); replace BO := Lib.hid (BO.out.fut hb); replace BX := Lib.hid (BX.out.fut hb); replace BR := Lib.hid (BR.out.fut hb)
          clear x0 x1 hb
          go_wp2_with fail
          exact ⟨⟨j + 1, by omega, by go_num, by rw [HK2.out]; exact BO.out, BR.out, BX.out, FR.out.out⟩, by simp [intOf]; omega⟩
    · obtain rfl : j = 7 := by omega
      obtain ⟨k, hk⟩ : ∃ x, kindK s0 7 = x := ⟨_, rfl⟩
      rw [hk] at BO HR2
      obtain ⟨b0, hb0⟩ : ∃ x, tel0 k = x := ⟨_, rfl⟩
      obtain ⟨b1, hb1⟩ : ∃ x, tel1 k = x := ⟨_, rfl⟩
      obtain ⟨b2, hb2⟩ : ∃ x, tel2 k = x := ⟨_, rfl⟩
      have TO := opTold_any k wr
      rw [hb0, hb1, hb2] at TO HR2
      obtain ⟨p0, hp0⟩ : ∃ p : Nat, 1 = p := ⟨_, rfl⟩
      have N0 := NS.out 1 b0
      rw [hp0] at N0 HR2
      obtain ⟨⟨sA, p1⟩, ha⟩ : ∃ x, nxt l p0 b0 = x := ⟨_, rfl⟩
      rw [ha] at HR2 N0
      have N1 := NS.out p1 b1
      obtain ⟨⟨sB, p2⟩, hbb⟩ : ∃ x, nxt l p1 b1 = x := ⟨_, rfl⟩
      simp only at HR2
      rw [hbb] at HR2 N1
      have N2 := NS.out p2 b2
      obtain ⟨⟨sC, p3⟩, hc⟩ : ∃ x, nxt l p2 b2 = x := ⟨_, rfl⟩
      simp only at HR2
      rw [hc] at HR2 N2
      obtain ⟨ud, hu⟩ : ∃ x, unhexB (nums sA) = x := ⟨_, rfl⟩
      obtain ⟨dd, hdd⟩ : ∃ x, numV sB.data.toList = x := ⟨_, rfl⟩
      obtain ⟨nn, hnn⟩ : ∃ x, numV sC.data.toList = x := ⟨_, rfl⟩
      simp only at HR2 N0 N1 N2
      rw [hu, hdd, hnn] at HR2
      have hx0 := Lib.hid ha
      have hx1 := Lib.hid hbb
      have hx2 := Lib.hid hc
      have hud := Lib.hid hu
      have hdv := Lib.hid hdd
      have hnv := Lib.hid hnn
      have ZA := Lib.hid N0.1
      have ZB := Lib.hid N1.1
      have ZC := Lib.hid N2.1
      have PB0 := Lib.hid (show p0 ≤ 1 by omega)
      have PB1 := Lib.hid (show p1 ≤ 2 by omega)
      have PB2 := Lib.hid (show p2 ≤ 3 by omega)
      have HP0 := Lib.hid hp0
      have TOH := Lib.hid TO
      have HS := Lib.hid (show Old w tStr wr (some ⟨bs, os, none⟩) n cap l from HSW.out.fut FR.out.out)
      clear hk hb0 hb1 hb2 TO hp0 ha hbb hc hu hdd hnn N0 N1 N2 NS hlt hj SB C0
      have k0 := BO.out.cell 0
      simp only [List.getElem?_toArray, List.getElem?_cons_succ, List.getElem?_cons_zero] at k0
      go_wp2_with fail
      refine (TOH.out).mono ?_
      rintro e T ⟨rfl, hb⟩
      replace FR := Lib.hid (FR.out.fut hb); replace HS := Lib.hid (HS.out.fut hb); replace BX := Lib.hid (BX.out.fut hb); replace BR := Lib.hid (BR.out.fut hb); replace BO := Lib.hid (BO.out.fut hb)
      clear hb k0
      have l3 : w2.heap.size < T.heap.size := BO.out.lt
      obtain ⟨w7, hw_w7⟩ : ∃ nw_, T.alloc (.cells #[.bool false, .bool false, .bool false] 53) = nw_ := ⟨_, rfl⟩
      have k_w7 : Below T.heap.size T w7 := by rw [← hw_w7]; exact (Below.refl _ _).alloc (Nat.le_refl _) _
      replace FR := Lib.hid (FR.out.fut k_w7)
      replace HS := Lib.hid (HS.out.fut k_w7)
      replace BX := Lib.hid (BX.out.fut k_w7)
      replace BR := Lib.hid (BR.out.fut k_w7)
      replace BO := Lib.hid (BO.out.fut k_w7)
      have BT := Lib.hid (show Blk w7 T.heap.size 53 #[.bool false, .bool false, .bool false] by rw [← hw_w7]; exact Blk.now _ _ _ _ rfl)
      clear k_w7
      obtain ⟨w8, hw_w8⟩ : ∃ nw_, w7.alloc (.cells #[.int .i64 0] 3) = nw_ := ⟨_, rfl⟩
      have k_w8 : Below w7.heap.size w7 w8 := by rw [← hw_w8]; exact (Below.refl _ _).alloc (Nat.le_refl _) _
      replace FR := Lib.hid (FR.out.fut k_w8)
      replace HS := Lib.hid (HS.out.fut k_w8)
      replace BX := Lib.hid (BX.out.fut k_w8)
      replace BR := Lib.hid (BR.out.fut k_w8)
      replace BO := Lib.hid (BO.out.fut k_w8)
      replace BT := Lib.hid (BT.out.fut k_w8)
      have BA := Lib.hid (show Blk w8 w7.heap.size 3 #[.int .i64 0] by rw [← hw_w8]; exact Blk.now _ _ _ _ rfl)
      clear k_w8
      have l4 : T.heap.size < w7.heap.size := by rw [← hw_w7]; simp
      have SNA := Lib.hid (show ¬ blo w.heap.size w7.heap.size from fun h => absurd (show w7.heap.size < w.heap.size from h) (by omega))
      go_wp2_with (first | (refine wpList_store_all rfl 53 (.tmp 5) (.tmp 27) rfl T.heap.size #[.bool b0, .bool b1, .bool b2] rfl rfl _ _ BT.out rfl (by kernel_rfl) (by simp [Value.oneCell']) ?_; intro w0y o6 g6; replace FR := Lib.hid (FR.out.away g6 (by omega)); replace HS := Lib.hid (HS.out.away g6 (by omega)); replace BX := Lib.hid (BX.out.away g6 (by omega)); replace BR := Lib.hid (BR.out.away g6 (by omega)); replace BO := Lib.hid (BO.out.away g6 (by omega)); replace BA := Lib.hid (BA.out.away g6 (by omega)); replace BT := Lib.hid o6; clear o6 g6 hw_w7 hw_w8) | (refine wpList_store_one rfl _ (.tmp 6) (.const (.int .i64 1)) rfl w7.heap.size 0 (.int .i64 1) rfl rfl rfl rfl _ _ #[.int .i64 1] BA.out (by simp) (by kernel_rfl) rfl ?_; intro w0z o6 g6; replace FR := Lib.hid (FR.out.away g6 (by omega)); replace HS := Lib.hid (HS.out.away g6 (by omega)); replace BX := Lib.hid (BX.out.away g6 (by omega)); replace BR := Lib.hid (BR.out.away g6 (by omega)); replace BO := Lib.hid (BO.out.away g6 (by omega)); replace BT := Lib.hid (BT.out.away g6 (by omega)); replace BA := Lib.hid (show Blk _ _ 3 #[.int .i64 (p0 : Int)] by rw [← HP0.out]; exact o6); clear o6 g6; (try clear k0); (try clear a0); (try clear a1); (try clear a2); have k0 := BO.out.cell 0; have a0 := BT.out.cell 0; have a1 := BT.out.cell 1; have a2 := BT.out.cell 2; simp only [List.getElem?_toArray, List.getElem?_cons_succ, List.getElem?_cons_zero] at k0 a0 a1 a2) | (go_at_call 42; with_reducible refine (readNext_any b0 w7.heap.size w.heap.size p0 (some ⟨bs, os, none⟩) n cap l (blo w.heap.size) _ BA.out BX.out HS.out.out SNA.out (by have := PB0.out; omega)).mono ?_; rintro e v1 ⟨rfl, oA, gA⟩; simp only [hx0.out] at oA ⊢; replace FR := Lib.hid (FR.out.away gA (by omega)); replace HS := Lib.hid (HS.out.away gA (by omega)); replace BX := Lib.hid (BX.out.away gA (by omega)); replace BR := Lib.hid (BR.out.away gA (by omega)); replace BO := Lib.hid (BO.out.away gA (by omega)); replace BT := Lib.hid (BT.out.away gA (by omega)); replace BA := Lib.hid oA; clear oA gA; (try clear k0); (try clear a0); (try clear a1); (try clear a2); have k0 := BO.out.cell 0; have a0 := BT.out.cell 0; have a1 := BT.out.cell 1; have a2 := BT.out.cell 2; simp only [List.getElem?_toArray, List.getElem?_cons_succ, List.getElem?_cons_zero] at k0 a0 a1 a2) | (go_at_call 15; refine (opUnhex_any sA _ ZA.out).mono ?_; rintro e v2 ⟨D, m, cD, rfl, sl, hb⟩; simp only [hud.out] at sl ⊢; have NW := Lib.hid (show New v1 (tInt .u8) v2 D m cD (ud.getD []) from ⟨sl⟩); have L7 : w7.heap.size < v1.heap.size := BA.out.lt; replace FR := Lib.hid (FR.out.fut hb); replace HS := Lib.hid (HS.out.fut hb); replace BX := Lib.hid (BX.out.fut hb); replace BR := Lib.hid (BR.out.fut hb); replace BO := Lib.hid (BO.out.fut hb); replace BT := Lib.hid (BT.out.fut hb); replace BA := Lib.hid (BA.out.fut hb); clear hb; clear sl; (try clear k0); (try clear a0); (try clear a1); (try clear a2); have k0 := BO.out.cell 0; have a0 := BT.out.cell 0; have a1 := BT.out.cell 1; have a2 := BT.out.cell 2; simp only [List.getElem?_toArray, List.getElem?_cons_succ, List.getElem?_cons_zero] at k0 a0 a1 a2) | (refine wpList_store_one rfl _ (.tmp 37) (.tmp 35) rfl w2.heap.size 3 (.slice D m cD) rfl rfl rfl rfl _ _ #[.int .i64 k, .int .i64 0, .int .i64 0, .slice D m cD] BO.out (by simp) (by kernel_rfl) rfl ?_; intro w0x o6 g6; replace FR := Lib.hid (FR.out.away g6 (by omega)); replace HS := Lib.hid (HS.out.away g6 (by omega)); replace BX := Lib.hid (BX.out.away g6 (by omega)); replace BR := Lib.hid (BR.out.away g6 (by omega)); replace BT := Lib.hid (BT.out.away g6 (by omega)); replace BA := Lib.hid (BA.out.away g6 (by omega)); replace NW := Lib.hid (NW.out.away g6 (by omega)); replace BO := Lib.hid o6; clear o6 g6; (try clear k0); (try clear a0); (try clear a1); (try clear a2); have k0 := BO.out.cell 0; have a0 := BT.out.cell 0; have a1 := BT.out.cell 1; have a2 := BT.out.cell 2; simp only [List.getElem?_toArray, List.getElem?_cons_succ, List.getElem?_cons_zero] at k0 a0 a1 a2) | (go_at_call 42; with_reducible refine (readNext_any b1 w7.heap.size w.heap.size p1 (some ⟨bs, os, none⟩) n cap l (blo w.heap.size) _ BA.out BX.out HS.out.out SNA.out (by have := PB1.out; omega)).mono ?_; rintro e v3 ⟨rfl, oA, gA⟩; simp only [hx1.out] at oA ⊢; replace FR := Lib.hid (FR.out.away gA (by omega)); replace HS := Lib.hid (HS.out.away gA (by omega)); replace BX := Lib.hid (BX.out.away gA (by omega)); replace BR := Lib.hid (BR.out.away gA (by omega)); replace BO := Lib.hid (BO.out.away gA (by omega)); replace BT := Lib.hid (BT.out.away gA (by omega)); replace NW := Lib.hid (NW.out.away gA (by omega)); replace BA := Lib.hid oA; clear oA gA; (try clear k0); (try clear a0); (try clear a1); (try clear a2); have k0 := BO.out.cell 0; have a0 := BT.out.cell 0; have a1 := BT.out.cell 1; have a2 := BT.out.cell 2; simp only [List.getElem?_toArray, List.getElem?_cons_succ, List.getElem?_cons_zero] at k0 a0 a1 a2) | (go_at_call 17; (with_reducible refine (opNumber_any sB _ ZB.out (HL.out.fut FR.out.out)).mono ?_); rintro e v4 ⟨rfl, hb⟩; simp only [hdv.out]; replace FR := Lib.hid (FR.out.fut hb); replace HS := Lib.hid (HS.out.fut hb); replace BX := Lib.hid (BX.out.fut hb); replace BR := Lib.hid (BR.out.fut hb); replace BO := Lib.hid (BO.out.fut hb); replace BT := Lib.hid (BT.out.fut hb); replace BA := Lib.hid (BA.out.fut hb); replace NW := Lib.hid (NW.out.fut hb); clear hb; (try clear k0); (try clear a0); (try clear a1); (try clear a2); have k0 := BO.out.cell 0; have a0 := BT.out.cell 0; have a1 := BT.out.cell 1; have a2 := BT.out.cell 2; simp only [List.getElem?_toArray, List.getElem?_cons_succ, List.getElem?_cons_zero] at k0 a0 a1 a2) | (refine wpList_store_one rfl _ (.tmp 46) (.tmp 44) rfl w2.heap.size 2 (.int .i64 (dd.getD 0)) rfl rfl rfl rfl _ _ #[.int .i64 k, .int .i64 0, .int .i64 (dd.getD 0), .slice D m cD] BO.out (by simp) (by kernel_rfl) rfl ?_; intro w0x o6 g6; replace FR := Lib.hid (FR.out.away g6 (by omega)); replace HS := Lib.hid (HS.out.away g6 (by omega)); replace BX := Lib.hid (BX.out.away g6 (by omega)); replace BR := Lib.hid (BR.out.away g6 (by omega)); replace BT := Lib.hid (BT.out.away g6 (by omega)); replace BA := Lib.hid (BA.out.away g6 (by omega)); replace NW := Lib.hid (NW.out.away g6 (by omega)); replace BO := Lib.hid o6; clear o6 g6; (try clear k0); (try clear a0); (try clear a1); (try clear a2); have k0 := BO.out.cell 0; have a0 := BT.out.cell 0; have a1 := BT.out.cell 1; have a2 := BT.out.cell 2; simp only [List.getElem?_toArray, List.getElem?_cons_succ, List.getElem?_cons_zero] at k0 a0 a1 a2) | (go_at_call 42; with_reducible refine (readNext_any b2 w7.heap.size w.heap.size p2 (some ⟨bs, os, none⟩) n cap l (blo w.heap.size) _ BA.out BX.out HS.out.out SNA.out (by have := PB2.out; omega)).mono ?_; rintro e v5 ⟨rfl, oA, gA⟩; simp only [hx2.out] at oA ⊢; replace FR := Lib.hid (FR.out.away gA (by omega)); replace HS := Lib.hid (HS.out.away gA (by omega)); replace BX := Lib.hid (BX.out.away gA (by omega)); replace BR := Lib.hid (BR.out.away gA (by omega)); replace BO := Lib.hid (BO.out.away gA (by omega)); replace BT := Lib.hid (BT.out.away gA (by omega)); replace NW := Lib.hid (NW.out.away gA (by omega)); replace BA := Lib.hid oA; clear oA gA; (try clear k0); (try clear a0); (try clear a1); (try clear a2); have k0 := BO.out.cell 0; have a0 := BT.out.cell 0; have a1 := BT.out.cell 1; have a2 := BT.out.cell 2; simp only [List.getElem?_toArray, List.getElem?_cons_succ, List.getElem?_cons_zero] at k0 a0 a1 a2) | (go_at_call 17; (with_reducible refine (opNumber_any sC _ ZC.out (HL.out.fut FR.out.out)).mono ?_); rintro e v6 ⟨rfl, hb⟩; simp only [hnv.out]; replace FR := Lib.hid (FR.out.fut hb); replace HS := Lib.hid (HS.out.fut hb); replace BX := Lib.hid (BX.out.fut hb); replace BR := Lib.hid (BR.out.fut hb); replace BO := Lib.hid (BO.out.fut hb); replace BT := Lib.hid (BT.out.fut hb); replace BA := Lib.hid (BA.out.fut hb); replace NW := Lib.hid (NW.out.fut hb); clear hb; (try clear k0); (try clear a0); (try clear a1); (try clear a2); have k0 := BO.out.cell 0; have a0 := BT.out.cell 0; have a1 := BT.out.cell 1; have a2 := BT.out.cell 2; simp only [List.getElem?_toArray, List.getElem?_cons_succ, List.getElem?_cons_zero] at k0 a0 a1 a2) | (refine wpList_store_one rfl _ (.tmp 55) (.tmp 53) rfl w2.heap.size 1 (.int .i64 (nn.getD 0)) rfl rfl rfl rfl _ _ #[.int .i64 k, .int .i64 (nn.getD 0), .int .i64 (dd.getD 0), .slice D m cD] BO.out (by simp) (by kernel_rfl) rfl ?_; intro w0x o6 g6; replace FR := Lib.hid (FR.out.away g6 (by omega)); replace HS := Lib.hid (HS.out.away g6 (by omega)); replace BX := Lib.hid (BX.out.away g6 (by omega)); replace BR := Lib.hid (BR.out.away g6 (by omega)); replace BT := Lib.hid (BT.out.away g6 (by omega)); replace BA := Lib.hid (BA.out.away g6 (by omega)); replace NW := Lib.hid (NW.out.away g6 (by omega)); replace BO := Lib.hid o6; clear o6 g6; (try clear k0); (try clear a0); (try clear a1); (try clear a2); have k0 := BO.out.cell 0; have a0 := BT.out.cell 0; have a1 := BT.out.cell 1; have a2 := BT.out.cell 2; simp only [List.getElem?_toArray, List.getElem?_cons_succ, List.getElem?_cons_zero] at k0 a0 a1 a2) | (refine wpList_load_row rfl 24 (.tmp 3) rfl w2.heap.size rfl _ _ (0, 0) _ BO.out.heap Tryd.underlying24 rfl (by kernel_rfl) ?_) | (refine wpList_store_all rfl 24 (.tmp 2) (.tmp 56) rfl w1.heap.size #[.int .i64 k, .int .i64 (nn.getD 0), .int .i64 (dd.getD 0), .slice D m cD] rfl rfl _ _ BR.out rfl (by kernel_rfl) (by simp [Value.oneCell']) ?_; intro w9 B9 g9; replace FR := Lib.hid (FR.out.away g9 (by omega)); replace NW := Lib.hid (NW.out.away g9 (by omega))))
      refine ret_cell rfl B9 rfl Tryd.underlying24 (by kernel_rfl) rfl ?_
      rw [HR2.out]
      exact ⟨D, m, cD, rfl, (NW.out.out.more (bin_more (by omega) (Nat.le_refl _))), FR.out.out⟩
end Go.Proofs.YthnhknomjepijaaDoor
