/-
  The document's Parse (layer 44).
  Conditions: at most 2^40 bytes.
-/
import Derived.Test.YthnhknomjepijaaDoorOpT
import Derived.Test.YthnhknomjepijaaDoorOpE
namespace Go.Proofs.YthnhknomjepijaaDoor
set_option linter.unusedVariables false
set_option linter.unusedSimpArgs false
open Go.RowKit Go.ChangeShapes Go.WideShapes
set_option maxRecDepth 100000
set_option maxHeartbeats 4000000

def RetDP (x : Option Opd) (w : World) (e : Ending) (w' : World) : Prop :=
  ∃ A m cap, e = .returned (.tuple #[.agg #[.int .i64 (x.getD op0).kind, .int .i64 (x.getD op0).n, .int .i64 (x.getD op0).d, .slice A m cap], .bool x.isSome]) ∧ Sl (tInt .u8) w' (bin w.heap.size w'.heap.size) A m cap (x.getD op0).data ∧ Below w.heap.size w w'

theorem tryA_len {j : Nat} {l : List ByteArray} (hj : j = 1) (h : l.length ≠ 2) : tryD j l = none := by subst hj; simp [tryD, h]
theorem tryA_un {j : Nat} {l : List ByteArray} (hj : j = 1) (h : unhexB (nums (l.getD 1 ⟨#[]⟩)) = none) : tryD j l = none := by
  subst hj; show (if l.length = 2 then _ else _) = _; rw [h]; split <;> rfl
theorem tryA_ok {j : Nat} {l : List ByteArray} {x : List Int} (hj : j = 1) (hl : l.length = 2) (h : unhexB (nums (l.getD 1 ⟨#[]⟩)) = some x) : tryD j l = keepR ⟨j, 0, 0, x⟩ := by
  subst hj; show (if l.length = 2 then _ else _) = _; rw [h, if_pos hl]; rfl
theorem tryB_len {j : Nat} {l : List ByteArray} (hj : j = 2) (h : l.length ≠ 3) : tryD j l = none := by subst hj; simp [tryD, h]
theorem tryB_un {j : Nat} {l : List ByteArray} (hj : j = 2) (h : unhexB (nums (l.getD 1 ⟨#[]⟩)) = none) : tryD j l = none := by
  subst hj; show (if l.length = 3 then _ else _) = _; rw [h]; split <;> rfl
theorem tryB_num {j : Nat} {l : List ByteArray} {x : List Int} (hj : j = 2) (h : unhexB (nums (l.getD 1 ⟨#[]⟩)) = some x) (h2 : numD (l.getD 2 ⟨#[]⟩).data.toList = none) : tryD j l = none := by
  subst hj; show (if l.length = 3 then _ else _) = _; rw [h, h2]; split <;> rfl
theorem tryB_ok {j : Nat} {l : List ByteArray} {x : List Int} {v : Int} (hj : j = 2) (hl : l.length = 3) (h : unhexB (nums (l.getD 1 ⟨#[]⟩)) = some x) (h2 : numD (l.getD 2 ⟨#[]⟩).data.toList = some v) : tryD j l = keepR ⟨j, 0, v, x⟩ := by
  subst hj; show (if l.length = 3 then _ else _) = _; rw [h, h2, if_pos hl]; rfl
theorem tryC_is {j : Nat} {l : List ByteArray} (h3 : 3 ≤ j) (h5 : j ≤ 5) : tryD j l = if l.length = 2 then (numD (l.getD 1 ⟨#[]⟩).data.toList).bind fun v => keepR ⟨j, v, 0, []⟩ else none := by
  unfold tryD
  rw [if_neg (by omega), if_neg (by omega), if_pos (by omega)]
theorem tryC_len {j : Nat} {l : List ByteArray} (h3 : 3 ≤ j) (h5 : j ≤ 5) (h : l.length ≠ 2) : tryD j l = none := by rw [tryC_is h3 h5, if_neg h]
theorem tryC_num {j : Nat} {l : List ByteArray} (h3 : 3 ≤ j) (h5 : j ≤ 5) (h : numD (l.getD 1 ⟨#[]⟩).data.toList = none) : tryD j l = none := by rw [tryC_is h3 h5, h]; split <;> rfl
theorem tryC_ok {j : Nat} {l : List ByteArray} {v : Int} (h3 : 3 ≤ j) (h5 : j ≤ 5) (hl : l.length = 2) (h : numD (l.getD 1 ⟨#[]⟩).data.toList = some v) : tryD j l = keepR ⟨j, v, 0, []⟩ := by rw [tryC_is h3 h5, if_pos hl, h]; rfl
theorem tryE_len {j : Nat} {l : List ByteArray} (hj : j = 6) (h : l.length ≠ 1) : tryD j l = none := by subst hj; simp [tryD, h]
theorem tryE_ok {j : Nat} {l : List ByteArray} (hj : j = 6) (hl : l.length = 1) : tryD j l = keepR ⟨j, 0, 0, []⟩ := by subst hj; simp [tryD, hl]
theorem keep_yes {o : Opd} (h : rightO o = true) : keepR o = some o := if_pos h
theorem keep_no {o : Opd} (h : rightO o = false) : keepR o = none := if_neg (by rw [h]; decide)
theorem kind_nat {j : Nat} (h1 : 1 ≤ j) (h7 : j < 7) : kindK (wordB (j : Int)) 7 = j := by
  obtain rfl | rfl | rfl | rfl | rfl | rfl : j = 1 ∨ j = 2 ∨ j = 3 ∨ j = 4 ∨ j = 5 ∨ j = 6 := by omega
  all_goals decide
theorem doc_at {l : List ByteArray} {j : Nat} (h1 : 1 ≤ j) (h7 : j < 7) (h : wordB (j : Int) = l.getD 0 ⟨#[]⟩) : docV l = tryD j l := by
  unfold docV
  rw [← h, kind_nat h1 h7, if_neg (by omega)]
theorem doc_none {l : List ByteArray} (h : ∀ i : Nat, 1 ≤ i → i < 7 → wordB (i : Int) = l.getD 0 ⟨#[]⟩ → tryD i l = none) : docV l = none := by
  unfold docV
  split
  · rfl
  · rename_i k0
    obtain ⟨hw, h1, h7⟩ := (kind_back (l.getD 0 ⟨#[]⟩) 7).resolve_left k0
    obtain ⟨i, hi⟩ : ∃ i : Nat, kindK (l.getD 0 ⟨#[]⟩) 7 = (i : Int) := ⟨_, (Int.toNat_of_nonneg (by omega)).symm⟩
    rw [hi] at hw h1 h7 ⊢
    exact h i (by omega) (by omega) hw
theorem none_next {l : List ByteArray} {s0 : ByteArray} {j : Nat} (hp : ∀ i : Nat, 1 ≤ i → i < j → wordB (i : Int) = s0 → tryD i l = none) (h : wordB (j : Int) = s0 → tryD j l = none) : ∀ i : Nat, 1 ≤ i → i < j + 1 → wordB (i : Int) = s0 → tryD i l = none := by
  intro i h1 h2 h3
  by_cases e : i = j
  · subst e; exact h h3
  · exact hp i h1 (by omega) h3
theorem getD_size {l : List ByteArray} {N : Nat} (h : ∀ x ∈ l, x.size ≤ N) (i : Nat) : (l.getD i ⟨#[]⟩).size ≤ N := by
  rw [List.getD_eq_getElem?_getD]
  cases q : l[i]? with
  | none => exact Nat.zero_le _
  | some x => exact h x (List.mem_of_getElem? q)
theorem right_six : rightO ⟨6, 0, 0, []⟩ = true := by decide
theorem old_str {w w2 : World} {b off n cap i : Nat} {l : List ByteArray} (h : Old w2 tStr w (some ⟨b, off, none⟩) n cap l) (hi : i < n) : w.cell? ⟨b, off + i, none⟩ = some (.string (l.getD i ⟨#[]⟩)) := by
  obtain ⟨b', o', e, -, -, h, -⟩ := str_at h.out i hi
  injection e with e
  injection e with e1 e2
  subst e1 e2
  exact h

theorem ropParse_any (s : ByteArray) (w : World) (hn : s.size ≤ 1099511627776) :
    Calls Tryd.prog 9 #[.string s] w (RetDP (docV (cutS s 32)) w) := by
  have FR := Lib.hid (Far.refl w)
  have WD := Lib.hid (fun w => ropCut_any s 32 w hn)
  have CZ := Lib.hid (fun x (h : x ∈ cutS s 32) => Nat.le_trans (cutS_size h) hn)
  have CL := Lib.hid (show 1 ≤ (cutS s 32).length by unfold cutS; rw [List.length_append, List.length_singleton]; omega)
  obtain ⟨l, hl⟩ : ∃ l, cutS s 32 = l := ⟨_, rfl⟩
  rw [hl] at WD CZ CL ⊢
  obtain ⟨r, hr⟩ : ∃ r, docV l = r := ⟨_, rfl⟩
  have DA := Lib.hid (fun (j : Nat) h1 h7 h => hr.symm.trans (doc_at (l := l) (j := j) h1 h7 h))
  have DN := Lib.hid (fun h => hr.symm.trans (doc_none (l := l) h))
  rw [hr]
  have Z1 := Lib.hid (getD_size CZ.out 1)
  have Z2 := Lib.hid (getD_size CZ.out 2)
  have U1 := Lib.hid (fun w => ropUnhex_any (l.getD 1 ⟨#[]⟩) w Z1.out)
  have N1 := Lib.hid (fun w => ropNumber_any (l.getD 1 ⟨#[]⟩) w Z1.out)
  have N2 := Lib.hid (fun w => ropNumber_any (l.getD 2 ⟨#[]⟩) w Z2.out)
  obtain ⟨s0, hs0⟩ : ∃ x, l.getD 0 ⟨#[]⟩ = x := ⟨_, rfl⟩
  obtain ⟨s1, hs1⟩ : ∃ x, l.getD 1 ⟨#[]⟩ = x := ⟨_, rfl⟩
  obtain ⟨s2, hs2⟩ : ∃ x, l.getD 2 ⟨#[]⟩ = x := ⟨_, rfl⟩
  have H0 := Lib.hid hs0
  have H1 := Lib.hid hs1
  have H2 := Lib.hid hs2
  rw [hs0] at DA DN
  rw [hs1] at U1 N1
  rw [hs2] at N2
  clear hr hl hn hs0 hs1 hs2 Z1 Z2 CZ
  obtain ⟨w1, hw_w1⟩ : ∃ nw_, w.alloc (.cells #[.int .i64 0, .int .i64 0, .int .i64 0, .slice none 0 0] 24) = nw_ := ⟨_, rfl⟩
  have k_w1 : Below w.heap.size w w1 := by rw [← hw_w1]; exact (Below.refl _ _).alloc (Nat.le_refl _) _
  replace FR := Lib.hid (FR.out.fut k_w1)
  have BR := Lib.hid (show Blk w1 w.heap.size 24 #[.int .i64 0, .int .i64 0, .int .i64 0, .slice none 0 0] by rw [← hw_w1]; exact Blk.now _ _ _ _ rfl)
  clear k_w1
  go_enter Tryd.func9, Tryd.ntmps9
  go_wp2_with fail
  refine (WD.out _).mono ?_
  rintro e w2 ⟨A, n, cap, rfl, sl, hb⟩
  replace FR := Lib.hid (FR.out.fut hb)
  replace BR := Lib.hid (BR.out.fut hb)
  have NE := Lib.hid sl.n_eq
  have h1 : 1 ≤ n := by have := CL.out; have := NE.out; omega
  have NM := Lib.hid (Nat.le_trans sl.cap_le sl.max_le)
  obtain ⟨bs, os, rfl, -, hbs, -, -⟩ := str_at sl 0 h1
  have SB := Lib.hid hbs
  have HSW := Lib.hid (Old.now sl.old)
  clear sl hb hw_w1 CL WD hbs
  have l1 : w.heap.size < w2.heap.size := BR.out.lt
  have FS := Lib.hid FR.out
  have BRW := Lib.hid BR.out
  go_wp2_with fail
  go_loopw [5] (fun i wr => ∃ j : Nat, 1 ≤ j ∧ j ≤ 7 ∧ i = .int .i64 j ∧ (∀ i : Nat, 1 ≤ i → i < j → wordB (i : Int) = s0 → tryD i l = none) ∧ Below w2.heap.size w2 wr) (fun i _ => 7 - (intOf i).toNat)
  case atStart => exact ⟨1, Nat.le_refl _, by omega, rfl, fun i h1 h2 => by omega, Below.refl _ _⟩
  case round =>
    obtain ⟨j, hj1, hj, rfl, hp, hb⟩ := hrel
    have PR := Lib.hid hp
    have FR := Lib.hid (show Far w2 wr from ⟨hb⟩)
    have HS := Lib.hid (HSW.out.fut hb)
    have BR := Lib.hid (BRW.out.fut hb)
    clear hp hb
    by_cases hlt : j < 7
    · have p1 : (j : Int) ≤ 6 := by omega
      have h1n : (0 : Int) < (n : Int) := by omega
      have HC := Lib.hid (old_str HS.out h1)
      rw [H0.out] at HC
      have x1 : ∀ (x : Ext wr), x.1.cell? ⟨bs, os, none⟩ = some (.string s0) := fun x => ext_cell HC.out x
      have E1 := Lib.hid (fun x : Ext wr => calls_ext x (ropWord_any (j : Int) x.1))
      have NX := Lib.hid (fun h => none_next (j := j) PR.out h)
      have DJ := Lib.hid (fun h => DA.out j hj1 hlt h)
      obtain ⟨wb, hwb⟩ : ∃ x, wordB (j : Int) = x := ⟨_, rfl⟩
      rw [hwb] at E1 NX DJ
      have gi : IntKind.i64.wrap ((j : Int) + 1) = ((j + 1 : Nat) : Int) := (IntWalk.i64_in _ (by omega)).trans (by simp)
      clear hwb HC PR
      by_cases c : wb = s0
      · subst c
        have t1 : (wb.toList != wb.toList) = false := by simp
        have t1' : (wb.toList == wb.toList) = true := by simp
        go_upto_region 5 with fail
        refine wp_region_ext wr (by kernel_rfl) (by kernel_rfl) (Below.refl _ _) ?_
        repeat (go_big_quiet_step ((exact E1.out _)))
        refine wpQuiet_nil ?_
        rintro wa ⟨⟨_, hb⟩, rfl⟩
        replace FR := Lib.hid (FR.out.fut hb); replace HS := Lib.hid (HS.out.fut hb); replace BR := Lib.hid (BR.out.fut hb)
        clear x1 hb
        have l2 : w2.heap.size ≤ wa.heap.size := FR.out.size
        have TJ := Lib.hid (DJ.out rfl)
        have NJ := Lib.hid (fun h => NX.out (fun _ => h))
        clear DJ NX t1 t1'
        obtain ⟨wn, hwn⟩ : ∃ x, wa = x := ⟨_, rfl⟩
        subst hwn
        obtain ⟨w7, hw_w7⟩ : ∃ nw_, wa.alloc (.cells #[.int .i64 0, .int .i64 0, .int .i64 0, .slice none 0 0] 24) = nw_ := ⟨_, rfl⟩
        have k_w7 : Below wa.heap.size wa w7 := by rw [← hw_w7]; exact (Below.refl _ _).alloc (Nat.le_refl _) _
        replace FR := Lib.hid (FR.out.fut k_w7)
        replace HS := Lib.hid (HS.out.fut k_w7)
        replace BR := Lib.hid (BR.out.fut k_w7)
        have BO := Lib.hid (show Blk w7 wa.heap.size 24 #[.int .i64 0, .int .i64 0, .int .i64 0, .slice none 0 0] by rw [← hw_w7]; exact Blk.now _ _ _ _ rfl)
        clear k_w7
        by_cases cA : j = 1
        · have HJ := Lib.hid cA
          have q5_0 : (j : Int) ≤ 2 := by omega
          have q5_1 : ((j : Int) == 2) = false := by simp <;> omega
          have q5_2 : ¬ (3 : Int) ≤ (j : Int) := by omega
          have q5_3 : ¬ (2 : Int) ≤ (j : Int) := by omega
          clear cA
          by_cases cN : n < 2
          · have m1 : ¬ (1 : Int) < (n : Int) := by omega
            have NR := Lib.hid (NJ.out (tryA_len HJ.out (by have := NE.out; omega)))
            clear NJ TJ HJ
            go_wp2_with (first | (refine wpList_store_all rfl 24 (.tmp 6) (.tmp 26) rfl wa.heap.size #[.int .i64 (j : Int), .int .i64 0, .int .i64 0, .slice none 0 0] rfl rfl _ _ BO.out rfl (by kernel_rfl) (by simp [Value.oneCell']) ?_; intro wb1 o6 g6; replace FR := Lib.hid (FR.out.away g6 l2); replace HS := Lib.hid (HS.out.away g6 l2); replace BR := Lib.hid (BR.out.away g6 (by omega)); replace BO := Lib.hid o6; clear o6 g6 hw_w7; (try clear c1); (try clear c2); (try have c1 := C1.out _ HS.out); (try have c2 := C2.out _ HS.out)))
            exact ⟨⟨j + 1, by omega, by omega, by go_num, NR.out, FR.out.out⟩, by simp [intOf]; omega⟩
          have m1 : (1 : Int) < (n : Int) := by omega
          have C1 := Lib.hid (fun W (h : Old w2 tStr W (some ⟨bs, os, none⟩) n cap l) => (show W.cell? ⟨bs, os + 1, none⟩ = some (.string s1) by rw [← H1.out]; exact old_str h (by omega)))
          obtain ⟨ud, hud⟩ : ∃ x, unhexB (nums s1) = x := ⟨_, rfl⟩
          rw [hud] at U1
          have HU := Lib.hid (show unhexB (nums (l.getD 1 ⟨#[]⟩)) = ud by rw [H1.out]; exact hud)
          clear hud
          cases ud with
          | none =>
            have NR := Lib.hid (NJ.out (tryA_un HJ.out HU.out))
            clear NJ TJ HJ
            go_wp2_with (first | (refine wpList_store_all rfl 24 (.tmp 6) (.tmp 26) rfl wa.heap.size #[.int .i64 (j : Int), .int .i64 0, .int .i64 0, .slice none 0 0] rfl rfl _ _ BO.out rfl (by kernel_rfl) (by simp [Value.oneCell']) ?_; intro wb1 o6 g6; replace FR := Lib.hid (FR.out.away g6 l2); replace HS := Lib.hid (HS.out.away g6 l2); replace BR := Lib.hid (BR.out.away g6 (by omega)); replace BO := Lib.hid o6; clear o6 g6 hw_w7; (try clear c1); (try clear c2); (try have c1 := C1.out _ HS.out); (try have c2 := C2.out _ HS.out)) | (go_at_call 16; (with_reducible refine (U1.out _).mono ?_); rintro e wu ⟨DD, m, cD, rfl, sl, hb⟩; simp only [Option.getD_some, Option.getD_none] at sl; have L7 := BO.out.lt; replace FR := Lib.hid (FR.out.fut hb); replace HS := Lib.hid (HS.out.fut hb); replace BR := Lib.hid (BR.out.fut hb); replace BO := Lib.hid (BO.out.fut hb); have NW := Lib.hid (New.of sl (Far.refl _)); have LM := Lib.hid sl.n_eq; clear hb sl; (try clear c1); (try clear c2); (try have c1 := C1.out _ HS.out); (try have c2 := C2.out _ HS.out)) | (refine wpList_store_one rfl _ (.tmp 44) (.tmp 43) rfl wa.heap.size 3 (.slice DD m cD) rfl rfl rfl rfl _ _ #[.int .i64 (j : Int), .int .i64 0, .int .i64 0, .slice DD m cD] BO.out (by simp) (by kernel_rfl) rfl ?_; intro wb2 o6 g6; replace FR := Lib.hid (FR.out.away g6 l2); replace HS := Lib.hid (HS.out.away g6 l2); replace BR := Lib.hid (BR.out.away g6 (by omega)); replace NW := Lib.hid (NW.out.away g6 L7); replace BO := Lib.hid o6; clear o6 g6; (try clear c1); (try clear c2); (try have c1 := C1.out _ HS.out); (try have c2 := C2.out _ HS.out)))
            exact ⟨⟨j + 1, by omega, by omega, by go_num, NR.out, FR.out.out⟩, by simp [intOf]; omega⟩
          | some x =>
            by_cases cM : n = 2
            · have NN := Lib.hid (show l.length = 2 from NE.out.trans cM)
              have q7_0 : ((2 : Int) == (n : Int)) = true := by simp <;> omega
              clear cM cN
              obtain ⟨rr, hrr⟩ : ∃ b, rightO ⟨(j : Int), 0, 0, x⟩ = b := ⟨_, rfl⟩
              have RR := Lib.hid hrr
              clear hrr
              cases rr with
              | true =>
                have RV := Lib.hid (TJ.out.trans ((tryA_ok HJ.out NN.out HU.out).trans (keep_yes RR.out)))
                clear NJ TJ HJ
                go_wp2_with (first | (refine wpList_store_all rfl 24 (.tmp 6) (.tmp 26) rfl wa.heap.size #[.int .i64 (j : Int), .int .i64 0, .int .i64 0, .slice none 0 0] rfl rfl _ _ BO.out rfl (by kernel_rfl) (by simp [Value.oneCell']) ?_; intro wb1 o6 g6; replace FR := Lib.hid (FR.out.away g6 l2); replace HS := Lib.hid (HS.out.away g6 l2); replace BR := Lib.hid (BR.out.away g6 (by omega)); replace BO := Lib.hid o6; clear o6 g6 hw_w7; (try clear c1); (try clear c2); (try have c1 := C1.out _ HS.out); (try have c2 := C2.out _ HS.out); (try clear k0 k1 k2 k3); have k0 := BO.out.cell 0; have k1 := BO.out.cell 1; have k2 := BO.out.cell 2; have k3 := BO.out.cell 3; simp only [List.getElem?_toArray, List.getElem?_cons_succ, List.getElem?_cons_zero] at k0 k1 k2 k3) | (go_at_call 16; (with_reducible refine (U1.out _).mono ?_); rintro e wu ⟨DD, m, cD, rfl, sl, hb⟩; simp only [Option.getD_some, Option.getD_none] at sl; have L7 := BO.out.lt; replace FR := Lib.hid (FR.out.fut hb); replace HS := Lib.hid (HS.out.fut hb); replace BR := Lib.hid (BR.out.fut hb); replace BO := Lib.hid (BO.out.fut hb); have NW := Lib.hid (New.of sl (Far.refl _)); have LM := Lib.hid sl.n_eq; clear hb sl; (try clear c1); (try clear c2); (try have c1 := C1.out _ HS.out); (try have c2 := C2.out _ HS.out); (try clear k0 k1 k2 k3); have k0 := BO.out.cell 0; have k1 := BO.out.cell 1; have k2 := BO.out.cell 2; have k3 := BO.out.cell 3; simp only [List.getElem?_toArray, List.getElem?_cons_succ, List.getElem?_cons_zero] at k0 k1 k2 k3) | (refine wpList_store_one rfl _ (.tmp 44) (.tmp 43) rfl wa.heap.size 3 (.slice DD m cD) rfl rfl rfl rfl _ _ #[.int .i64 (j : Int), .int .i64 0, .int .i64 0, .slice DD m cD] BO.out (by simp) (by kernel_rfl) rfl ?_; intro wb2 o6 g6; replace FR := Lib.hid (FR.out.away g6 l2); replace HS := Lib.hid (HS.out.away g6 l2); replace BR := Lib.hid (BR.out.away g6 (by omega)); replace NW := Lib.hid (NW.out.away g6 L7); replace BO := Lib.hid o6; clear o6 g6; (try clear c1); (try clear c2); (try have c1 := C1.out _ HS.out); (try have c2 := C2.out _ HS.out); (try clear k0 k1 k2 k3); have k0 := BO.out.cell 0; have k1 := BO.out.cell 1; have k2 := BO.out.cell 2; have k3 := BO.out.cell 3; simp only [List.getElem?_toArray, List.getElem?_cons_succ, List.getElem?_cons_zero] at k0 k1 k2 k3) | ((refine wpList_load_row rfl 24 (.tmp 6) rfl wa.heap.size rfl _ _ (0, 0) _ BO.out.heap Tryd.underlying24 rfl (by kernel_rfl) ?_)) | (go_at_call 11; (with_reducible refine (ropRight_any (j : Int) 0 0 DD m cD x _ LM.out).mono ?_); rintro e wq ⟨rfl, hb⟩; rw [RR.out]; replace FR := Lib.hid (FR.out.fut hb); replace HS := Lib.hid (HS.out.fut hb); replace BR := Lib.hid (BR.out.fut hb); replace NW := Lib.hid (NW.out.fut hb); replace BO := Lib.hid (BO.out.fut hb); clear hb; (try clear c1); (try clear c2); (try have c1 := C1.out _ HS.out); (try have c2 := C2.out _ HS.out); (try clear k0 k1 k2 k3); have k0 := BO.out.cell 0; have k1 := BO.out.cell 1; have k2 := BO.out.cell 2; have k3 := BO.out.cell 3; simp only [List.getElem?_toArray, List.getElem?_cons_succ, List.getElem?_cons_zero] at k0 k1 k2 k3) | (refine wpList_store_all rfl 24 (.tmp 2) (.tmp 103) rfl w.heap.size #[.int .i64 (j : Int), .int .i64 0, .int .i64 0, .slice DD m cD] rfl rfl _ _ BR.out rfl (by kernel_rfl) (by simp [Value.oneCell']) ?_; intro w9 B9 g9; have FZ := Lib.hid ((FS.out.fut FR.out.out).away g9 (Nat.le_refl _)); replace NW := Lib.hid (NW.out.away g9 (by have := FR.out.size; omega))))
                refine ret_cell_tmp rfl B9 rfl Tryd.underlying24 (by kernel_rfl) rfl ?_
                rw [RV.out]
                exact ⟨DD, m, cD, rfl, NW.out.out.more (bin_more (by omega) (Nat.le_refl _)), FZ.out.out⟩
              | false =>
                have NR := Lib.hid (NJ.out ((tryA_ok HJ.out NN.out HU.out).trans (keep_no RR.out)))
                clear NJ TJ HJ
                go_wp2_with (first | (refine wpList_store_all rfl 24 (.tmp 6) (.tmp 26) rfl wa.heap.size #[.int .i64 (j : Int), .int .i64 0, .int .i64 0, .slice none 0 0] rfl rfl _ _ BO.out rfl (by kernel_rfl) (by simp [Value.oneCell']) ?_; intro wb1 o6 g6; replace FR := Lib.hid (FR.out.away g6 l2); replace HS := Lib.hid (HS.out.away g6 l2); replace BR := Lib.hid (BR.out.away g6 (by omega)); replace BO := Lib.hid o6; clear o6 g6 hw_w7; (try clear c1); (try clear c2); (try have c1 := C1.out _ HS.out); (try have c2 := C2.out _ HS.out); (try clear k0 k1 k2 k3); have k0 := BO.out.cell 0; have k1 := BO.out.cell 1; have k2 := BO.out.cell 2; have k3 := BO.out.cell 3; simp only [List.getElem?_toArray, List.getElem?_cons_succ, List.getElem?_cons_zero] at k0 k1 k2 k3) | (go_at_call 16; (with_reducible refine (U1.out _).mono ?_); rintro e wu ⟨DD, m, cD, rfl, sl, hb⟩; simp only [Option.getD_some, Option.getD_none] at sl; have L7 := BO.out.lt; replace FR := Lib.hid (FR.out.fut hb); replace HS := Lib.hid (HS.out.fut hb); replace BR := Lib.hid (BR.out.fut hb); replace BO := Lib.hid (BO.out.fut hb); have NW := Lib.hid (New.of sl (Far.refl _)); have LM := Lib.hid sl.n_eq; clear hb sl; (try clear c1); (try clear c2); (try have c1 := C1.out _ HS.out); (try have c2 := C2.out _ HS.out); (try clear k0 k1 k2 k3); have k0 := BO.out.cell 0; have k1 := BO.out.cell 1; have k2 := BO.out.cell 2; have k3 := BO.out.cell 3; simp only [List.getElem?_toArray, List.getElem?_cons_succ, List.getElem?_cons_zero] at k0 k1 k2 k3) | (refine wpList_store_one rfl _ (.tmp 44) (.tmp 43) rfl wa.heap.size 3 (.slice DD m cD) rfl rfl rfl rfl _ _ #[.int .i64 (j : Int), .int .i64 0, .int .i64 0, .slice DD m cD] BO.out (by simp) (by kernel_rfl) rfl ?_; intro wb2 o6 g6; replace FR := Lib.hid (FR.out.away g6 l2); replace HS := Lib.hid (HS.out.away g6 l2); replace BR := Lib.hid (BR.out.away g6 (by omega)); replace NW := Lib.hid (NW.out.away g6 L7); replace BO := Lib.hid o6; clear o6 g6; (try clear c1); (try clear c2); (try have c1 := C1.out _ HS.out); (try have c2 := C2.out _ HS.out); (try clear k0 k1 k2 k3); have k0 := BO.out.cell 0; have k1 := BO.out.cell 1; have k2 := BO.out.cell 2; have k3 := BO.out.cell 3; simp only [List.getElem?_toArray, List.getElem?_cons_succ, List.getElem?_cons_zero] at k0 k1 k2 k3) | ((refine wpList_load_row rfl 24 (.tmp 6) rfl wa.heap.size rfl _ _ (0, 0) _ BO.out.heap Tryd.underlying24 rfl (by kernel_rfl) ?_)) | (go_at_call 11; (with_reducible refine (ropRight_any (j : Int) 0 0 DD m cD x _ LM.out).mono ?_); rintro e wq ⟨rfl, hb⟩; rw [RR.out]; replace FR := Lib.hid (FR.out.fut hb); replace HS := Lib.hid (HS.out.fut hb); replace BR := Lib.hid (BR.out.fut hb); replace NW := Lib.hid (NW.out.fut hb); replace BO := Lib.hid (BO.out.fut hb); clear hb; (try clear c1); (try clear c2); (try have c1 := C1.out _ HS.out); (try have c2 := C2.out _ HS.out); (try clear k0 k1 k2 k3); have k0 := BO.out.cell 0; have k1 := BO.out.cell 1; have k2 := BO.out.cell 2; have k3 := BO.out.cell 3; simp only [List.getElem?_toArray, List.getElem?_cons_succ, List.getElem?_cons_zero] at k0 k1 k2 k3))
                exact ⟨⟨j + 1, by omega, by omega, by go_num, NR.out, FR.out.out⟩, by simp [intOf]; omega⟩
            · have NN := Lib.hid (show l.length ≠ 2 from fun h => cM (NE.out.symm.trans h))
              have q7_0 : ((2 : Int) == (n : Int)) = false := by simp <;> omega
              clear cM cN
              have NR := Lib.hid (NJ.out (tryA_len HJ.out NN.out))
              clear NJ TJ HJ
              go_wp2_with (first | (refine wpList_store_all rfl 24 (.tmp 6) (.tmp 26) rfl wa.heap.size #[.int .i64 (j : Int), .int .i64 0, .int .i64 0, .slice none 0 0] rfl rfl _ _ BO.out rfl (by kernel_rfl) (by simp [Value.oneCell']) ?_; intro wb1 o6 g6; replace FR := Lib.hid (FR.out.away g6 l2); replace HS := Lib.hid (HS.out.away g6 l2); replace BR := Lib.hid (BR.out.away g6 (by omega)); replace BO := Lib.hid o6; clear o6 g6 hw_w7; (try clear c1); (try clear c2); (try have c1 := C1.out _ HS.out); (try have c2 := C2.out _ HS.out)) | (go_at_call 16; (with_reducible refine (U1.out _).mono ?_); rintro e wu ⟨DD, m, cD, rfl, sl, hb⟩; simp only [Option.getD_some, Option.getD_none] at sl; have L7 := BO.out.lt; replace FR := Lib.hid (FR.out.fut hb); replace HS := Lib.hid (HS.out.fut hb); replace BR := Lib.hid (BR.out.fut hb); replace BO := Lib.hid (BO.out.fut hb); have NW := Lib.hid (New.of sl (Far.refl _)); have LM := Lib.hid sl.n_eq; clear hb sl; (try clear c1); (try clear c2); (try have c1 := C1.out _ HS.out); (try have c2 := C2.out _ HS.out)) | (refine wpList_store_one rfl _ (.tmp 44) (.tmp 43) rfl wa.heap.size 3 (.slice DD m cD) rfl rfl rfl rfl _ _ #[.int .i64 (j : Int), .int .i64 0, .int .i64 0, .slice DD m cD] BO.out (by simp) (by kernel_rfl) rfl ?_; intro wb2 o6 g6; replace FR := Lib.hid (FR.out.away g6 l2); replace HS := Lib.hid (HS.out.away g6 l2); replace BR := Lib.hid (BR.out.away g6 (by omega)); replace NW := Lib.hid (NW.out.away g6 L7); replace BO := Lib.hid o6; clear o6 g6; (try clear c1); (try clear c2); (try have c1 := C1.out _ HS.out); (try have c2 := C2.out _ HS.out)))
              exact ⟨⟨j + 1, by omega, by omega, by go_num, NR.out, FR.out.out⟩, by simp [intOf]; omega⟩
        by_cases cB : j = 2
        · have HJ := Lib.hid cB
          have q5_0 : (j : Int) ≤ 2 := by omega
          have q5_1 : ((j : Int) == 2) = true := by simp <;> omega
          have q5_2 : (2 : Int) ≤ (j : Int) := by omega
          have q5_3 : (j : Int) ≤ 5 := by omega
          clear cA cB
          by_cases cN : n < 2
          · have m1 : ¬ (1 : Int) < (n : Int) := by omega
            have NR := Lib.hid (NJ.out (tryB_len HJ.out (by have := NE.out; omega)))
            clear NJ TJ HJ
            go_wp2_with (first | (refine wpList_store_all rfl 24 (.tmp 6) (.tmp 26) rfl wa.heap.size #[.int .i64 (j : Int), .int .i64 0, .int .i64 0, .slice none 0 0] rfl rfl _ _ BO.out rfl (by kernel_rfl) (by simp [Value.oneCell']) ?_; intro wb1 o6 g6; replace FR := Lib.hid (FR.out.away g6 l2); replace HS := Lib.hid (HS.out.away g6 l2); replace BR := Lib.hid (BR.out.away g6 (by omega)); replace BO := Lib.hid o6; clear o6 g6 hw_w7; (try clear c1); (try clear c2); (try have c1 := C1.out _ HS.out); (try have c2 := C2.out _ HS.out)))
            exact ⟨⟨j + 1, by omega, by omega, by go_num, NR.out, FR.out.out⟩, by simp [intOf]; omega⟩
          have m1 : (1 : Int) < (n : Int) := by omega
          have C1 := Lib.hid (fun W (h : Old w2 tStr W (some ⟨bs, os, none⟩) n cap l) => (show W.cell? ⟨bs, os + 1, none⟩ = some (.string s1) by rw [← H1.out]; exact old_str h (by omega)))
          obtain ⟨ud, hud⟩ : ∃ x, unhexB (nums s1) = x := ⟨_, rfl⟩
          rw [hud] at U1
          have HU := Lib.hid (show unhexB (nums (l.getD 1 ⟨#[]⟩)) = ud by rw [H1.out]; exact hud)
          clear hud
          cases ud with
          | none =>
            have NR := Lib.hid (NJ.out (tryB_un HJ.out HU.out))
            clear NJ TJ HJ
            go_wp2_with (first | (refine wpList_store_all rfl 24 (.tmp 6) (.tmp 26) rfl wa.heap.size #[.int .i64 (j : Int), .int .i64 0, .int .i64 0, .slice none 0 0] rfl rfl _ _ BO.out rfl (by kernel_rfl) (by simp [Value.oneCell']) ?_; intro wb1 o6 g6; replace FR := Lib.hid (FR.out.away g6 l2); replace HS := Lib.hid (HS.out.away g6 l2); replace BR := Lib.hid (BR.out.away g6 (by omega)); replace BO := Lib.hid o6; clear o6 g6 hw_w7; (try clear c1); (try clear c2); (try have c1 := C1.out _ HS.out); (try have c2 := C2.out _ HS.out)) | (go_at_call 16; (with_reducible refine (U1.out _).mono ?_); rintro e wu ⟨DD, m, cD, rfl, sl, hb⟩; simp only [Option.getD_some, Option.getD_none] at sl; have L7 := BO.out.lt; replace FR := Lib.hid (FR.out.fut hb); replace HS := Lib.hid (HS.out.fut hb); replace BR := Lib.hid (BR.out.fut hb); replace BO := Lib.hid (BO.out.fut hb); have NW := Lib.hid (New.of sl (Far.refl _)); have LM := Lib.hid sl.n_eq; clear hb sl; (try clear c1); (try clear c2); (try have c1 := C1.out _ HS.out); (try have c2 := C2.out _ HS.out)) | (refine wpList_store_one rfl _ (.tmp 44) (.tmp 43) rfl wa.heap.size 3 (.slice DD m cD) rfl rfl rfl rfl _ _ #[.int .i64 (j : Int), .int .i64 0, .int .i64 0, .slice DD m cD] BO.out (by simp) (by kernel_rfl) rfl ?_; intro wb2 o6 g6; replace FR := Lib.hid (FR.out.away g6 l2); replace HS := Lib.hid (HS.out.away g6 l2); replace BR := Lib.hid (BR.out.away g6 (by omega)); replace NW := Lib.hid (NW.out.away g6 L7); replace BO := Lib.hid o6; clear o6 g6; (try clear c1); (try clear c2); (try have c1 := C1.out _ HS.out); (try have c2 := C2.out _ HS.out)))
            exact ⟨⟨j + 1, by omega, by omega, by go_num, NR.out, FR.out.out⟩, by simp [intOf]; omega⟩
          | some x =>
            by_cases cM : n < 3
            · have m2 : ¬ (2 : Int) < (n : Int) := by omega
              have NR := Lib.hid (NJ.out (tryB_len HJ.out (by have := NE.out; omega)))
              clear NJ TJ HJ
              go_wp2_with (first | (refine wpList_store_all rfl 24 (.tmp 6) (.tmp 26) rfl wa.heap.size #[.int .i64 (j : Int), .int .i64 0, .int .i64 0, .slice none 0 0] rfl rfl _ _ BO.out rfl (by kernel_rfl) (by simp [Value.oneCell']) ?_; intro wb1 o6 g6; replace FR := Lib.hid (FR.out.away g6 l2); replace HS := Lib.hid (HS.out.away g6 l2); replace BR := Lib.hid (BR.out.away g6 (by omega)); replace BO := Lib.hid o6; clear o6 g6 hw_w7; (try clear c1); (try clear c2); (try have c1 := C1.out _ HS.out); (try have c2 := C2.out _ HS.out)) | (go_at_call 16; (with_reducible refine (U1.out _).mono ?_); rintro e wu ⟨DD, m, cD, rfl, sl, hb⟩; simp only [Option.getD_some, Option.getD_none] at sl; have L7 := BO.out.lt; replace FR := Lib.hid (FR.out.fut hb); replace HS := Lib.hid (HS.out.fut hb); replace BR := Lib.hid (BR.out.fut hb); replace BO := Lib.hid (BO.out.fut hb); have NW := Lib.hid (New.of sl (Far.refl _)); have LM := Lib.hid sl.n_eq; clear hb sl; (try clear c1); (try clear c2); (try have c1 := C1.out _ HS.out); (try have c2 := C2.out _ HS.out)) | (refine wpList_store_one rfl _ (.tmp 44) (.tmp 43) rfl wa.heap.size 3 (.slice DD m cD) rfl rfl rfl rfl _ _ #[.int .i64 (j : Int), .int .i64 0, .int .i64 0, .slice DD m cD] BO.out (by simp) (by kernel_rfl) rfl ?_; intro wb2 o6 g6; replace FR := Lib.hid (FR.out.away g6 l2); replace HS := Lib.hid (HS.out.away g6 l2); replace BR := Lib.hid (BR.out.away g6 (by omega)); replace NW := Lib.hid (NW.out.away g6 L7); replace BO := Lib.hid o6; clear o6 g6; (try clear c1); (try clear c2); (try have c1 := C1.out _ HS.out); (try have c2 := C2.out _ HS.out)))
              exact ⟨⟨j + 1, by omega, by omega, by go_num, NR.out, FR.out.out⟩, by simp [intOf]; omega⟩
            have m2 : (2 : Int) < (n : Int) := by omega
            have C2 := Lib.hid (fun W (h : Old w2 tStr W (some ⟨bs, os, none⟩) n cap l) => (show W.cell? ⟨bs, os + 2, none⟩ = some (.string s2) by rw [← H2.out]; exact old_str h (by omega)))
            obtain ⟨dd, hdd⟩ : ∃ x, numD s2.data.toList = x := ⟨_, rfl⟩
            rw [hdd] at N2
            have HD := Lib.hid (show numD (l.getD 2 ⟨#[]⟩).data.toList = dd by rw [H2.out]; exact hdd)
            clear hdd
            cases dd with
            | none =>
              have NR := Lib.hid (NJ.out (tryB_num HJ.out HU.out HD.out))
              clear NJ TJ HJ
              go_wp2_with (first | (refine wpList_store_all rfl 24 (.tmp 6) (.tmp 26) rfl wa.heap.size #[.int .i64 (j : Int), .int .i64 0, .int .i64 0, .slice none 0 0] rfl rfl _ _ BO.out rfl (by kernel_rfl) (by simp [Value.oneCell']) ?_; intro wb1 o6 g6; replace FR := Lib.hid (FR.out.away g6 l2); replace HS := Lib.hid (HS.out.away g6 l2); replace BR := Lib.hid (BR.out.away g6 (by omega)); replace BO := Lib.hid o6; clear o6 g6 hw_w7; (try clear c1); (try clear c2); (try have c1 := C1.out _ HS.out); (try have c2 := C2.out _ HS.out)) | (go_at_call 16; (with_reducible refine (U1.out _).mono ?_); rintro e wu ⟨DD, m, cD, rfl, sl, hb⟩; simp only [Option.getD_some, Option.getD_none] at sl; have L7 := BO.out.lt; replace FR := Lib.hid (FR.out.fut hb); replace HS := Lib.hid (HS.out.fut hb); replace BR := Lib.hid (BR.out.fut hb); replace BO := Lib.hid (BO.out.fut hb); have NW := Lib.hid (New.of sl (Far.refl _)); have LM := Lib.hid sl.n_eq; clear hb sl; (try clear c1); (try clear c2); (try have c1 := C1.out _ HS.out); (try have c2 := C2.out _ HS.out)) | (refine wpList_store_one rfl _ (.tmp 44) (.tmp 43) rfl wa.heap.size 3 (.slice DD m cD) rfl rfl rfl rfl _ _ #[.int .i64 (j : Int), .int .i64 0, .int .i64 0, .slice DD m cD] BO.out (by simp) (by kernel_rfl) rfl ?_; intro wb2 o6 g6; replace FR := Lib.hid (FR.out.away g6 l2); replace HS := Lib.hid (HS.out.away g6 l2); replace BR := Lib.hid (BR.out.away g6 (by omega)); replace NW := Lib.hid (NW.out.away g6 L7); replace BO := Lib.hid o6; clear o6 g6; (try clear c1); (try clear c2); (try have c1 := C1.out _ HS.out); (try have c2 := C2.out _ HS.out)) | (go_at_call 18; (with_reducible refine (N2.out _).mono ?_); rintro e wv ⟨rfl, hb⟩; replace FR := Lib.hid (FR.out.fut hb); replace HS := Lib.hid (HS.out.fut hb); replace BR := Lib.hid (BR.out.fut hb); replace NW := Lib.hid (NW.out.fut hb); replace BO := Lib.hid (BO.out.fut hb); clear hb; (try clear c1); (try clear c2); (try have c1 := C1.out _ HS.out); (try have c2 := C2.out _ HS.out)) | (refine wpList_store_one rfl _ (.tmp 83) (.tmp 82) rfl wa.heap.size 2 (.int .i64 0) rfl rfl rfl rfl _ _ #[.int .i64 (j : Int), .int .i64 0, .int .i64 0, .slice DD m cD] BO.out (by simp) (by kernel_rfl) rfl ?_; intro wb3 o6 g6; replace FR := Lib.hid (FR.out.away g6 l2); replace HS := Lib.hid (HS.out.away g6 l2); replace BR := Lib.hid (BR.out.away g6 (by omega)); replace NW := Lib.hid (NW.out.away g6 L7); replace BO := Lib.hid o6; clear o6 g6; (try clear c1); (try clear c2); (try have c1 := C1.out _ HS.out); (try have c2 := C2.out _ HS.out)))
              exact ⟨⟨j + 1, by omega, by omega, by go_num, NR.out, FR.out.out⟩, by simp [intOf]; omega⟩
            | some v =>
              by_cases cK : n = 3
              · have NN := Lib.hid (show l.length = 3 from NE.out.trans cK)
                have q8_0 : ((3 : Int) == (n : Int)) = true := by simp <;> omega
                clear cM cN cK
                obtain ⟨rr, hrr⟩ : ∃ b, rightO ⟨(j : Int), 0, v, x⟩ = b := ⟨_, rfl⟩
                have RR := Lib.hid hrr
                clear hrr
                cases rr with
                | true =>
                  have RV := Lib.hid (TJ.out.trans ((tryB_ok HJ.out NN.out HU.out HD.out).trans (keep_yes RR.out)))
                  clear NJ TJ HJ
                  go_wp2_with (first | (refine wpList_store_all rfl 24 (.tmp 6) (.tmp 26) rfl wa.heap.size #[.int .i64 (j : Int), .int .i64 0, .int .i64 0, .slice none 0 0] rfl rfl _ _ BO.out rfl (by kernel_rfl) (by simp [Value.oneCell']) ?_; intro wb1 o6 g6; replace FR := Lib.hid (FR.out.away g6 l2); replace HS := Lib.hid (HS.out.away g6 l2); replace BR := Lib.hid (BR.out.away g6 (by omega)); replace BO := Lib.hid o6; clear o6 g6 hw_w7; (try clear c1); (try clear c2); (try have c1 := C1.out _ HS.out); (try have c2 := C2.out _ HS.out); (try clear k0 k1 k2 k3); have k0 := BO.out.cell 0; have k1 := BO.out.cell 1; have k2 := BO.out.cell 2; have k3 := BO.out.cell 3; simp only [List.getElem?_toArray, List.getElem?_cons_succ, List.getElem?_cons_zero] at k0 k1 k2 k3) | (go_at_call 16; (with_reducible refine (U1.out _).mono ?_); rintro e wu ⟨DD, m, cD, rfl, sl, hb⟩; simp only [Option.getD_some, Option.getD_none] at sl; have L7 := BO.out.lt; replace FR := Lib.hid (FR.out.fut hb); replace HS := Lib.hid (HS.out.fut hb); replace BR := Lib.hid (BR.out.fut hb); replace BO := Lib.hid (BO.out.fut hb); have NW := Lib.hid (New.of sl (Far.refl _)); have LM := Lib.hid sl.n_eq; clear hb sl; (try clear c1); (try clear c2); (try have c1 := C1.out _ HS.out); (try have c2 := C2.out _ HS.out); (try clear k0 k1 k2 k3); have k0 := BO.out.cell 0; have k1 := BO.out.cell 1; have k2 := BO.out.cell 2; have k3 := BO.out.cell 3; simp only [List.getElem?_toArray, List.getElem?_cons_succ, List.getElem?_cons_zero] at k0 k1 k2 k3) | (refine wpList_store_one rfl _ (.tmp 44) (.tmp 43) rfl wa.heap.size 3 (.slice DD m cD) rfl rfl rfl rfl _ _ #[.int .i64 (j : Int), .int .i64 0, .int .i64 0, .slice DD m cD] BO.out (by simp) (by kernel_rfl) rfl ?_; intro wb2 o6 g6; replace FR := Lib.hid (FR.out.away g6 l2); replace HS := Lib.hid (HS.out.away g6 l2); replace BR := Lib.hid (BR.out.away g6 (by omega)); replace NW := Lib.hid (NW.out.away g6 L7); replace BO := Lib.hid o6; clear o6 g6; (try clear c1); (try clear c2); (try have c1 := C1.out _ HS.out); (try have c2 := C2.out _ HS.out); (try clear k0 k1 k2 k3); have k0 := BO.out.cell 0; have k1 := BO.out.cell 1; have k2 := BO.out.cell 2; have k3 := BO.out.cell 3; simp only [List.getElem?_toArray, List.getElem?_cons_succ, List.getElem?_cons_zero] at k0 k1 k2 k3) | (go_at_call 18; (with_reducible refine (N2.out _).mono ?_); rintro e wv ⟨rfl, hb⟩; replace FR := Lib.hid (FR.out.fut hb); replace HS := Lib.hid (HS.out.fut hb); replace BR := Lib.hid (BR.out.fut hb); replace NW := Lib.hid (NW.out.fut hb); replace BO := Lib.hid (BO.out.fut hb); clear hb; (try clear c1); (try clear c2); (try have c1 := C1.out _ HS.out); (try have c2 := C2.out _ HS.out); (try clear k0 k1 k2 k3); have k0 := BO.out.cell 0; have k1 := BO.out.cell 1; have k2 := BO.out.cell 2; have k3 := BO.out.cell 3; simp only [List.getElem?_toArray, List.getElem?_cons_succ, List.getElem?_cons_zero] at k0 k1 k2 k3) | (refine wpList_store_one rfl _ (.tmp 83) (.tmp 82) rfl wa.heap.size 2 (.int .i64 v) rfl rfl rfl rfl _ _ #[.int .i64 (j : Int), .int .i64 0, .int .i64 v, .slice DD m cD] BO.out (by simp) (by kernel_rfl) rfl ?_; intro wb3 o6 g6; replace FR := Lib.hid (FR.out.away g6 l2); replace HS := Lib.hid (HS.out.away g6 l2); replace BR := Lib.hid (BR.out.away g6 (by omega)); replace NW := Lib.hid (NW.out.away g6 L7); replace BO := Lib.hid o6; clear o6 g6; (try clear c1); (try clear c2); (try have c1 := C1.out _ HS.out); (try have c2 := C2.out _ HS.out); (try clear k0 k1 k2 k3); have k0 := BO.out.cell 0; have k1 := BO.out.cell 1; have k2 := BO.out.cell 2; have k3 := BO.out.cell 3; simp only [List.getElem?_toArray, List.getElem?_cons_succ, List.getElem?_cons_zero] at k0 k1 k2 k3) | ((refine wpList_load_row rfl 24 (.tmp 6) rfl wa.heap.size rfl _ _ (0, 0) _ BO.out.heap Tryd.underlying24 rfl (by kernel_rfl) ?_)) | (go_at_call 11; (with_reducible refine (ropRight_any (j : Int) 0 v DD m cD x _ LM.out).mono ?_); rintro e wq ⟨rfl, hb⟩; rw [RR.out]; replace FR := Lib.hid (FR.out.fut hb); replace HS := Lib.hid (HS.out.fut hb); replace BR := Lib.hid (BR.out.fut hb); replace NW := Lib.hid (NW.out.fut hb); replace BO := Lib.hid (BO.out.fut hb); clear hb; (try clear c1); (try clear c2); (try have c1 := C1.out _ HS.out); (try have c2 := C2.out _ HS.out); (try clear k0 k1 k2 k3); have k0 := BO.out.cell 0; have k1 := BO.out.cell 1; have k2 := BO.out.cell 2; have k3 := BO.out.cell 3; simp only [List.getElem?_toArray, List.getElem?_cons_succ, List.getElem?_cons_zero] at k0 k1 k2 k3) | (refine wpList_store_all rfl 24 (.tmp 2) (.tmp 103) rfl w.heap.size #[.int .i64 (j : Int), .int .i64 0, .int .i64 v, .slice DD m cD] rfl rfl _ _ BR.out rfl (by kernel_rfl) (by simp [Value.oneCell']) ?_; intro w9 B9 g9; have FZ := Lib.hid ((FS.out.fut FR.out.out).away g9 (Nat.le_refl _)); replace NW := Lib.hid (NW.out.away g9 (by have := FR.out.size; omega))))
                  refine ret_cell_tmp rfl B9 rfl Tryd.underlying24 (by kernel_rfl) rfl ?_
                  rw [RV.out]
                  exact ⟨DD, m, cD, rfl, NW.out.out.more (bin_more (by omega) (Nat.le_refl _)), FZ.out.out⟩
                | false =>
                  have NR := Lib.hid (NJ.out ((tryB_ok HJ.out NN.out HU.out HD.out).trans (keep_no RR.out)))
                  clear NJ TJ HJ
                  go_wp2_with (first | (refine wpList_store_all rfl 24 (.tmp 6) (.tmp 26) rfl wa.heap.size #[.int .i64 (j : Int), .int .i64 0, .int .i64 0, .slice none 0 0] rfl rfl _ _ BO.out rfl (by kernel_rfl) (by simp [Value.oneCell']) ?_; intro wb1 o6 g6; replace FR := Lib.hid (FR.out.away g6 l2); replace HS := Lib.hid (HS.out.away g6 l2); replace BR := Lib.hid (BR.out.away g6 (by omega)); replace BO := Lib.hid o6; clear o6 g6 hw_w7; (try clear c1); (try clear c2); (try have c1 := C1.out _ HS.out); (try have c2 := C2.out _ HS.out); (try clear k0 k1 k2 k3); have k0 := BO.out.cell 0; have k1 := BO.out.cell 1; have k2 := BO.out.cell 2; have k3 := BO.out.cell 3; simp only [List.getElem?_toArray, List.getElem?_cons_succ, List.getElem?_cons_zero] at k0 k1 k2 k3) | (go_at_call 16; (with_reducible refine (U1.out _).mono ?_); rintro e wu ⟨DD, m, cD, rfl, sl, hb⟩; simp only [Option.getD_some, Option.getD_none] at sl; have L7 := BO.out.lt; replace FR := Lib.hid (FR.out.fut hb); replace HS := Lib.hid (HS.out.fut hb); replace BR := Lib.hid (BR.out.fut hb); replace BO := Lib.hid (BO.out.fut hb); have NW := Lib.hid (New.of sl (Far.refl _)); have LM := Lib.hid sl.n_eq; clear hb sl; (try clear c1); (try clear c2); (try have c1 := C1.out _ HS.out); (try have c2 := C2.out _ HS.out); (try clear k0 k1 k2 k3); have k0 := BO.out.cell 0; have k1 := BO.out.cell 1; have k2 := BO.out.cell 2; have k3 := BO.out.cell 3; simp only [List.getElem?_toArray, List.getElem?_cons_succ, List.getElem?_cons_zero] at k0 k1 k2 k3) | (refine wpList_store_one rfl _ (.tmp 44) (.tmp 43) rfl wa.heap.size 3 (.slice DD m cD) rfl rfl rfl rfl _ _ #[.int .i64 (j : Int), .int .i64 0, .int .i64 0, .slice DD m cD] BO.out (by simp) (by kernel_rfl) rfl ?_; intro wb2 o6 g6; replace FR := Lib.hid (FR.out.away g6 l2); replace HS := Lib.hid (HS.out.away g6 l2); replace BR := Lib.hid (BR.out.away g6 (by omega)); replace NW := Lib.hid (NW.out.away g6 L7); replace BO := Lib.hid o6; clear o6 g6; (try clear c1); (try clear c2); (try have c1 := C1.out _ HS.out); (try have c2 := C2.out _ HS.out); (try clear k0 k1 k2 k3); have k0 := BO.out.cell 0; have k1 := BO.out.cell 1; have k2 := BO.out.cell 2; have k3 := BO.out.cell 3; simp only [List.getElem?_toArray, List.getElem?_cons_succ, List.getElem?_cons_zero] at k0 k1 k2 k3) | (go_at_call 18; (with_reducible refine (N2.out _).mono ?_); rintro e wv ⟨rfl, hb⟩; replace FR := Lib.hid (FR.out.fut hb); replace HS := Lib.hid (HS.out.fut hb); replace BR := Lib.hid (BR.out.fut hb); replace NW := Lib.hid (NW.out.fut hb); replace BO := Lib.hid (BO.out.fut hb); clear hb; (try clear c1); (try clear c2); (try have c1 := C1.out _ HS.out); (try have c2 := C2.out _ HS.out); (try clear k0 k1 k2 k3); have k0 := BO.out.cell 0; have k1 := BO.out.cell 1; have k2 := BO.out.cell 2; have k3 := BO.out.cell 3; simp only [List.getElem?_toArray, List.getElem?_cons_succ, List.getElem?_cons_zero] at k0 k1 k2 k3) | (refine wpList_store_one rfl _ (.tmp 83) (.tmp 82) rfl wa.heap.size 2 (.int .i64 v) rfl rfl rfl rfl _ _ #[.int .i64 (j : Int), .int .i64 0, .int .i64 v, .slice DD m cD] BO.out (by simp) (by kernel_rfl) rfl ?_; intro wb3 o6 g6; replace FR := Lib.hid (FR.out.away g6 l2); replace HS := Lib.hid (HS.out.away g6 l2); replace BR := Lib.hid (BR.out.away g6 (by omega)); replace NW := Lib.hid (NW.out.away g6 L7); replace BO := Lib.hid o6; clear o6 g6; (try clear c1); (try clear c2); (try have c1 := C1.out _ HS.out); (try have c2 := C2.out _ HS.out); (try clear k0 k1 k2 k3); have k0 := BO.out.cell 0; have k1 := BO.out.cell 1; have k2 := BO.out.cell 2; have k3 := BO.out.cell 3; simp only [List.getElem?_toArray, List.getElem?_cons_succ, List.getElem?_cons_zero] at k0 k1 k2 k3) | ((refine wpList_load_row rfl 24 (.tmp 6) rfl wa.heap.size rfl _ _ (0, 0) _ BO.out.heap Tryd.underlying24 rfl (by kernel_rfl) ?_)) | (go_at_call 11; (with_reducible refine (ropRight_any (j : Int) 0 v DD m cD x _ LM.out).mono ?_); rintro e wq ⟨rfl, hb⟩; rw [RR.out]; replace FR := Lib.hid (FR.out.fut hb); replace HS := Lib.hid (HS.out.fut hb); replace BR := Lib.hid (BR.out.fut hb); replace NW := Lib.hid (NW.out.fut hb); replace BO := Lib.hid (BO.out.fut hb); clear hb; (try clear c1); (try clear c2); (try have c1 := C1.out _ HS.out); (try have c2 := C2.out _ HS.out); (try clear k0 k1 k2 k3); have k0 := BO.out.cell 0; have k1 := BO.out.cell 1; have k2 := BO.out.cell 2; have k3 := BO.out.cell 3; simp only [List.getElem?_toArray, List.getElem?_cons_succ, List.getElem?_cons_zero] at k0 k1 k2 k3))
                  exact ⟨⟨j + 1, by omega, by omega, by go_num, NR.out, FR.out.out⟩, by simp [intOf]; omega⟩
              · have NN := Lib.hid (show l.length ≠ 3 from fun h => cK (NE.out.symm.trans h))
                have q8_0 : ((3 : Int) == (n : Int)) = false := by simp <;> omega
                clear cM cN cK
                have NR := Lib.hid (NJ.out (tryB_len HJ.out NN.out))
                clear NJ TJ HJ
                go_wp2_with (first | (refine wpList_store_all rfl 24 (.tmp 6) (.tmp 26) rfl wa.heap.size #[.int .i64 (j : Int), .int .i64 0, .int .i64 0, .slice none 0 0] rfl rfl _ _ BO.out rfl (by kernel_rfl) (by simp [Value.oneCell']) ?_; intro wb1 o6 g6; replace FR := Lib.hid (FR.out.away g6 l2); replace HS := Lib.hid (HS.out.away g6 l2); replace BR := Lib.hid (BR.out.away g6 (by omega)); replace BO := Lib.hid o6; clear o6 g6 hw_w7; (try clear c1); (try clear c2); (try have c1 := C1.out _ HS.out); (try have c2 := C2.out _ HS.out)) | (go_at_call 16; (with_reducible refine (U1.out _).mono ?_); rintro e wu ⟨DD, m, cD, rfl, sl, hb⟩; simp only [Option.getD_some, Option.getD_none] at sl; have L7 := BO.out.lt; replace FR := Lib.hid (FR.out.fut hb); replace HS := Lib.hid (HS.out.fut hb); replace BR := Lib.hid (BR.out.fut hb); replace BO := Lib.hid (BO.out.fut hb); have NW := Lib.hid (New.of sl (Far.refl _)); have LM := Lib.hid sl.n_eq; clear hb sl; (try clear c1); (try clear c2); (try have c1 := C1.out _ HS.out); (try have c2 := C2.out _ HS.out)) | (refine wpList_store_one rfl _ (.tmp 44) (.tmp 43) rfl wa.heap.size 3 (.slice DD m cD) rfl rfl rfl rfl _ _ #[.int .i64 (j : Int), .int .i64 0, .int .i64 0, .slice DD m cD] BO.out (by simp) (by kernel_rfl) rfl ?_; intro wb2 o6 g6; replace FR := Lib.hid (FR.out.away g6 l2); replace HS := Lib.hid (HS.out.away g6 l2); replace BR := Lib.hid (BR.out.away g6 (by omega)); replace NW := Lib.hid (NW.out.away g6 L7); replace BO := Lib.hid o6; clear o6 g6; (try clear c1); (try clear c2); (try have c1 := C1.out _ HS.out); (try have c2 := C2.out _ HS.out)) | (go_at_call 18; (with_reducible refine (N2.out _).mono ?_); rintro e wv ⟨rfl, hb⟩; replace FR := Lib.hid (FR.out.fut hb); replace HS := Lib.hid (HS.out.fut hb); replace BR := Lib.hid (BR.out.fut hb); replace NW := Lib.hid (NW.out.fut hb); replace BO := Lib.hid (BO.out.fut hb); clear hb; (try clear c1); (try clear c2); (try have c1 := C1.out _ HS.out); (try have c2 := C2.out _ HS.out)) | (refine wpList_store_one rfl _ (.tmp 83) (.tmp 82) rfl wa.heap.size 2 (.int .i64 v) rfl rfl rfl rfl _ _ #[.int .i64 (j : Int), .int .i64 0, .int .i64 v, .slice DD m cD] BO.out (by simp) (by kernel_rfl) rfl ?_; intro wb3 o6 g6; replace FR := Lib.hid (FR.out.away g6 l2); replace HS := Lib.hid (HS.out.away g6 l2); replace BR := Lib.hid (BR.out.away g6 (by omega)); replace NW := Lib.hid (NW.out.away g6 L7); replace BO := Lib.hid o6; clear o6 g6; (try clear c1); (try clear c2); (try have c1 := C1.out _ HS.out); (try have c2 := C2.out _ HS.out)))
                exact ⟨⟨j + 1, by omega, by omega, by go_num, NR.out, FR.out.out⟩, by simp [intOf]; omega⟩
        by_cases cC : j ≤ 5
        · have h3 : 3 ≤ j := by omega
          have HJ := Lib.hid h3
          have q5_0 : ¬ (j : Int) ≤ 2 := by omega
          have q5_1 : ((j : Int) == 2) = false := by simp <;> omega
          have q5_2 : (3 : Int) ≤ (j : Int) := by omega
          have q5_3 : (j : Int) ≤ 5 := by omega
          have q5_4 : (2 : Int) ≤ (j : Int) := by omega
          clear cA cB
          by_cases cN : n < 2
          · have m1 : ¬ (1 : Int) < (n : Int) := by omega
            have NR := Lib.hid (NJ.out (tryC_len HJ.out cC (by have := NE.out; omega)))
            clear NJ TJ HJ
            go_wp2_with (first | (refine wpList_store_all rfl 24 (.tmp 6) (.tmp 26) rfl wa.heap.size #[.int .i64 (j : Int), .int .i64 0, .int .i64 0, .slice none 0 0] rfl rfl _ _ BO.out rfl (by kernel_rfl) (by simp [Value.oneCell']) ?_; intro wb1 o6 g6; replace FR := Lib.hid (FR.out.away g6 l2); replace HS := Lib.hid (HS.out.away g6 l2); replace BR := Lib.hid (BR.out.away g6 (by omega)); replace BO := Lib.hid o6; clear o6 g6 hw_w7; (try clear c1); (try clear c2); (try have c1 := C1.out _ HS.out); (try have c2 := C2.out _ HS.out)))
            exact ⟨⟨j + 1, by omega, by omega, by go_num, NR.out, FR.out.out⟩, by simp [intOf]; omega⟩
          have m1 : (1 : Int) < (n : Int) := by omega
          have C1 := Lib.hid (fun W (h : Old w2 tStr W (some ⟨bs, os, none⟩) n cap l) => (show W.cell? ⟨bs, os + 1, none⟩ = some (.string s1) by rw [← H1.out]; exact old_str h (by omega)))
          obtain ⟨dd, hdd⟩ : ∃ x, numD s1.data.toList = x := ⟨_, rfl⟩
          rw [hdd] at N1
          have HD := Lib.hid (show numD (l.getD 1 ⟨#[]⟩).data.toList = dd by rw [H1.out]; exact hdd)
          clear hdd
          cases dd with
          | none =>
            have NR := Lib.hid (NJ.out (tryC_num HJ.out cC HD.out))
            clear NJ TJ HJ
            go_wp2_with (first | (refine wpList_store_all rfl 24 (.tmp 6) (.tmp 26) rfl wa.heap.size #[.int .i64 (j : Int), .int .i64 0, .int .i64 0, .slice none 0 0] rfl rfl _ _ BO.out rfl (by kernel_rfl) (by simp [Value.oneCell']) ?_; intro wb1 o6 g6; replace FR := Lib.hid (FR.out.away g6 l2); replace HS := Lib.hid (HS.out.away g6 l2); replace BR := Lib.hid (BR.out.away g6 (by omega)); replace BO := Lib.hid o6; clear o6 g6 hw_w7; (try clear c1); (try clear c2); (try have c1 := C1.out _ HS.out); (try have c2 := C2.out _ HS.out)) | (go_at_call 18; (with_reducible refine (N1.out _).mono ?_); rintro e wv ⟨rfl, hb⟩; replace FR := Lib.hid (FR.out.fut hb); replace HS := Lib.hid (HS.out.fut hb); replace BR := Lib.hid (BR.out.fut hb); replace BO := Lib.hid (BO.out.fut hb); clear hb; (try clear c1); (try clear c2); (try have c1 := C1.out _ HS.out); (try have c2 := C2.out _ HS.out)) | (refine wpList_store_one rfl _ (.tmp 85) (.tmp 84) rfl wa.heap.size 1 (.int .i64 0) rfl rfl rfl rfl _ _ #[.int .i64 (j : Int), .int .i64 0, .int .i64 0, .slice none 0 0] BO.out (by simp) (by kernel_rfl) rfl ?_; intro wb3 o6 g6; replace FR := Lib.hid (FR.out.away g6 l2); replace HS := Lib.hid (HS.out.away g6 l2); replace BR := Lib.hid (BR.out.away g6 (by omega)); replace BO := Lib.hid o6; clear o6 g6; (try clear c1); (try clear c2); (try have c1 := C1.out _ HS.out); (try have c2 := C2.out _ HS.out)))
            exact ⟨⟨j + 1, by omega, by omega, by go_num, NR.out, FR.out.out⟩, by simp [intOf]; omega⟩
          | some v =>
            by_cases cK : n = 2
            · have NN := Lib.hid (show l.length = 2 from NE.out.trans cK)
              have q7_0 : ((2 : Int) == (n : Int)) = true := by simp <;> omega
              clear cN cK
              obtain ⟨rr, hrr⟩ : ∃ b, rightO ⟨(j : Int), v, 0, []⟩ = b := ⟨_, rfl⟩
              have RR := Lib.hid hrr
              clear hrr
              cases rr with
              | true =>
                have RV := Lib.hid (TJ.out.trans ((tryC_ok HJ.out cC NN.out HD.out).trans (keep_yes RR.out)))
                clear NJ TJ HJ
                go_wp2_with (first | (refine wpList_store_all rfl 24 (.tmp 6) (.tmp 26) rfl wa.heap.size #[.int .i64 (j : Int), .int .i64 0, .int .i64 0, .slice none 0 0] rfl rfl _ _ BO.out rfl (by kernel_rfl) (by simp [Value.oneCell']) ?_; intro wb1 o6 g6; replace FR := Lib.hid (FR.out.away g6 l2); replace HS := Lib.hid (HS.out.away g6 l2); replace BR := Lib.hid (BR.out.away g6 (by omega)); replace BO := Lib.hid o6; clear o6 g6 hw_w7; (try clear c1); (try clear c2); (try have c1 := C1.out _ HS.out); (try have c2 := C2.out _ HS.out); (try clear k0 k1 k2 k3); have k0 := BO.out.cell 0; have k1 := BO.out.cell 1; have k2 := BO.out.cell 2; have k3 := BO.out.cell 3; simp only [List.getElem?_toArray, List.getElem?_cons_succ, List.getElem?_cons_zero] at k0 k1 k2 k3) | (go_at_call 18; (with_reducible refine (N1.out _).mono ?_); rintro e wv ⟨rfl, hb⟩; replace FR := Lib.hid (FR.out.fut hb); replace HS := Lib.hid (HS.out.fut hb); replace BR := Lib.hid (BR.out.fut hb); replace BO := Lib.hid (BO.out.fut hb); clear hb; (try clear c1); (try clear c2); (try have c1 := C1.out _ HS.out); (try have c2 := C2.out _ HS.out); (try clear k0 k1 k2 k3); have k0 := BO.out.cell 0; have k1 := BO.out.cell 1; have k2 := BO.out.cell 2; have k3 := BO.out.cell 3; simp only [List.getElem?_toArray, List.getElem?_cons_succ, List.getElem?_cons_zero] at k0 k1 k2 k3) | (refine wpList_store_one rfl _ (.tmp 85) (.tmp 84) rfl wa.heap.size 1 (.int .i64 v) rfl rfl rfl rfl _ _ #[.int .i64 (j : Int), .int .i64 v, .int .i64 0, .slice none 0 0] BO.out (by simp) (by kernel_rfl) rfl ?_; intro wb3 o6 g6; replace FR := Lib.hid (FR.out.away g6 l2); replace HS := Lib.hid (HS.out.away g6 l2); replace BR := Lib.hid (BR.out.away g6 (by omega)); replace BO := Lib.hid o6; clear o6 g6; (try clear c1); (try clear c2); (try have c1 := C1.out _ HS.out); (try have c2 := C2.out _ HS.out); (try clear k0 k1 k2 k3); have k0 := BO.out.cell 0; have k1 := BO.out.cell 1; have k2 := BO.out.cell 2; have k3 := BO.out.cell 3; simp only [List.getElem?_toArray, List.getElem?_cons_succ, List.getElem?_cons_zero] at k0 k1 k2 k3) | ((refine wpList_load_row rfl 24 (.tmp 6) rfl wa.heap.size rfl _ _ (0, 0) _ BO.out.heap Tryd.underlying24 rfl (by kernel_rfl) ?_)) | (go_at_call 11; (with_reducible refine (ropRight_any (j : Int) v 0 none 0 0 [] _ rfl).mono ?_); rintro e wq ⟨rfl, hb⟩; rw [RR.out]; replace FR := Lib.hid (FR.out.fut hb); replace HS := Lib.hid (HS.out.fut hb); replace BR := Lib.hid (BR.out.fut hb); replace BO := Lib.hid (BO.out.fut hb); clear hb; (try clear c1); (try clear c2); (try have c1 := C1.out _ HS.out); (try have c2 := C2.out _ HS.out); (try clear k0 k1 k2 k3); have k0 := BO.out.cell 0; have k1 := BO.out.cell 1; have k2 := BO.out.cell 2; have k3 := BO.out.cell 3; simp only [List.getElem?_toArray, List.getElem?_cons_succ, List.getElem?_cons_zero] at k0 k1 k2 k3) | (refine wpList_store_all rfl 24 (.tmp 2) (.tmp 103) rfl w.heap.size #[.int .i64 (j : Int), .int .i64 v, .int .i64 0, .slice none 0 0] rfl rfl _ _ BR.out rfl (by kernel_rfl) (by simp [Value.oneCell']) ?_; intro w9 B9 g9; have FZ := Lib.hid ((FS.out.fut FR.out.out).away g9 (Nat.le_refl _))))
                refine ret_cell_tmp rfl B9 rfl Tryd.underlying24 (by kernel_rfl) rfl ?_
                rw [RV.out]
                exact ⟨none, 0, 0, rfl, Sl.nil _ _ _, FZ.out.out⟩
              | false =>
                have NR := Lib.hid (NJ.out ((tryC_ok HJ.out cC NN.out HD.out).trans (keep_no RR.out)))
                clear NJ TJ HJ
                go_wp2_with (first | (refine wpList_store_all rfl 24 (.tmp 6) (.tmp 26) rfl wa.heap.size #[.int .i64 (j : Int), .int .i64 0, .int .i64 0, .slice none 0 0] rfl rfl _ _ BO.out rfl (by kernel_rfl) (by simp [Value.oneCell']) ?_; intro wb1 o6 g6; replace FR := Lib.hid (FR.out.away g6 l2); replace HS := Lib.hid (HS.out.away g6 l2); replace BR := Lib.hid (BR.out.away g6 (by omega)); replace BO := Lib.hid o6; clear o6 g6 hw_w7; (try clear c1); (try clear c2); (try have c1 := C1.out _ HS.out); (try have c2 := C2.out _ HS.out); (try clear k0 k1 k2 k3); have k0 := BO.out.cell 0; have k1 := BO.out.cell 1; have k2 := BO.out.cell 2; have k3 := BO.out.cell 3; simp only [List.getElem?_toArray, List.getElem?_cons_succ, List.getElem?_cons_zero] at k0 k1 k2 k3) | (go_at_call 18; (with_reducible refine (N1.out _).mono ?_); rintro e wv ⟨rfl, hb⟩; replace FR := Lib.hid (FR.out.fut hb); replace HS := Lib.hid (HS.out.fut hb); replace BR := Lib.hid (BR.out.fut hb); replace BO := Lib.hid (BO.out.fut hb); clear hb; (try clear c1); (try clear c2); (try have c1 := C1.out _ HS.out); (try have c2 := C2.out _ HS.out); (try clear k0 k1 k2 k3); have k0 := BO.out.cell 0; have k1 := BO.out.cell 1; have k2 := BO.out.cell 2; have k3 := BO.out.cell 3; simp only [List.getElem?_toArray, List.getElem?_cons_succ, List.getElem?_cons_zero] at k0 k1 k2 k3) | (refine wpList_store_one rfl _ (.tmp 85) (.tmp 84) rfl wa.heap.size 1 (.int .i64 v) rfl rfl rfl rfl _ _ #[.int .i64 (j : Int), .int .i64 v, .int .i64 0, .slice none 0 0] BO.out (by simp) (by kernel_rfl) rfl ?_; intro wb3 o6 g6; replace FR := Lib.hid (FR.out.away g6 l2); replace HS := Lib.hid (HS.out.away g6 l2); replace BR := Lib.hid (BR.out.away g6 (by omega)); replace BO := Lib.hid o6; clear o6 g6; (try clear c1); (try clear c2); (try have c1 := C1.out _ HS.out); (try have c2 := C2.out _ HS.out); (try clear k0 k1 k2 k3); have k0 := BO.out.cell 0; have k1 := BO.out.cell 1; have k2 := BO.out.cell 2; have k3 := BO.out.cell 3; simp only [List.getElem?_toArray, List.getElem?_cons_succ, List.getElem?_cons_zero] at k0 k1 k2 k3) | ((refine wpList_load_row rfl 24 (.tmp 6) rfl wa.heap.size rfl _ _ (0, 0) _ BO.out.heap Tryd.underlying24 rfl (by kernel_rfl) ?_)) | (go_at_call 11; (with_reducible refine (ropRight_any (j : Int) v 0 none 0 0 [] _ rfl).mono ?_); rintro e wq ⟨rfl, hb⟩; rw [RR.out]; replace FR := Lib.hid (FR.out.fut hb); replace HS := Lib.hid (HS.out.fut hb); replace BR := Lib.hid (BR.out.fut hb); replace BO := Lib.hid (BO.out.fut hb); clear hb; (try clear c1); (try clear c2); (try have c1 := C1.out _ HS.out); (try have c2 := C2.out _ HS.out); (try clear k0 k1 k2 k3); have k0 := BO.out.cell 0; have k1 := BO.out.cell 1; have k2 := BO.out.cell 2; have k3 := BO.out.cell 3; simp only [List.getElem?_toArray, List.getElem?_cons_succ, List.getElem?_cons_zero] at k0 k1 k2 k3))
                exact ⟨⟨j + 1, by omega, by omega, by go_num, NR.out, FR.out.out⟩, by simp [intOf]; omega⟩
            · have NN := Lib.hid (show l.length ≠ 2 from fun h => cK (NE.out.symm.trans h))
              have q7_0 : ((2 : Int) == (n : Int)) = false := by simp <;> omega
              clear cN cK
              have NR := Lib.hid (NJ.out (tryC_len HJ.out cC NN.out))
              clear NJ TJ HJ
              go_wp2_with (first | (refine wpList_store_all rfl 24 (.tmp 6) (.tmp 26) rfl wa.heap.size #[.int .i64 (j : Int), .int .i64 0, .int .i64 0, .slice none 0 0] rfl rfl _ _ BO.out rfl (by kernel_rfl) (by simp [Value.oneCell']) ?_; intro wb1 o6 g6; replace FR := Lib.hid (FR.out.away g6 l2); replace HS := Lib.hid (HS.out.away g6 l2); replace BR := Lib.hid (BR.out.away g6 (by omega)); replace BO := Lib.hid o6; clear o6 g6 hw_w7; (try clear c1); (try clear c2); (try have c1 := C1.out _ HS.out); (try have c2 := C2.out _ HS.out)) | (go_at_call 18; (with_reducible refine (N1.out _).mono ?_); rintro e wv ⟨rfl, hb⟩; replace FR := Lib.hid (FR.out.fut hb); replace HS := Lib.hid (HS.out.fut hb); replace BR := Lib.hid (BR.out.fut hb); replace BO := Lib.hid (BO.out.fut hb); clear hb; (try clear c1); (try clear c2); (try have c1 := C1.out _ HS.out); (try have c2 := C2.out _ HS.out)) | (refine wpList_store_one rfl _ (.tmp 85) (.tmp 84) rfl wa.heap.size 1 (.int .i64 v) rfl rfl rfl rfl _ _ #[.int .i64 (j : Int), .int .i64 v, .int .i64 0, .slice none 0 0] BO.out (by simp) (by kernel_rfl) rfl ?_; intro wb3 o6 g6; replace FR := Lib.hid (FR.out.away g6 l2); replace HS := Lib.hid (HS.out.away g6 l2); replace BR := Lib.hid (BR.out.away g6 (by omega)); replace BO := Lib.hid o6; clear o6 g6; (try clear c1); (try clear c2); (try have c1 := C1.out _ HS.out); (try have c2 := C2.out _ HS.out)))
              exact ⟨⟨j + 1, by omega, by omega, by go_num, NR.out, FR.out.out⟩, by simp [intOf]; omega⟩
        have HJ := Lib.hid (show j = 6 by omega)
        have q4_0 : ¬ (j : Int) ≤ 2 := by omega
        have q4_1 : ((j : Int) == 2) = false := by simp <;> omega
        have q4_2 : (3 : Int) ≤ (j : Int) := by omega
        have q4_3 : ¬ (j : Int) ≤ 5 := by omega
        have q4_4 : (2 : Int) ≤ (j : Int) := by omega
        clear cA cB cC
        by_cases cK : n = 1
        · have NN := Lib.hid (show l.length = 1 from NE.out.trans cK)
          have q5_0 : ((1 : Int) == (n : Int)) = true := by simp <;> omega
          clear cK
          have RR := Lib.hid (show rightO ⟨(j : Int), 0, 0, []⟩ = true by rw [HJ.out]; exact right_six)
          have RV := Lib.hid (TJ.out.trans ((tryE_ok HJ.out NN.out).trans (keep_yes RR.out)))
          clear NJ TJ HJ
          go_wp2_with (first | (refine wpList_store_all rfl 24 (.tmp 6) (.tmp 26) rfl wa.heap.size #[.int .i64 (j : Int), .int .i64 0, .int .i64 0, .slice none 0 0] rfl rfl _ _ BO.out rfl (by kernel_rfl) (by simp [Value.oneCell']) ?_; intro wb1 o6 g6; replace FR := Lib.hid (FR.out.away g6 l2); replace HS := Lib.hid (HS.out.away g6 l2); replace BR := Lib.hid (BR.out.away g6 (by omega)); replace BO := Lib.hid o6; clear o6 g6 hw_w7; (try clear c1); (try clear c2); (try have c1 := C1.out _ HS.out); (try have c2 := C2.out _ HS.out); (try clear k0 k1 k2 k3); have k0 := BO.out.cell 0; have k1 := BO.out.cell 1; have k2 := BO.out.cell 2; have k3 := BO.out.cell 3; simp only [List.getElem?_toArray, List.getElem?_cons_succ, List.getElem?_cons_zero] at k0 k1 k2 k3) | ((refine wpList_load_row rfl 24 (.tmp 6) rfl wa.heap.size rfl _ _ (0, 0) _ BO.out.heap Tryd.underlying24 rfl (by kernel_rfl) ?_)) | (go_at_call 11; (with_reducible refine (ropRight_any (j : Int) 0 0 none 0 0 [] _ rfl).mono ?_); rintro e wq ⟨rfl, hb⟩; rw [RR.out]; replace FR := Lib.hid (FR.out.fut hb); replace HS := Lib.hid (HS.out.fut hb); replace BR := Lib.hid (BR.out.fut hb); replace BO := Lib.hid (BO.out.fut hb); clear hb; (try clear c1); (try clear c2); (try have c1 := C1.out _ HS.out); (try have c2 := C2.out _ HS.out); (try clear k0 k1 k2 k3); have k0 := BO.out.cell 0; have k1 := BO.out.cell 1; have k2 := BO.out.cell 2; have k3 := BO.out.cell 3; simp only [List.getElem?_toArray, List.getElem?_cons_succ, List.getElem?_cons_zero] at k0 k1 k2 k3) | (refine wpList_store_all rfl 24 (.tmp 2) (.tmp 103) rfl w.heap.size #[.int .i64 (j : Int), .int .i64 0, .int .i64 0, .slice none 0 0] rfl rfl _ _ BR.out rfl (by kernel_rfl) (by simp [Value.oneCell']) ?_; intro w9 B9 g9; have FZ := Lib.hid ((FS.out.fut FR.out.out).away g9 (Nat.le_refl _))))
          refine ret_cell_tmp rfl B9 rfl Tryd.underlying24 (by kernel_rfl) rfl ?_
          rw [RV.out]
          exact ⟨none, 0, 0, rfl, Sl.nil _ _ _, FZ.out.out⟩
        have NN := Lib.hid (show l.length ≠ 1 from fun h => cK (NE.out.symm.trans h))
        have q4_0 : ((1 : Int) == (n : Int)) = false := by simp <;> omega
        clear cK
        have NR := Lib.hid (NJ.out (tryE_len HJ.out NN.out))
        clear NJ TJ HJ
        go_wp2_with (first | (refine wpList_store_all rfl 24 (.tmp 6) (.tmp 26) rfl wa.heap.size #[.int .i64 (j : Int), .int .i64 0, .int .i64 0, .slice none 0 0] rfl rfl _ _ BO.out rfl (by kernel_rfl) (by simp [Value.oneCell']) ?_; intro wb1 o6 g6; replace FR := Lib.hid (FR.out.away g6 l2); replace HS := Lib.hid (HS.out.away g6 l2); replace BR := Lib.hid (BR.out.away g6 (by omega)); replace BO := Lib.hid o6; clear o6 g6 hw_w7; (try clear c1); (try clear c2); (try have c1 := C1.out _ HS.out); (try have c2 := C2.out _ HS.out)))
        exact ⟨⟨j + 1, by omega, by omega, by go_num, NR.out, FR.out.out⟩, by simp [intOf]; omega⟩
      · have t1 : (s0.toList == wb.toList) = false := by
          rw [Bool.eq_false_iff]
          intro e
          rw [beq_iff_eq, ByteArray.toList_eq, ByteArray.toList_eq] at e
          exact c (WideShapes.bytes_inj e).symm
        have NJ := Lib.hid (NX.out (fun h => absurd h c))
        clear c DJ NX
        go_upto_region 5 with fail
        refine wp_region_ext wr (by kernel_rfl) (by kernel_rfl) (Below.refl _ _) ?_
        repeat (go_big_quiet_step ((exact E1.out _)))
        refine wpQuiet_nil ?_
        rintro wa ⟨⟨_, hb⟩, rfl⟩
        replace FR := Lib.hid (FR.out.fut hb)
        clear x1 hb
        go_wp2_with fail
        exact ⟨⟨j + 1, by omega, by omega, by go_num, NJ.out, FR.out.out⟩, by simp [intOf]; omega⟩
    · have p1 : ¬ (j : Int) ≤ 6 := by omega
      have RV := Lib.hid (show r = none from DN.out (fun i h1 h7 h => PR.out i h1 (by omega) h))
      go_wp2_with (refine wpList_store_all rfl 24 (.tmp 2) (.tmp 104) rfl w.heap.size #[.int .i64 0, .int .i64 0, .int .i64 0, .slice none 0 0] rfl rfl _ _ BR.out rfl (by kernel_rfl) (by simp [Value.oneCell']) ?_; intro w9 B9 g9; have FZ := Lib.hid ((FS.out.fut FR.out.out).away g9 (Nat.le_refl _)))
      refine ret_cell_tmp rfl B9 rfl Tryd.underlying24 (by kernel_rfl) rfl ?_
      rw [RV.out]
      exact ⟨none, 0, 0, rfl, Sl.nil _ _ _, FZ.out.out⟩
end Go.Proofs.YthnhknomjepijaaDoor
