/-
  The walk of OpScripts (layer 44).
  Conditions: the library's variables lie as they are laid.
-/
import Derived.Test.YthnhknomjepijaaDoorOpZ
import Derived.Test.YthnhknomjepijaaDoorNeqSt
namespace Go.Proofs.YthnhknomjepijaaDoor
set_option linter.unusedVariables false
set_option linter.unusedSimpArgs false
open Go Go.RowKit Go.ChangeShapes Go.WideShapes
set_option maxRecDepth 100000
set_option maxHeartbeats 4000000

theorem good_has {x : ByteArray} (h : goodL x = true) (hs : silL x = false) : ∃ o, docV (cutS x 32) = some o := by
  unfold goodL at h
  rw [hs, Bool.false_or] at h
  exact Option.isSome_iff_exists.1 h
theorem bad_not {x : ByteArray} (h : goodL x = false) : silL x = false ∧ docV (cutS x 32) = none := by
  unfold goodL at h
  rw [Bool.or_eq_false_iff] at h
  exact ⟨h.1, by simpa using h.2⟩
theorem Sl.op_at {w : World} {S : Nat → Prop} {A : Option Addr} {n cap : Nat} {l : List Opd} (h : Sl tOp w S A n cap l) (i : Nat) (hi : i < n) :
    ∃ x b off A' m c, l[i]? = some x ∧ A = some ⟨b, off, none⟩ ∧ w.rangeAt b (off + i * 4) [.int .i64 x.kind, .int .i64 x.n, .int .i64 x.d, .slice A' m c] ∧ Sl (tInt .u8) w S A' m c x.data ∧ (InK .i64 x.kind ∧ InK .i64 x.n ∧ InK .i64 x.d) := by
  obtain ⟨x, b, off, xs, hx, hA, -, -, hr, -, hc⟩ := h.cells i hi (by decide)
  obtain ⟨A', m, c, rfl, hs, hk⟩ := op_rep hr
  refine ⟨x, b, off, A', m, c, hx, hA, fun j v hv => ?_, hs, hk⟩
  have := hc j v hv
  rw [show tOp.size = 4 from rfl] at this
  rw [Nat.add_assoc]
  exact this
theorem Sl.op_of {w : World} {S : Nat → Prop} {A : Option Addr} {n cap : Nat} {l : List Opd} (h : Sl tOp w S A n cap l) (i : Nat) (hi : i < n) {x : Opd} (hx : l[i]? = some x) :
    ∃ b off A' m c, A = some ⟨b, off, none⟩ ∧ w.rangeAt b (off + i * 4) [.int .i64 x.kind, .int .i64 x.n, .int .i64 x.d, .slice A' m c] ∧ Sl (tInt .u8) w S A' m c x.data := by
  obtain ⟨y, b, off, A', m, c, hy, h1, h2, h3, -⟩ := h.op_at i hi
  rw [hx] at hy
  cases hy
  exact ⟨b, off, A', m, c, h1, h2, h3⟩

theorem opScripts_walk (s : ByteArray) (w : World) (hw : LW w) (hm : LM w) :
    Calls Tryd.prog 5 #[.string s] w fun e w' => e = .returned (.bool true) ∧ Below w.heap.size w w' := by
  have FR := Lib.hid (Far.refl w)
  have HL := Lib.hid hw
  by_cases c1 : 3000 < s.size
  · have p1 : (3000 : Int) < (s.size : Int) := by omega
    clear c1
    go_enter Tryd.func5, Tryd.ntmps5
    go_wp2_with fail
    refine (known44_any _ (HL.out.fut FR.out.out)).mono ?_
    rintro e w' ⟨rfl, hb⟩
    replace FR := Lib.hid (FR.out.fut hb)
    clear hb
    go_wp2_with fail
    go_ret
    exact ⟨rfl, FR.out.out⟩
  have p1 : ¬ (3000 : Int) < (s.size : Int) := by omega
  have SC := Lib.hid (opScript_any s w (by omega) hw hm)
  have CU := Lib.hid (fun w => ropCut_any s 10 w (by omega))
  have CZ := Lib.hid (fun x (h : x ∈ cutS s 10) => Nat.le_trans (cutS_size h) (show s.size ≤ 3000 by omega))
  have CL := cutS_len s 10
  obtain ⟨ls, hls⟩ : ∃ l, cutS s 10 = l := ⟨_, rfl⟩
  rw [hls] at SC CU CZ CL
  obtain ⟨N, hN⟩ : ∃ N, ls.length = N := ⟨_, rfl⟩
  have HN := Lib.hid hN
  rw [hN] at CL
  have h1N : 1 ≤ N := CL.1
  have hNb : N ≤ 3001 := by omega
  clear hls hN hw hm CL c1
  go_enter Tryd.func5, Tryd.ntmps5
  go_wp2_with fail
  refine SC.out.mono ?_
  rintro e w1 (⟨i0, x0, hi0, hg0, hx0, rfl, hb⟩ | ⟨hg0, AL, nl, cl, rfl, slL, hb⟩)
  · skip
    replace FR := Lib.hid (FR.out.fut hb)
    have GD := Lib.hid hg0
    have XI0 := Lib.hid hi0
    have XB := Lib.hid (bad_not hx0)
    have hi0N : i0 < N := by rw [← HN.out]; exact (List.getElem?_eq_some_iff.1 hi0).1
    clear hb hg0 hi0 hx0 SC
    go_wp2_with fail
    refine (CU.out _).mono ?_
    rintro e w2 ⟨A, N', cap, rfl, sl, hb⟩
    obtain rfl : N' = N := by rw [← sl.n_eq]; exact HN.out
    obtain ⟨bs, os, rfl, -, -, -, -⟩ := str_at sl 0 h1N
    have HSW := Lib.hid (Old.now sl.old)
    replace FR := Lib.hid (FR.out.fut hb)
    have FS := Lib.hid FR.out
    clear sl hb CU
    go_wp2_with fail
    go_loopw [7, 8] (fun u i wr => ∃ (k n : Nat) (S : Nat → Prop), k ≤ i0 ∧ i = .int .i64 k ∧ Own tOp wr S w2.heap.size 24 u n (opsOf (ls.take k)) ∧ (∀ b, S b → bin w2.heap.size wr.heap.size b ∧ some b ≠ u.ownBlock) ∧ Below w2.heap.size w2 wr) (fun _ i _ => N' - (intOf i).toNat)
    case atStart => exact ⟨0, 0, fun _ => False, Nat.zero_le _, rfl, Own.nil _ _ _ _ _, fun b h => h.elim, Below.refl _ _⟩
    case round =>
      clear FR
      obtain ⟨k, n, S, hk, rfl, hown, hSS, hb2⟩ := hrel
      have HS := Lib.hid (HSW.out.fut hb2)
      have FR := Lib.hid (show Far w wr from FS.out.fut hb2)
      have ON := Lib.hid hown
      have SS := Lib.hid hSS
      have H2 := Lib.hid hb2
      have LN := hown.length (by decide)
      have KN : n ≤ k := by have := ops_len (ls.take k); rw [List.length_take] at this; omega
      clear hown hSS hb2 LN
      by_cases hlt : k < i0
      · have hkN : k < N' := by omega
        have hkl : k < ls.length := by rw [HN.out]; exact hkN
        have c1 := old_str HS.out hkN
        have XI := Lib.hid (show ls[k]? = some (ls.getD k ⟨#[]⟩) by rw [List.getD_eq_getElem?_getD, List.getElem?_eq_getElem hkl]; rfl)
        have XZ := Lib.hid (getD_size CZ.out k)
        obtain ⟨x, hx⟩ : ∃ x, ls.getD k ⟨#[]⟩ = x := ⟨_, rfl⟩
        rw [hx] at c1 XI XZ
        have p2 : (k : Int) < (N' : Int) := by omega
        have gi : IntKind.i64.wrap ((k : Int) + 1) = ((k + 1 : Nat) : Int) := (IntWalk.i64_in _ (by omega)).trans (by simp)
        clear hx hkl
        by_cases c0 : x.size = 0
        · have SX := Lib.hid (sil_zero c0)
          obtain rfl := size0 c0
          have NX := Lib.hid (ops_sil XI.out SX.out)
          clear c0
          go_wp2_with fail
          exact ⟨⟨k + 1, n, S, by omega, by go_num, by rw [NX.out]; exact ON.out, SS.out, H2.out⟩, by simp [intOf]; omega⟩
        have hx0 : 0 < x.size := by omega
        have te : x.toList.isEmpty = false := sempty_ne c0
        by_cases c35 : (x[0]'hx0) = 35
        · have SX := Lib.hid (sil_hash hx0 c35)
          have t0 : (((x[0]'hx0).toNat : Int) == 35) = true := by rw [c35]; rfl
          have NX := Lib.hid (ops_sil XI.out SX.out)
          clear c0 c35
          go_wp2_with fail
          exact ⟨⟨k + 1, n, S, by omega, by go_num, by rw [NX.out]; exact ON.out, SS.out, H2.out⟩, by simp [intOf]; omega⟩
        have SX := Lib.hid (sil_not hx0 c35)
        have t0 : (((x[0]'hx0).toNat : Int) == 35) = false := by
          rw [Bool.eq_false_iff]
          intro q
          rw [beq_iff_eq] at q
          exact c35 (UInt8.toNat_inj.1 (show (x[0]'hx0).toNat = 35 by omega))
        obtain ⟨o, hpd⟩ := good_has (GD.out k x (by omega) XI.out) SX.out
        have P1 := Lib.hid (fun w => ropParse_any x w (Nat.le_trans XZ.out (by decide)))
        simp only [hpd, RetDP, Option.getD_some, Option.isSome_some] at P1
        have NX := Lib.hid (ops_one XI.out SX.out hpd)
        have OK := Lib.hid (doc_ok hpd)
        clear c0 c35 hpd
        have zr := FR.out.size
        go_wp2_with fail
        refine (P1.out _).mono ?_
        rintro e w3 ⟨D, m, cD, rfl, sD, hb3⟩
        have z3 := hb3.size
        have SD := Lib.hid sD
        have G3 := Lib.hid hb3
        have O3 := Lib.hid (ON.out.below hb3 (Nat.le_refl _) (fun b h => (SS.out b h).1.2))
        have OL := Lib.hid ON.out.lt
        clear sD hb3 P1
        obtain ⟨w4, hw_w4⟩ : ∃ nw_, w3.alloc (.cells #[.int .i64 0, .int .i64 0, .int .i64 0, .slice none 0 0] 24) = nw_ := ⟨_, rfl⟩
        have k_w4 : Below w3.heap.size w3 w4 := by rw [← hw_w4]; exact (Below.refl _ _).alloc (Nat.le_refl _) _
        have BO := Lib.hid (show Blk w4 w3.heap.size 24 #[.int .i64 0, .int .i64 0, .int .i64 0, .slice none 0 0] by rw [← hw_w4]; exact Blk.now _ _ _ _ rfl)
        clear k_w4
        go_wp2_with (first
          | (refine wpList_store_all rfl 24 (.tmp 9) (.tmp 49) rfl w3.heap.size #[.int .i64 o.kind, .int .i64 o.n, .int .i64 o.d, .slice D m cD] rfl rfl _ _ BO.out rfl (by kernel_rfl) (by simp [Value.oneCell']) ?_; intro w5 o5 g5; have K5 := Lib.hid (show Below w3.heap.size w3 w5 from (show Below w3.heap.size w3 w4 by rw [← hw_w4]; exact (Below.refl _ _).alloc (Nat.le_refl _) _).grown g5 (by rw [← hw_w4]; simp) (fun k h => by have := Option.some.inj h; omega)); have O5 := Lib.hid (O3.out.below K5.out (Nat.le_refl _) (fun b h => Nat.lt_of_lt_of_le (SS.out b h).1.2 z3)); have T5 := Lib.hid (SD.out.below K5.out (fun b h => h.2)); have z5 := K5.out.size; have B5 := Lib.hid (below_later K5.out (below_later G3.out H2.out)); have Z5 := Lib.hid B5.out.size; replace BO := Lib.hid o5; clear o5 g5 hw_w4)
          | ((refine wpList_load_row rfl 24 (.tmp 9) rfl w3.heap.size rfl _ _ (0, 0) _ BO.out.heap Tryd.underlying24 rfl (by kernel_rfl) ?_))
          | (refine wpList_lit1 rfl (.tmp 70) rfl ei_ops #[.int .i64 o.kind, .int .i64 o.n, .int .i64 o.d, .slice D m cD] rfl rfl (by decide) ?_)
          | (at_builtin; refine wpList_push (W := w5) (cs := #[.int .i64 o.kind, .int .i64 o.n, .int .i64 o.d, .slice D m cD]) (E := 24) (t := tOp) (S := fun b => S b ∨ bin wr.heap.size w3.heap.size b) (base := w2.heap.size) rfl (.tmp 69) (.tmp 71) rfl ei_ops rfl (O5.out.wide44 fun b h => .inl h) 1 rfl o (rep_op (T5.out.more fun b h => .inr h) (right_in OK.out.1) OK.out.2.1 OK.out.2.2.1) (by unfold maxLen; omega) (by omega) Z5.out (fun b h => (by rcases h with h | h; exact ⟨Nat.lt_of_lt_of_le (SS.out b h).1.2 (by omega), (SS.out b h).2⟩; exact ⟨Nat.lt_of_lt_of_le h.2 z5, fun e => absurd (OL.out b e.symm).2 (Nat.not_lt.2 h.1)⟩)) ?_; intro v' wz ownz gz atz))
        have bz := B5.out.grown gz Z5.out (fun j hj => (OL.out j hj).1)
        have zz := Z5.out
        refine ⟨⟨k + 1, n + 1, _, by omega, by go_num, by rw [NX.out]; exact ownz, fun b h => ?_, bz⟩, by simp [intOf]; omega⟩
        have q : (w2.heap.size ≤ b ∧ b < w5.heap.size) ∧ some b ≠ u7.ownBlock := by
          rcases h with h | h
          · exact ⟨⟨(SS.out b h).1.1, Nat.lt_of_lt_of_le (SS.out b h).1.2 (by omega)⟩, (SS.out b h).2⟩
          · exact ⟨⟨by have := H2.out.size; have := h.1; omega, Nat.lt_of_lt_of_le h.2 z5⟩, fun e => absurd (OL.out b e.symm).2 (Nat.not_lt.2 h.1)⟩
        refine ⟨⟨q.1.1, Nat.lt_of_lt_of_le q.1.2 gz.size⟩, fun e => ?_⟩
        rcases atz with a | a <;> rw [a] at e
        · exact q.2 e
        · have := Option.some.inj e; have := q.1.2; omega
      · obtain rfl : k = i0 := by omega
        have hkN : k < N' := by omega
        have hkl : k < ls.length := by rw [HN.out]; exact hkN
        have c1 := old_str HS.out hkN
        have XI := Lib.hid (show ls[k]? = some (ls.getD k ⟨#[]⟩) by rw [List.getD_eq_getElem?_getD, List.getElem?_eq_getElem hkl]; rfl)
        have XZ := Lib.hid (getD_size CZ.out k)
        obtain ⟨x, hx⟩ : ∃ x, ls.getD k ⟨#[]⟩ = x := ⟨_, rfl⟩
        rw [hx] at c1 XI XZ
        have p2 : (k : Int) < (N' : Int) := by omega
        have gi : IntKind.i64.wrap ((k : Int) + 1) = ((k + 1 : Nat) : Int) := (IntWalk.i64_in _ (by omega)).trans (by simp)
        clear hx hkl
        obtain rfl : x0 = x := Option.some.inj (XI0.out.symm.trans XI.out)
        have hs0 : ¬ x0.size = 0 := fun h => by have := sil_zero h; rw [XB.out.1] at this; cases this
        have hx0 : 0 < x0.size := by omega
        have te : x0.toList.isEmpty = false := sempty_ne hs0
        have t0 : (((x0[0]'hx0).toNat : Int) == 35) = false := by
          rw [Bool.eq_false_iff]
          intro q
          rw [beq_iff_eq] at q
          have := sil_hash hx0 (UInt8.toNat_inj.1 (show (x0[0]'hx0).toNat = 35 by omega))
          rw [XB.out.1] at this
          cases this
        have P1 := Lib.hid (fun w => ropParse_any x0 w (Nat.le_trans XZ.out (by decide)))
        simp only [XB.out.2, RetDP, Option.getD_none, Option.isSome_none] at P1
        clear hs0 hlt
        go_wp2_with fail
        refine (P1.out _).mono ?_
        rintro e w3 ⟨D, m, cD, rfl, -, hb3⟩
        replace FR := Lib.hid (FR.out.fut hb3)
        clear hb3 P1
        have z3 := FR.out.size
        have t1 : (((k + 1 : Nat) : Int) == ((k + 1 : Nat) : Int)) = true := beq_self_eq_true _
        obtain ⟨w4, hw_w4⟩ : ∃ nw_, w3.alloc (.cells #[.int .i64 0, .int .i64 0, .int .i64 0, .slice none 0 0] 24) = nw_ := ⟨_, rfl⟩
        have k_w4 : Below w3.heap.size w3 w4 := by rw [← hw_w4]; exact (Below.refl _ _).alloc (Nat.le_refl _) _
        replace FR := Lib.hid (FR.out.fut k_w4)
        have BO := Lib.hid (show Blk w4 w3.heap.size 24 #[.int .i64 0, .int .i64 0, .int .i64 0, .slice none 0 0] by rw [← hw_w4]; exact Blk.now _ _ _ _ rfl)
        clear k_w4
        go_wp2_with (first
          | (refine wpList_store_all rfl 24 (.tmp 9) (.tmp 49) rfl w3.heap.size #[.int .i64 op0.kind, .int .i64 op0.n, .int .i64 op0.d, .slice D m cD] rfl rfl _ _ BO.out rfl (by kernel_rfl) (by simp [Value.oneCell']) ?_; intro w5 o5 g5; replace FR := Lib.hid (FR.out.away g5 (by omega)); clear o5 g5 hw_w4)
          | (go_at_call 7; refine (known44_any _ (HL.out.fut FR.out.out)).mono ?_; rintro e w6 ⟨rfl, hb⟩; replace FR := Lib.hid (FR.out.fut hb); clear hb))
        go_ret
        exact ⟨rfl, FR.out.out⟩
  · skip
    replace FR := Lib.hid (FR.out.fut hb)
    have GD := Lib.hid (show allGood ls N by rw [← HN.out]; exact hg0)
    have HLS := Lib.hid (Old.now slL.old)
    have LE := Lib.hid slL.n_eq
    clear hb hg0 slL SC
    go_wp2_with fail
    refine (CU.out _).mono ?_
    rintro e w2 ⟨A, N', cap, rfl, sl, hb⟩
    obtain rfl : N' = N := by rw [← sl.n_eq]; exact HN.out
    obtain ⟨bs, os, rfl, -, -, -, -⟩ := str_at sl 0 h1N
    have HSW := Lib.hid (Old.now sl.old)
    replace FR := Lib.hid (FR.out.fut hb)
    replace HLS := Lib.hid (HLS.out.fut hb)
    have FS := Lib.hid FR.out
    clear sl hb CU
    go_wp2_with fail
    go_loopw [7, 8] (fun u i wr => ∃ (k n : Nat) (S : Nat → Prop), k ≤ N' ∧ i = .int .i64 k ∧ Own tOp wr S w2.heap.size 24 u n (opsOf (ls.take k)) ∧ (∀ b, S b → bin w2.heap.size wr.heap.size b ∧ some b ≠ u.ownBlock) ∧ Below w2.heap.size w2 wr) (fun _ i _ => N' - (intOf i).toNat)
    case atStart => exact ⟨0, 0, fun _ => False, Nat.zero_le _, rfl, Own.nil _ _ _ _ _, fun b h => h.elim, Below.refl _ _⟩
    case round =>
      clear FR
      obtain ⟨k, n, S, hk, rfl, hown, hSS, hb2⟩ := hrel
      have HS := Lib.hid (HSW.out.fut hb2)
      have FR := Lib.hid (show Far w wr from FS.out.fut hb2)
      have ON := Lib.hid hown
      have SS := Lib.hid hSS
      have H2 := Lib.hid hb2
      have LN := hown.length (by decide)
      have KN : n ≤ k := by have := ops_len (ls.take k); rw [List.length_take] at this; omega
      clear hown hSS hb2
      by_cases hlt : k < N'
      · have hkN : k < N' := hlt
        clear LN
        have hkl : k < ls.length := by rw [HN.out]; exact hkN
        have c1 := old_str HS.out hkN
        have XI := Lib.hid (show ls[k]? = some (ls.getD k ⟨#[]⟩) by rw [List.getD_eq_getElem?_getD, List.getElem?_eq_getElem hkl]; rfl)
        have XZ := Lib.hid (getD_size CZ.out k)
        obtain ⟨x, hx⟩ : ∃ x, ls.getD k ⟨#[]⟩ = x := ⟨_, rfl⟩
        rw [hx] at c1 XI XZ
        have p2 : (k : Int) < (N' : Int) := by omega
        have gi : IntKind.i64.wrap ((k : Int) + 1) = ((k + 1 : Nat) : Int) := (IntWalk.i64_in _ (by omega)).trans (by simp)
        clear hx hkl
        by_cases c0 : x.size = 0
        · have SX := Lib.hid (sil_zero c0)
          obtain rfl := size0 c0
          have NX := Lib.hid (ops_sil XI.out SX.out)
          clear c0
          go_wp2_with fail
          exact ⟨⟨k + 1, n, S, by omega, by go_num, by rw [NX.out]; exact ON.out, SS.out, H2.out⟩, by simp [intOf]; omega⟩
        have hx0 : 0 < x.size := by omega
        have te : x.toList.isEmpty = false := sempty_ne c0
        by_cases c35 : (x[0]'hx0) = 35
        · have SX := Lib.hid (sil_hash hx0 c35)
          have t0 : (((x[0]'hx0).toNat : Int) == 35) = true := by rw [c35]; rfl
          have NX := Lib.hid (ops_sil XI.out SX.out)
          clear c0 c35
          go_wp2_with fail
          exact ⟨⟨k + 1, n, S, by omega, by go_num, by rw [NX.out]; exact ON.out, SS.out, H2.out⟩, by simp [intOf]; omega⟩
        have SX := Lib.hid (sil_not hx0 c35)
        have t0 : (((x[0]'hx0).toNat : Int) == 35) = false := by
          rw [Bool.eq_false_iff]
          intro q
          rw [beq_iff_eq] at q
          exact c35 (UInt8.toNat_inj.1 (show (x[0]'hx0).toNat = 35 by omega))
        obtain ⟨o, hpd⟩ := good_has (GD.out k x (by omega) XI.out) SX.out
        have P1 := Lib.hid (fun w => ropParse_any x w (Nat.le_trans XZ.out (by decide)))
        simp only [hpd, RetDP, Option.getD_some, Option.isSome_some] at P1
        have NX := Lib.hid (ops_one XI.out SX.out hpd)
        have OK := Lib.hid (doc_ok hpd)
        clear c0 c35 hpd
        have zr := FR.out.size
        go_wp2_with fail
        refine (P1.out _).mono ?_
        rintro e w3 ⟨D, m, cD, rfl, sD, hb3⟩
        have z3 := hb3.size
        have SD := Lib.hid sD
        have G3 := Lib.hid hb3
        have O3 := Lib.hid (ON.out.below hb3 (Nat.le_refl _) (fun b h => (SS.out b h).1.2))
        have OL := Lib.hid ON.out.lt
        clear sD hb3 P1
        obtain ⟨w4, hw_w4⟩ : ∃ nw_, w3.alloc (.cells #[.int .i64 0, .int .i64 0, .int .i64 0, .slice none 0 0] 24) = nw_ := ⟨_, rfl⟩
        have k_w4 : Below w3.heap.size w3 w4 := by rw [← hw_w4]; exact (Below.refl _ _).alloc (Nat.le_refl _) _
        have BO := Lib.hid (show Blk w4 w3.heap.size 24 #[.int .i64 0, .int .i64 0, .int .i64 0, .slice none 0 0] by rw [← hw_w4]; exact Blk.now _ _ _ _ rfl)
        clear k_w4
        go_wp2_with (first
          | (refine wpList_store_all rfl 24 (.tmp 9) (.tmp 49) rfl w3.heap.size #[.int .i64 o.kind, .int .i64 o.n, .int .i64 o.d, .slice D m cD] rfl rfl _ _ BO.out rfl (by kernel_rfl) (by simp [Value.oneCell']) ?_; intro w5 o5 g5; have K5 := Lib.hid (show Below w3.heap.size w3 w5 from (show Below w3.heap.size w3 w4 by rw [← hw_w4]; exact (Below.refl _ _).alloc (Nat.le_refl _) _).grown g5 (by rw [← hw_w4]; simp) (fun k h => by have := Option.some.inj h; omega)); have O5 := Lib.hid (O3.out.below K5.out (Nat.le_refl _) (fun b h => Nat.lt_of_lt_of_le (SS.out b h).1.2 z3)); have T5 := Lib.hid (SD.out.below K5.out (fun b h => h.2)); have z5 := K5.out.size; have B5 := Lib.hid (below_later K5.out (below_later G3.out H2.out)); have Z5 := Lib.hid B5.out.size; replace BO := Lib.hid o5; clear o5 g5 hw_w4)
          | ((refine wpList_load_row rfl 24 (.tmp 9) rfl w3.heap.size rfl _ _ (0, 0) _ BO.out.heap Tryd.underlying24 rfl (by kernel_rfl) ?_))
          | (refine wpList_lit1 rfl (.tmp 70) rfl ei_ops #[.int .i64 o.kind, .int .i64 o.n, .int .i64 o.d, .slice D m cD] rfl rfl (by decide) ?_)
          | (at_builtin; refine wpList_push (W := w5) (cs := #[.int .i64 o.kind, .int .i64 o.n, .int .i64 o.d, .slice D m cD]) (E := 24) (t := tOp) (S := fun b => S b ∨ bin wr.heap.size w3.heap.size b) (base := w2.heap.size) rfl (.tmp 69) (.tmp 71) rfl ei_ops rfl (O5.out.wide44 fun b h => .inl h) 1 rfl o (rep_op (T5.out.more fun b h => .inr h) (right_in OK.out.1) OK.out.2.1 OK.out.2.2.1) (by unfold maxLen; omega) (by omega) Z5.out (fun b h => (by rcases h with h | h; exact ⟨Nat.lt_of_lt_of_le (SS.out b h).1.2 (by omega), (SS.out b h).2⟩; exact ⟨Nat.lt_of_lt_of_le h.2 z5, fun e => absurd (OL.out b e.symm).2 (Nat.not_lt.2 h.1)⟩)) ?_; intro v' wz ownz gz atz))
        have bz := B5.out.grown gz Z5.out (fun j hj => (OL.out j hj).1)
        have zz := Z5.out
        refine ⟨⟨k + 1, n + 1, _, by omega, by go_num, by rw [NX.out]; exact ownz, fun b h => ?_, bz⟩, by simp [intOf]; omega⟩
        have q : (w2.heap.size ≤ b ∧ b < w5.heap.size) ∧ some b ≠ u7.ownBlock := by
          rcases h with h | h
          · exact ⟨⟨(SS.out b h).1.1, Nat.lt_of_lt_of_le (SS.out b h).1.2 (by omega)⟩, (SS.out b h).2⟩
          · exact ⟨⟨by have := H2.out.size; have := h.1; omega, Nat.lt_of_lt_of_le h.2 z5⟩, fun e => absurd (OL.out b e.symm).2 (Nat.not_lt.2 h.1)⟩
        refine ⟨⟨q.1.1, Nat.lt_of_lt_of_le q.1.2 gz.size⟩, fun e => ?_⟩
        rcases atz with a | a <;> rw [a] at e
        · exact q.2 e
        · have := Option.some.inj e; have := q.1.2; omega
      · obtain rfl : k = N' := by omega
        have HE := Lib.hid (show opsOf (ls.take k) = opsOf ls by rw [List.take_of_length_le (by rw [HN.out]; exact Nat.le_refl _)])
        have p2 : ¬ (k : Int) < (k : Int) := by omega
        rw [HE.out] at LN
        obtain rfl : nl = n := by rw [← LN]; exact LE.out.symm
        obtain ⟨A1, c1, rfl, sl⟩ := ON.out.sl (S' := blo wr.heap.size) (by decide) (fun b h1 h2 => h2) (fun b h => (SS.out b h).1.2)
        rw [HE.out] at sl
        have SWT := Lib.hid (Old.now sl)
        have SLT := Lib.hid (Old.now (HLS.out.fut H2.out).all)
        have FZ := Lib.hid FR.out
        have LE2 := Lib.hid LE.out
        have t9 : ((nl : Int) != (nl : Int)) = false := by simp
        have KN2 : nl ≤ 3001 := by omega
        clear sl hlt hk KN LN
        go_wp2_with fail
        obtain ⟨wl, hwl⟩ : ∃ x, x = wr := ⟨_, rfl⟩
        subst hwl
        go_loopw [11] (fun i wr => ∃ j : Nat, j ≤ nl ∧ i = .int .i64 j ∧ Below wl.heap.size wl wr) (fun i _ => nl - (intOf i).toNat)
        case atStart => exact ⟨0, Nat.zero_le _, rfl, Below.refl _ _⟩
        case round =>
          obtain ⟨j, hj, rfl, hb3⟩ := hrel
          have FR := Lib.hid (FZ.out.fut hb3)
          have QL := Lib.hid (SLT.out.fut hb3)
          have QW := Lib.hid (SWT.out.fut hb3)
          have H3 := Lib.hid hb3
          clear hb3
          by_cases hj2 : j < nl
          · have p3 : (j : Int) < (nl : Int) := by omega
            have gi : IntKind.i64.wrap ((j : Int) + 1) = ((j + 1 : Nat) : Int) := (IntWalk.i64_in _ (by omega)).trans (by simp)
            obtain ⟨x, b1, o1, D1, m1, q1, hx, rfl, r1, s1, -⟩ := QL.out.all.op_at j hj2
            obtain ⟨b2, o2, D2, m2, q2, h2, r2, s2⟩ := QW.out.all.op_of j hj2 hx
            subst h2
            have R1 := Lib.hid (fun x : Ext wr => rangeAt_later r1 x.2)
            have R2 := Lib.hid (fun x : Ext wr => rangeAt_later r2 x.2)
            have S1 := Lib.hid (Old.now s1)
            have S2 := Lib.hid (Old.now s2)
            have E1 := Lib.hid (fun y : Ext wr => calls_ext y (same44_any x.kind x.n x.d x.kind x.n x.d D1 D2 m1 q1 m2 q2 x.data x.data y.1 (S1.out.fut y.2).all (S2.out.fut y.2).all))
            simp only [beq_self_eq_true, Bool.true_and, decide_true] at E1
            clear r1 r2 s1 s2 hx
            go_upto_region 19 with fail
            refine wp_region_ext wr (by kernel_rfl) (by kernel_rfl) (Below.refl _ _) ?_
            go_big_quiet_step (fail)
            go_big_quiet_step (fail)
            go_big_quiet_step (fail)
            refine wpQuiet_load_mid (by kernel_rfl) 24 (.tmp 86) rfl b1 (o1 + j * 4) rfl _ _ (by rintro _ ⟨x, rfl⟩; exact R1.out x) Tryd.underlying24 rfl (by kernel_rfl) ?_
            simp only [Act.put, List.getElem_toArray, List.getElem_cons_succ, List.getElem_cons_zero, List.setIfInBounds_toArray, List.set_cons_zero, List.set_cons_succ]
            go_big_quiet_step (fail)
            go_big_quiet_step (fail)
            go_big_quiet_step (fail)
            refine wpQuiet_load_mid (by kernel_rfl) 24 (.tmp 90) rfl b2 (o2 + j * 4) rfl _ _ (by rintro _ ⟨x, rfl⟩; exact R2.out x) Tryd.underlying24 rfl (by kernel_rfl) ?_
            simp only [Act.put, List.getElem_toArray, List.getElem_cons_succ, List.getElem_cons_zero, List.setIfInBounds_toArray, List.set_cons_zero, List.set_cons_succ]
            go_big_quiet_step ((with_reducible exact E1.out _))
            go_big_quiet_step (fail)
            refine wpQuiet_nil ?_
            rintro wa ⟨⟨_, hb⟩, rfl⟩
            replace H3 := Lib.hid (below_later hb H3.out)
            clear hb
            go_wp2_with fail
            exact ⟨⟨j + 1, by omega, by go_num, H3.out⟩, by simp [intOf]; omega⟩
          · obtain rfl : j = nl := by omega
            have p3 : ¬ (j : Int) < (j : Int) := by omega
            clear hj hj2
            go_wp2_with fail
            refine (known44_any _ (HL.out.fut FR.out.out)).mono ?_
            rintro e w6 ⟨rfl, hb⟩
            replace FR := Lib.hid (FR.out.fut hb)
            clear hb
            go_wp2_with fail
            go_ret
            exact ⟨rfl, FR.out.out⟩
end Go.Proofs.YthnhknomjepijaaDoor
