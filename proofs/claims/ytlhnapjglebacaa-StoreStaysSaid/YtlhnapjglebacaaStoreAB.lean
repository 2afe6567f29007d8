/-
  The law's do: a request is answered at both (layer 42).
  Conditions: fewer than 2^39 requests; rows of at most 2^40 numbers.
-/
import Derived.Test.YtlhnapjglebacaaChecked
import Derived.Test.YtlhnapjglebacaaStoreAA
namespace Go.Proofs.Ytlhnapjglebacaa
set_option linter.unusedVariables false
set_option linter.unusedSimpArgs false
open Go.RowKit Go.ChangeShapes Go.WideShapes
set_option maxRecDepth 100000
set_option maxHeartbeats 4000000

theorem answer_bad {rs : List Req} {id : Int} {a : Ans} (h : runCode rs id ≠ 0) : answerOp rs id a = (runCode rs id, rs) := by
  unfold runCode answerOp at *
  cases hr : reqOf rs id with
  | none => rfl
  | some r =>
    rw [hr] at h
    replace h : (if r.state = 1 then (31 : Int) else if r.state = 2 then 0 else 33) ≠ 0 := h
    show (if r.state = 1 then _ else if r.state = 2 then _ else _) = ((if r.state = 1 then (31 : Int) else if r.state = 2 then 0 else 33), rs)
    by_cases h1 : r.state = 1
    · rw [if_pos h1, if_pos h1]
    · by_cases h2 : r.state = 2
      · rw [if_neg h1, if_pos h2] at h; exact absurd rfl h
      · rw [if_neg h1, if_neg h2, if_neg h1, if_neg h2]
theorem answer_good {rs : List Req} {id : Int} {a : Ans} (h : runCode rs id = 0) : ∃ (i : Nat) (r : Req), id = (i : Int) + 1 ∧ i < rs.length ∧ rs[i]? = some r ∧ answerOp rs id a = (0, rs.set i { r with state := 3, p := noPoint, a := { a with id := (i : Int) + 1 } }) := by
  unfold runCode answerOp at *
  cases hr : reqOf rs id with
  | none => rw [hr] at h; cases h
  | some r =>
    rw [hr] at h
    obtain ⟨i, rfl, hi, hri⟩ := reqOf_some hr
    refine ⟨i, r, rfl, hi, hri, ?_⟩
    replace h : (if r.state = 1 then (31 : Int) else if r.state = 2 then 0 else 33) = 0 := h
    by_cases h1 : r.state = 1
    · rw [if_pos h1] at h; cases h
    · by_cases h2 : r.state = 2
      · show (if r.state = 1 then _ else if r.state = 2 then _ else _) = _
        rw [if_neg h1, if_pos h2, show ((i : Int) + 1 - 1).toNat = i by omega]
      · rw [if_neg h1, if_neg h2] at h; cases h

theorem do_answer (g b : Nat) (m : Int) (rs : List Req) (A : Option Addr) (n c : Nat) (o : Do) (PA : Option Addr) (pn pc : Nat) (PB : Option Addr) (pm pd : Nat) (PL : Option Addr) (pl pk : Nat) (w : World) (h : Both w g b m rs A n c) (ho : DoSl w (offM w b) o PA pn pc PB pm pd PL pl pk)
    (hk : o.kind.tmod 5 = 3) (hlen : rs.length < 549755813888) (h1 : pl ≤ 35184372087808) :
    Calls Try.prog 51 #[.pointer (some ⟨g, 0, none⟩), .slice A n c, .int .i64 m, .agg (doCells o PA pn pc PB pm pd PL pl pk)] w (DoEnd g b m ((answerOp rs o.id o.a).2) w) := by
  have H := Lib.hid h
  have HO := Lib.hid ho
  have hn := h.len
  have hbw : b < w.heap.size := by obtain ⟨D0, vs0, hin0⟩ := h.store.out; exact hin0.own.lt
  have hgw : g < w.heap.size ∧ g ≠ b := by obtain ⟨D0, vs0, hin0⟩ := h.store.out; exact ⟨hin0.blk.lt, hin0.ne⟩
  clear h ho
  have k0 : Below w.heap.size w (w.alloc (.cells (doCells o PA pn pc PB pm pd PL pl pk) 103)) := (Below.refl _ _).alloc (Nat.le_refl _) _
  have B0 := Lib.hid (Blk.now w w.heap.size 103 (doCells o PA pn pc PB pm pd PL pl pk) rfl)
  subst hn
  have N := Lib.hid (refOpen_any A rs.length c (rs.map zeroId) o.id true _ ((H.out.rows.more (fun x hx => hx.1)).later k0 (Nat.le_refl _)) HO.out.ok.id)
  unfold doCells at *
  go_enter Try.func51, Try.ntmps51
  go_wp2_with fail
  refine N.out.mono ?_
  rintro e w1 ⟨he, b1⟩
  simp only [Bool.false_eq_true, if_false, if_true, openCode_zero, runCode_zero] at he
  subst he
  have G1 := Lib.hid (below_call k0 b1 k0.size)
  have B1 := Lib.hid (B0.out.later b1)
  have lt1 := B1.out.lt
  have kz : Below w.heap.size w (w1.alloc (.cells zQ 112)) := G1.out.alloc G1.out.size _
  have BT := Lib.hid (Blk.now w1 w1.heap.size 112 zQ rfl)
  have BX := Lib.hid (B1.out.past (.cells zQ 112))
  clear N k0 b1 B0
  unfold zQ at kz BT BX
  by_cases h0 : runCode rs o.id = 0
  · obtain ⟨i, r, hid, hi, hri, hc⟩ := answer_good (a := o.a) h0
    have HC0 := Lib.hid hc
    have HC := Lib.hid (show answerOp rs ((i : Int) + 1) o.a = (0, rs.set i { r with state := 3, p := noPoint, a := { o.a with id := (i : Int) + 1 } }) from by have h := hc; rw [hid] at h; exact h)
    have hid64 := HO.out.ok.id
    rw [hid] at hid64
    have hrow := H.out.rows.keep (w' := w1.alloc (.cells zQ 112)) (fun x hx => kz.block x hx.1)
    obtain ⟨rq, bq, off, X, x, xc, Y, y, yc, L, nl, cl, hx, rfl, hbq, _, hq0, hq, hcell⟩ := hrow.q_at i hi
    rw [List.getElem?_map, hri] at hx
    obtain rfl : zeroId r = rq := Option.some.inj hx
    have HRQ := Lib.hid (show ReqSl w (offM w b) (zeroId r) X x xc Y y yc L nl cl from hq.keep (fun x hx => (kz.block x hx.1).symm))
    have hra : (w1.alloc (.cells zQ 112)).rangeAt bq (off + i * 22) (qCells (zeroId r) X x xc Y y yc L nl cl).toList := fun j v hv => hcell j v (by simpa using hv)
    unfold zQ at hra
    have HRA := Lib.hid hra
    have t0 : (runCode rs o.id == 0) = true := by simp [h0]
    have p1 : (i : Int) < (rs.length : Int) := by omega
    have cX := fun i => BX.out.cell i
    clear hrow hx hq hcell hra hc
    rw [h0]
    go_wp2_with (first
      | (refine wpList_load_mid rfl 112 (.tmp 77) rfl bq (off + i * 22) rfl (qCells (zeroId r) X x xc Y y yc L nl cl).toList _ HRA.out Try.underlying112 rfl (by kernel_rfl) ?_)
      | (refine wpList_store_all rfl 112 (.tmp 14) (.tmp 78) rfl w1.heap.size (qCells (zeroId r) X x xc Y y yc L nl cl) rfl rfl _ _ BT.out rfl (by kernel_rfl) (by simp [Value.oneCell', qCells]) ?_; intro w2 B2 g2; have BX2 : Blk w2 w.heap.size _ _ := ⟨(g2.block _ BX.out.lt (by intro e; have := Option.some.inj e; omega)).trans BX.out.heap⟩; have cX2 := fun i => BX2.cell i))
    have K2 : Below w.heap.size w w2 := kz.grown g2 (by have := G1.out.size; simp; omega) (fun k h => by have := Option.some.inj h; omega)
    refine (storeAnswer_any g b m rs ((i : Int) + 1) o.a PL pl pk w2 (H.out.store.later K2) hid64 hlen HO.out.ok.a ((HO.out.logits.more (fun x hx => hx.1)).later K2 (Nat.le_refl _)) h1).mono ?_
    rintro e w3 ⟨he, hs3, g3⟩
    rw [HC.out] at he hs3
    subst he
    have S3 := Lib.hid hs3
    have B3 := Lib.hid (show Blk w3 w1.heap.size _ _ from ⟨(g3.block _ B2.lt (by intro e; have := Option.some.inj e; omega)).trans B2.heap⟩)
    have BX3 := Lib.hid (show Blk w3 w.heap.size _ _ from ⟨(g3.block _ BX2.lt (by intro e; have := Option.some.inj e; omega)).trans BX2.heap⟩)
    have G3 := Lib.hid (grown_grown' K2 g3)
    have cX3 := fun i => BX3.out.cell i
    have lt3 := B3.out.lt
    have s3 : w3.cell? ⟨w1.heap.size, 0, none⟩ = some (.int .i64 r.state) := B3.out.cell 0
    have f3 := B3.out.frozen 0
    clear hs3 g3 cX kz cX2 B2 BX2 K2
    go_wp2_with (first
      | (refine wpList_store_blk rfl 110 (.tmp 123) (.tmp 122) rfl w1.heap.size 2 (ptCells noPoint none 0 0 none 0 0) rfl rfl 112 (qCells { zeroId r with state := 3 } X x xc Y y yc L nl cl) (qCells { zeroId r with state := 3, p := noPoint } none 0 0 none 0 0 L nl cl) (show Blk _ w1.heap.size _ _ from B3.out.set_ 0 _) (by simp [ptCells, qCells]) (by kernel_rfl) (by simp [Value.oneCell', ptCells, noPoint, noTensor]) rfl ?_; intro w4 B4 g4; have BX4 : Blk w4 w.heap.size _ _ := ⟨(g4.block _ (by simpa using BX3.out.lt) (by intro e; have := Option.some.inj e; omega)).trans (BX3.out.far _ _ (by simp; omega)).heap⟩; have cX4 := fun i => BX4.cell i)
      | (refine wpList_store_blk rfl 38 (.tmp 126) (.tmp 125) rfl w1.heap.size 13 (ansCells o.a PL pl pk) rfl rfl 112 _ (qCells { zeroId r with state := 3, p := noPoint, a := o.a } none 0 0 none 0 0 PL pl pk) B4 (by simp [ansCells, qCells]) (by kernel_rfl) (by simp [Value.oneCell', ansCells]) rfl ?_; intro w5 B5 g5; have BX5 : Blk w5 w.heap.size _ _ := ⟨(g5.block _ BX4.lt (by intro e; have := Option.some.inj e; omega)).trans BX4.heap⟩; have cX5 := fun i => BX5.cell i; have c5 : w5.cell? ⟨w1.heap.size, 13, none⟩ = some (.int .i64 o.a.id) := B5.cell 13; have f5 := B5.frozen 13)
      | (refine wpList_load_row rfl 112 (.tmp 14) rfl w1.heap.size rfl _ (qCells { zeroId r with state := 3, p := noPoint, a := { o.a with id := (i : Int) + 1 } } none 0 0 none 0 0 PL pl pk) (0, 0) _ (show Blk _ w1.heap.size 112 (qCells { zeroId r with state := 3, p := noPoint, a := { o.a with id := (i : Int) + 1 } } none 0 0 none 0 0 PL pl pk) from B5.set_ 13 _).heap Try.underlying112 rfl (by kernel_rfl) ?_))
    have g34 := grown2 (grown2 (grown2 (grown_setCells (g := w1.heap.size) [.int .i64 3] 0 w3) g4) g5) (grown_setCells (g := w1.heap.size) [.int .i64 ((i : Int) + 1)] 13 w5)
    have G4 := grown_far G3.out g34 (Nat.le_of_lt lt1)
    have S4 := S3.out.other B3.out (noSmall_q _ _ _ _ _ _ _ _ _ _) g34 (by omega) (by omega)
    have hr4 := HRQ.out.keep (w' := (w5.setCell ⟨w1.heap.size, 13, none⟩ (.int .i64 ((i : Int) + 1)))) (fun x hx => G4.block x hx.1 (by simpa using hx.2))
    refine (refSet_any (offM w b) _ rs.length c (rs.map zeroId) i hi { zeroId r with state := 3, p := noPoint, a := { o.a with id := (i : Int) + 1 } } rfl none 0 0 none 0 0 PL pl pk (w5.setCell ⟨w1.heap.size, 13, none⟩ (.int .i64 ((i : Int) + 1))) (H.out.rows.keep (fun x hx => G4.block x hx.1 (by simpa using hx.2))) (fun x hx => Nat.lt_of_lt_of_le hx.1 G4.size) ⟨{ hr4.ok with state := (by rw [inK_i64]; simp), p := inPt_no, a := { HO.out.ok.a with id := hid64 } }, Sl.nil _ _ _, Sl.nil _ _ _, HO.out.logits.keep (w' := (w5.setCell ⟨w1.heap.size, 13, none⟩ (.int .i64 ((i : Int) + 1)))) (fun x hx => G4.block x hx.1 (by simpa using hx.2))⟩ hlen).mono ?_
    rintro e w6 ⟨A', c', rfl, sl, b5⟩
    have z4 : w.heap.size ≤ (w5.setCell ⟨w1.heap.size, 13, none⟩ (.int .i64 ((i : Int) + 1))).heap.size := G4.size
    have GE := Lib.hid (grown_mono_below G4 b5)
    have SE := Lib.hid (S4.later b5)
    have RE := Lib.hid (sl.more (S' := offM w6 b) (fun x hx => by
      rcases hx with hx | hx
      · exact ⟨Nat.lt_of_lt_of_le hx.1 GE.out.size, hx.2⟩
      · exact ⟨hx.2, fun e => by have := hx.1; omega⟩))
    clear sl b5 S4 hr4 g34 G4
    go_wp2_with fail
    go_ret2
    (first | rw [HC0.out] | rw [HC.out])
    refine ⟨A', _, c', rfl, ⟨SE.out, ?_⟩, GE.out⟩
    have := RE.out
    rwa [show (rs.map zeroId).set i { zeroId r with state := 3, p := noPoint, a := { o.a with id := (i : Int) + 1 } } = (rs.set i { r with state := 3, p := noPoint, a := { o.a with id := (i : Int) + 1 } }).map zeroId by rw [List.map_set]; rfl] at this
  · have hx := answer_bad (a := o.a) h0
    have HX := Lib.hid (show (answerOp rs o.id o.a).2 = rs by rw [hx])
    obtain ⟨oc, hoc⟩ : ∃ oc, runCode rs o.id = oc := ⟨_, rfl⟩
    have N := Lib.hid (storeAnswer_any g b m rs o.id o.a PL pl pk _ (H.out.store.later kz) HO.out.ok.id hlen HO.out.ok.a ((HO.out.logits.more (fun x hx => hx.1)).later kz (Nat.le_refl _)) h1)
    rw [hx] at N
    rw [hoc] at h0 N ⊢
    have t0 : (oc == 0) = false := by simp [h0]
    have t1 : (oc != 0) = true := by simp [h0]
    have t2 : (oc == oc) = true := by simp
    have cX := fun i => BX.out.cell i
    clear hoc h0 hx
    go_wp2_with fail
    refine N.out.mono ?_
    rintro e w3 ⟨rfl, hs3, g3⟩
    have S3 := Lib.hid hs3
    have B3 := Lib.hid (show Blk w3 w1.heap.size _ _ from ⟨(g3.block _ BT.out.lt (by intro e; have := Option.some.inj e; omega)).trans BT.out.heap⟩)
    have G3 := Lib.hid (grown_grown' kz g3)
    have z3 := g3.size
    simp at z3
    have BX3 := Lib.hid (show Blk w3 w.heap.size _ _ from ⟨(g3.block _ BX.out.lt (by intro e; have := Option.some.inj e; omega)).trans BX.out.heap⟩)
    have cX3 := fun i => BX3.out.cell i
    have s3 : w3.cell? ⟨w1.heap.size, 0, none⟩ = some (.int .i64 0) := B3.out.cell 0
    have f3 := B3.out.frozen 0
    clear N hs3 g3 cX kz
    go_wp2_with (first
      | (refine wpList_store_blk rfl 110 (.tmp 123) (.tmp 122) rfl w1.heap.size 2 (ptCells noPoint none 0 0 none 0 0) rfl rfl 112 (#[.int .i64 3, .int .i64 0, .int .i64 0, .int .i64 0, .int .i64 0, .int .i64 0, .int .i64 0, .int .i64 0, .slice none 0 0, .int .i64 0, .int .i64 0, .int .i64 0, .slice none 0 0, .int .i64 0, .int .i64 0, .int .i64 0, .int .i64 0, .int .i64 0, .slice none 0 0, .int .i64 0, .int .i64 0, .int .i64 0]) (#[.int .i64 3, .int .i64 0, .int .i64 0, .int .i64 0, .int .i64 0, .int .i64 0, .int .i64 0, .int .i64 0, .slice none 0 0, .int .i64 0, .int .i64 0, .int .i64 0, .slice none 0 0, .int .i64 0, .int .i64 0, .int .i64 0, .int .i64 0, .int .i64 0, .slice none 0 0, .int .i64 0, .int .i64 0, .int .i64 0]) (show Blk _ w1.heap.size _ _ from B3.out.set_ 0 _) (by simp [ptCells]) (by kernel_rfl) (by simp [Value.oneCell', ptCells, noPoint, noTensor]) rfl ?_; intro w4 B4 g4; have BX4 : Blk w4 w.heap.size _ _ := ⟨(g4.block _ (by simpa using BX3.out.lt) (by intro e; have := Option.some.inj e; omega)).trans (BX3.out.far _ _ (by simp; omega)).heap⟩; have cX4 := fun i => BX4.cell i)
      | (refine wpList_store_blk rfl 38 (.tmp 126) (.tmp 125) rfl w1.heap.size 13 (ansCells o.a PL pl pk) rfl rfl 112 _ (qCells { noReq with state := 3, a := o.a } none 0 0 none 0 0 PL pl pk) B4 (by simp [ansCells]) (by kernel_rfl) (by simp [Value.oneCell', ansCells]) rfl ?_; intro w5 B5 g5; have BX5 : Blk w5 w.heap.size _ _ := ⟨(g5.block _ BX4.lt (by intro e; have := Option.some.inj e; omega)).trans BX4.heap⟩; have cX5 := fun i => BX5.cell i; have c5 : w5.cell? ⟨w1.heap.size, 13, none⟩ = some (.int .i64 o.a.id) := B5.cell 13; have f5 := B5.frozen 13))
    go_ret2
    have g34 := grown2 (grown2 (grown2 (grown_setCells (g := w1.heap.size) [.int .i64 3] 0 w3) g4) g5) (grown_setCells (g := w1.heap.size) [.int .i64 (o.id)] 13 w5)
    have G4 := grown_far G3.out g34 (Nat.le_of_lt lt1)
    rw [HX.out]
    exact ⟨A, _, c, rfl, ⟨S3.out.other B3.out (noSmall_q noReq none 0 0 none 0 0 none 0 0) g34 (by omega) (by omega), (H.out.rows.keep (fun x hx => G4.block x hx.1 (by simpa using hx.2))).more (fun x hx => ⟨Nat.lt_of_lt_of_le hx.1 G4.size, hx.2⟩)⟩, G4⟩
end Go.Proofs.Ytlhnapjglebacaa
