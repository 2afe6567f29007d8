/-
  op.Text (layer 44), over the library's Builder.
  Conditions: the library's variables lie as they are laid; at most 30 ops of at most 500 bytes each.
-/
import Derived.Test.YthnhknomjepijaaDoorOpBP
import Derived.Test.YthnhknomjepijaaDoorOpSA
import Derived.Shelf.Strings.BuilderK
namespace Go.Proofs
open Go.Shelf
def Tryd.lBld_ren : Go.Shelf.Ren := ⟨fun | 167 => 40 | 240 => 48 | 276 => 59 | n => n, Tryd.lays156_ren.t, Tryd.lays156_ren.g⟩
theorem Tryd.lBld : Go.Proofs.Lays.n167 Tryd.prog Tryd.lBld_ren := { Tryd.lays156 with
  f167 := Tryd.func40.trans (congrArg some (by kernel_rfl))
  f240 := Tryd.func48.trans (congrArg some (by kernel_rfl))
  f276 := Tryd.func59.trans (congrArg some (by kernel_rfl))
  t5 := Tryd.underlying5
  a5 := Tryd.isAgg5
  z5 := Tryd.sizeOf5
  v5 := Tryd.zeroValue5 }
theorem Tryd.Builder_Extra_167 : Builder.Extra Tryd.prog Tryd.lBld_ren := {
  sizeBuilder := by kernel_rfl
  liesBuilder := by kernel_rfl
  t5 := Tryd.underlying5
  a5 := Tryd.isAgg5
  z5 := Tryd.sizeOf5
  v5 := Tryd.zeroValue5
  infoByte := by kernel_rfl
  cellsByte := by kernel_rfl
  sizeByte := by kernel_rfl
  neB5 := by decide }
namespace YthnhknomjepijaaDoor
set_option linter.unusedVariables false
set_option linter.unusedSimpArgs false
open Go Go.RowKit Go.ChangeShapes Go.WideShapes
set_option maxRecDepth 100000
set_option maxHeartbeats 4000000

/-- A builder under way. -/
structure Bld (B : Nat) (l : List UInt8) (w : World) : Prop where
  out : Lib.IsBuilderF 67 5 B B (Lib.byteCells l) w
theorem Bld.far {B : Nat} {l : List UInt8} {w w' : World} (h : Bld B l w) (hb : Below w.heap.size w w') : Bld B l w' := by
  have hg : w.grownBy w' none := ⟨hb.os, hb.tape, hb.output, hb.size, fun k hk _ => hb.block k (by omega)⟩
  refine ⟨?_⟩
  rcases h.out with ⟨h1, v, h2, h3, h4⟩ | ⟨h1, v, h2, h3, h4⟩
  · exact .inl ⟨h1, v, by rw [hb.block _ (Array.getElem?_eq_some_iff.1 h2).1]; exact h2, h3.kept hg (by cases v.ownBlock <;> simp), h4⟩
  · exact .inr ⟨h1, v, by rw [hb.block _ (Array.getElem?_eq_some_iff.1 h2).1]; exact h2, h3.kept hg (by cases v.ownBlock <;> simp), h4⟩
theorem Bld.lt {B : Nat} {l : List UInt8} {w : World} (h : Bld B l w) : B < w.heap.size := by
  rcases h.out with h | h
  · exact h.lt
  · exact h.lt
theorem writeS_any (B : Nat) (l : List UInt8) (s : ByteArray) (w : World) (h : Bld B l w) (hl : l.length + s.size ≤ 100000000) (hB : B ≤ w.heap.size) :
    Calls Tryd.prog 39 #[.pointer (some ⟨B, 0, none⟩), .string s] w fun e w' => e = .returned (.tuple #[.int .i64 s.size, .nilIface]) ∧ Bld B (l ++ s.data.toList) w' ∧ Below B w w' := by
  refine (Any.Builder_WriteString_k { Tryd.lays156 with } Tryd.Builder_Extra_156 B B (Lib.byteCells l) s w h.out (by rw [Lib.byteCells_length]; omega) hB).mono ?_
  rintro e w' ⟨rfl, h1, hb, -⟩
  exact ⟨rfl, ⟨by rw [Lib.byteCells_append]; exact .inr h1⟩, hb⟩
theorem writeB_any (B : Nat) (l : List UInt8) (w : World) (h : Bld B l w) (hl : l.length ≤ 100000000) (hB : B ≤ w.heap.size) :
    Calls Tryd.prog 40 #[.pointer (some ⟨B, 0, none⟩), .int .u8 10] w fun e w' => e = .returned .nilIface ∧ Bld B (l ++ [10]) w' ∧ Below B w w' := by
  refine (Any.Builder_WriteByte_k Tryd.lBld Tryd.Builder_Extra_167 B B (Lib.byteCells l) 10 w h.out (by rw [Lib.byteCells_length]; omega) hB).mono ?_
  rintro e w' ⟨rfl, h1, hb, -⟩
  exact ⟨rfl, ⟨by rw [Lib.byteCells_append]; exact .inr h1⟩, hb⟩
theorem string_any (B : Nat) (l : List UInt8) (w : World) (h : Bld B l w) (hB : B ≤ w.heap.size) :
    Calls Tryd.prog 41 #[.pointer (some ⟨B, 0, none⟩)] w fun e w' => e = .returned (.string ⟨l.toArray⟩) ∧ Below B w w' := by
  refine (Any.Builder_String_any_k { Tryd.lays156 with } Tryd.Builder_Extra_156 B B l w h.out hB).mono ?_
  rintro e w' ⟨rfl, -, hb, -⟩
  exact ⟨rfl, hb⟩

theorem opText_any (A : Option Addr) (n cap : Nat) (l : List Opd) (w : World) (hs : Sl tOp w (blo w.heap.size) A n cap l) (hn : n ≤ 30) (hw : LW w) :
    Calls Tryd.prog 26 #[.slice A n cap] w fun e w' => e = .returned (.string ⟨(textB l).toArray⟩) ∧ Below w.heap.size w w' := by
  have HSW := Lib.hid (Old.now hs)
  have HL := Lib.hid hw
  have LN := Lib.hid hs.n_eq
  have HI := Lib.hid (show ∀ o ∈ l, InK .i64 o.n ∧ InK .i64 o.d from fun o ho => by
    obtain ⟨i, hi, rfl⟩ := List.mem_iff_getElem.1 ho
    obtain ⟨x, b, off, A', m, c, hx, -, -, -, hk⟩ := hs.op_at i (by rw [← hs.n_eq]; exact hi)
    rw [List.getElem?_eq_getElem hi] at hx
    cases hx
    exact hk.2)
  have TL := Lib.hid (fun k => show (textB (l.take k)).length ≤ 2000000 by
    refine Nat.le_trans (text_len _ fun o ho => HI.out o (List.mem_of_mem_take ho)) ?_
    have h1 := LN.out
    have h2 : (l.take k).length ≤ 30 := by rw [List.length_take]; omega
    omega)
  have l0 : w.heap.size < (w.alloc (.cells #[.pointer none, .slice none 0 0] 67)).heap.size := by simp
  have B0 := Lib.hid (show Bld w.heap.size (textB (l.take 0)) (w.alloc (.cells #[.pointer none, .slice none 0 0] 67)) from ⟨Lib.IsBuilderF.of (Lib.fresh_isBuilder 67 5 w)⟩)
  have F0 := Lib.hid ((Below.refl w.heap.size w).alloc (Nat.le_refl _) (.cells #[.pointer none, .slice none 0 0] 67))
  clear hs hw
  go_enter Tryd.func26, Tryd.ntmps26
  go_wp2_with fail
  go_loopw [9] (fun i wr => ∃ k : Nat, k ≤ n ∧ i = .int .i64 k ∧ Bld w.heap.size (textB (l.take k)) wr ∧ w.heap.size < wr.heap.size ∧ Below w.heap.size w wr) (fun i _ => n - (intOf i).toNat)
  case atStart => exact ⟨0, Nat.zero_le _, rfl, B0.out, l0, F0.out⟩
  case round =>
    clear B0 F0
    obtain ⟨k, hk, rfl, hB, hz, hb⟩ := hrel
    have BB := Lib.hid hB
    have HB := Lib.hid hb
    clear hB hb l0
    by_cases hlt : k < n
    · have p1 : (k : Int) < (n : Int) := by omega
      have gi : IntKind.i64.wrap ((k : Int) + 1) = ((k + 1 : Nat) : Int) := (IntWalk.i64_in _ (by omega)).trans (by simp)
      obtain ⟨x, b0, off, D, m, cD, hx, rfl, rg, sl, hi⟩ := (HSW.out.fut HB.out).out.op_at k hlt
      have RG := Lib.hid rg
      have SX := Lib.hid (show Old w (tInt .u8) wr D m cD x.data from ⟨sl, HB.out.size⟩)
      have LI := Lib.hid hi.2
      have TN := Lib.hid (TL.out k)
      have TS := Lib.hid (textB_some hx)
      have TO := Lib.hid (textB_none hx)
      have LS := Lib.hid (line_small hi.2.1 hi.2.2)
      have LE := Lib.hid (line_empty (o := x))
      have LO := Lib.hid (line_some (o := x))
      obtain ⟨ln, hln⟩ : ∃ s, lineO x = s := ⟨_, rfl⟩
      rw [hln] at TS LS LE LO
      have HLN := Lib.hid hln
      obtain ⟨rr, hrr⟩ : ∃ b, rightO x = b := ⟨_, rfl⟩
      have RR := Lib.hid hrr
      obtain ⟨tk, htk⟩ : ∃ t, textB (l.take k) = t := ⟨_, rfl⟩
      rw [htk] at TN TS TO BB
      clear hln hrr htk rg sl hi hx
      cases rr with
      | false =>
        obtain rfl := LE.out RR.out
        have NT := Lib.hid (TO.out RR.out).1
        clear TS TO LO
        obtain ⟨w4, hw_w4⟩ : ∃ nw_, wr.alloc (.cells #[.int .i64 0, .int .i64 0, .int .i64 0, .slice none 0 0] 24) = nw_ := ⟨_, rfl⟩
        have k_w4 : Below wr.heap.size wr w4 := by rw [← hw_w4]; exact (Below.refl _ _).alloc (Nat.le_refl _) _
        have BO := Lib.hid (show Blk w4 wr.heap.size 24 #[.int .i64 0, .int .i64 0, .int .i64 0, .slice none 0 0] by rw [← hw_w4]; exact Blk.now _ _ _ _ rfl)
        clear k_w4
        go_wp2_with (first
          | (refine wpList_load_mid rfl 24 (.tmp 11) rfl b0 (off + k * 4) rfl _ _ RG.out Tryd.underlying24 rfl (by kernel_rfl) ?_)
          | (refine wpList_store_all rfl 24 (.tmp 5) (.tmp 12) rfl wr.heap.size #[.int .i64 x.kind, .int .i64 x.n, .int .i64 x.d, .slice D m cD] rfl rfl _ _ BO.out rfl (by kernel_rfl) (by simp [Value.oneCell']) ?_; intro w5 o5 g5; have K5 := Lib.hid (show Below wr.heap.size wr w5 from (show Below wr.heap.size wr w4 by rw [← hw_w4]; exact (Below.refl _ _).alloc (Nat.le_refl _) _).grown g5 (by rw [← hw_w4]; simp) (fun k h => by have := Option.some.inj h; omega)); replace BB := Lib.hid (BB.out.far K5.out); replace SX := Lib.hid (SX.out.fut K5.out); replace HB := Lib.hid (below_later K5.out HB.out); have z5 := K5.out.size; replace BO := Lib.hid o5; clear o5 g5 hw_w4)
          | ((refine wpList_load_row rfl 24 (.tmp 5) rfl wr.heap.size rfl _ _ (0, 0) _ BO.out.heap Tryd.underlying24 rfl (by kernel_rfl) ?_))
          | (go_at_call 12; refine (opLine_any x.kind x.n x.d D m cD x.data _ SX.out.all LI.out.1 LI.out.2 (HL.out.fut HB.out)).mono ?_; rw [show lineO ⟨x.kind, x.n, x.d, x.data⟩ = _ from HLN.out]; rintro e w6 ⟨rfl, hb⟩; have z6 := hb.size; replace BB := Lib.hid (BB.out.far hb); replace HB := Lib.hid (below_later hb HB.out); clear hb))
        exact ⟨⟨k + 1, by omega, by go_num, by rw [NT.out]; exact BB.out, by omega, HB.out⟩, by simp [intOf]; omega⟩
      | true =>
        have NT := Lib.hid (TS.out RR.out).1
        have te : ln.toList.isEmpty = false := sempty_ne (LO.out RR.out)
        have ll := LS.out
        have lt := TN.out
        clear TS TO LO
        obtain ⟨w4, hw_w4⟩ : ∃ nw_, wr.alloc (.cells #[.int .i64 0, .int .i64 0, .int .i64 0, .slice none 0 0] 24) = nw_ := ⟨_, rfl⟩
        have k_w4 : Below wr.heap.size wr w4 := by rw [← hw_w4]; exact (Below.refl _ _).alloc (Nat.le_refl _) _
        have BO := Lib.hid (show Blk w4 wr.heap.size 24 #[.int .i64 0, .int .i64 0, .int .i64 0, .slice none 0 0] by rw [← hw_w4]; exact Blk.now _ _ _ _ rfl)
        clear k_w4
        go_wp2_with (first
          | (refine wpList_load_mid rfl 24 (.tmp 11) rfl b0 (off + k * 4) rfl _ _ RG.out Tryd.underlying24 rfl (by kernel_rfl) ?_)
          | (refine wpList_store_all rfl 24 (.tmp 5) (.tmp 12) rfl wr.heap.size #[.int .i64 x.kind, .int .i64 x.n, .int .i64 x.d, .slice D m cD] rfl rfl _ _ BO.out rfl (by kernel_rfl) (by simp [Value.oneCell']) ?_; intro w5 o5 g5; have K5 := Lib.hid (show Below wr.heap.size wr w5 from (show Below wr.heap.size wr w4 by rw [← hw_w4]; exact (Below.refl _ _).alloc (Nat.le_refl _) _).grown g5 (by rw [← hw_w4]; simp) (fun k h => by have := Option.some.inj h; omega)); replace BB := Lib.hid (BB.out.far K5.out); replace SX := Lib.hid (SX.out.fut K5.out); replace HB := Lib.hid (below_later K5.out HB.out); have z5 := K5.out.size; replace BO := Lib.hid o5; clear o5 g5 hw_w4)
          | ((refine wpList_load_row rfl 24 (.tmp 5) rfl wr.heap.size rfl _ _ (0, 0) _ BO.out.heap Tryd.underlying24 rfl (by kernel_rfl) ?_))
          | (go_at_call 12; refine (opLine_any x.kind x.n x.d D m cD x.data _ SX.out.all LI.out.1 LI.out.2 (HL.out.fut HB.out)).mono ?_; rw [show lineO ⟨x.kind, x.n, x.d, x.data⟩ = _ from HLN.out]; rintro e w6 ⟨rfl, hb⟩; have z6 := hb.size; replace BB := Lib.hid (BB.out.far hb); replace HB := Lib.hid (below_later hb HB.out); clear hb)
          | (go_at_call 39; refine (writeS_any w.heap.size tk ln _ BB.out (by omega) (by omega)).mono ?_; rintro e w7 ⟨rfl, h7, hb⟩; replace BB := Lib.hid h7; have z7 := hb.size; replace HB := Lib.hid (HB.out.trans hb); clear hb h7)
          | (go_at_call 40; refine (writeB_any w.heap.size _ _ BB.out (by rw [List.length_append, lenSz]; omega) HB.out.size).mono ?_; rintro e w8 ⟨rfl, h8, hb⟩; replace BB := Lib.hid h8; have z8 := hb.size; replace HB := Lib.hid (HB.out.trans hb); clear hb h8))
        exact ⟨⟨k + 1, by omega, by go_num, by rw [NT.out, ← List.append_assoc]; exact BB.out, BB.out.lt, HB.out⟩, by simp [intOf]; omega⟩
    · obtain rfl : k = n := by omega
      have TT := Lib.hid (show textB (l.take k) = textB l by rw [List.take_of_length_le (by rw [LN.out]; exact Nat.le_refl _)])
      have p1 : ¬ (k : Int) < (k : Int) := by omega
      rw [TT.out] at BB
      clear hlt hk
      go_wp2_with (go_at_call 41; refine (string_any w.heap.size (textB l) _ BB.out HB.out.size).mono ?_; rintro e w7 ⟨rfl, hb⟩; replace HB := Lib.hid (HB.out.trans hb); clear hb)
      go_ret
      exact ⟨rfl, HB.out⟩
end YthnhknomjepijaaDoor
end Go.Proofs
