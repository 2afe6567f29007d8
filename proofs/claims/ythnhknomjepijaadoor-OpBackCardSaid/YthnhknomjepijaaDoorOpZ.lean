/-
  A text's lines (layer 44): strings.Split at a line's end; op.Script.
  Conditions: the library's variables lie as they are laid; at most 65536 bytes.
-/
import Derived.Test.YthnhknomjepijaaDoorOpY
import Derived.Test.YthnhknomjepijaaDoorLit1
import Derived.Lib.SplitLaws
namespace Go.Proofs.YthnhknomjepijaaDoor
set_option linter.unusedVariables false
set_option linter.unusedSimpArgs false
open Go Go.RowKit Go.ChangeShapes Go.WideShapes
set_option maxRecDepth 100000
set_option maxHeartbeats 4000000

/-- The library's longest word to look for is some number. -/
structure LM (w : World) : Prop where
  out : ∃ m, w.cell? ⟨3, 0, none⟩ = some (.int .i64 m)
theorem LM.fut {w w' : World} (h : LM w) (hb : Below w.heap.size w w') : LM w' := ⟨let ⟨m, hm⟩ := h.out; ⟨m, cell_later hb hm⟩⟩

theorem splitK_split (c : UInt8) : ∀ l : List UInt8, Lib.splitK [c] 0 (Lib.count l [c]) l = splitL c l
  | [] => by rw [Lib.count_miss (by simp [Lib.index])]; rfl
  | b :: l => by
    have ih := splitK_split c l
    by_cases h : b = c
    · subst h
      have hix : Lib.index (b :: l) [b] = 0 := by rw [Lib.index]; simp [List.isPrefixOf]
      rw [Lib.count_cons_eq, Nat.add_comm]
      show (if Lib.index (b :: l) [b] == -1 then _ else _) = (if b = b then [] :: splitL b l else _)
      rw [hix, if_neg (by decide), if_pos rfl]
      show [] :: Lib.splitK [b] 0 (Lib.count l [b]) l = _
      rw [ih]
    · rw [Lib.count_cons_ne b c l h]
      have hp : ([c] : List UInt8).isPrefixOf (b :: l) = false := by simp [List.isPrefixOf, Ne.symm h]
      have hix : Lib.index (b :: l) [c] = if Lib.index l [c] == -1 then -1 else Lib.index l [c] + 1 := by rw [Lib.index, hp]; simp
      have hge := Lib.index_ge l [c]
      show _ = (if b = c then [] :: splitL c l else match splitL c l with | h :: t => (b :: h) :: t | [] => [[b]])
      rw [if_neg h, ← ih]
      cases Lib.count l [c] with
      | zero => rfl
      | succ k =>
        show (if Lib.index (b :: l) [c] == -1 then [b :: l] else _) = (match (if Lib.index l [c] == -1 then [l] else _) with | h :: t => (b :: h) :: t | [] => [[b]])
        by_cases hm : Lib.index l [c] = -1
        · rw [hix, hm]; rfl
        · obtain ⟨j, hj⟩ : ∃ j : Nat, Lib.index l [c] = j := ⟨(Lib.index l [c]).toNat, by omega⟩
          have e1 : (Lib.index l [c] == -1) = false := by simpa using hm
          have e2 : (Lib.index (b :: l) [c] == -1) = false := by rw [hix, e1]; simp <;> omega
          rw [e1, e2]
          have e3 : (Lib.index (b :: l) [c]).toNat = j + 1 := by rw [hix, e1, hj]; simp <;> omega
          have e4 : (Lib.index l [c]).toNat = j := by rw [hj]; rfl
          simp only [Bool.false_eq_true, if_false, e3, e4]
          rfl
theorem splitB_cutS (s : ByteArray) : Lib.splitB ⟨#[10]⟩ 0 (Lib.countB s ⟨#[10]⟩) s = cutS s 10 := by
  apply map_inj
  have h := cutS_split s 10
  rw [show (((10 : UInt8).toNat : Nat) : Int) = 10 from rfl] at h
  rw [h, Lib.splitB_data]
  exact splitK_split 10 s.data.toList
theorem cutS_len (s : ByteArray) (c : Int) : 1 ≤ (cutS s c).length ∧ (cutS s c).length ≤ s.size + 1 := by
  have := (cutK_le s c s.size).2
  unfold cutS
  rw [List.length_append, List.length_singleton]
  omega
theorem RowsOf.strs {w : World} {S : Nat → Prop} : ∀ {l : List ByteArray}, (∀ x ∈ l, x.size ≤ maxLen) → RowsOf tStr w S (l.map Value.string) l
  | [], _ => rfl
  | x :: l, h => ⟨[.string x], l.map Value.string, rfl, ⟨rfl, h x (List.mem_cons_self ..)⟩, RowsOf.strs fun y hy => h y (List.mem_cons_of_mem _ hy)⟩

theorem split_any (s : ByteArray) (w : World) (hn : s.size ≤ 65536) (hm : LM w) :
    Calls Tryd.prog 38 #[.string s, .string ⟨#[10]⟩] w (RetSl tStr w (cutS s 10)) := by
  obtain ⟨m, hm⟩ := hm.out
  refine (Any.strings_Split { Tryd.laysM146 with } Tryd.laysM146.i9 s ⟨#[10]⟩ m w (by omega) hm (by decide)).mono ?_
  rintro e w' ⟨rfl, rfl⟩
  have hl := Lib.splitB_all ⟨#[10]⟩ (by decide) 0 _ s rfl
  rw [splitB_cutS] at hl ⊢
  have hlen := cutS_len s 10
  refine ⟨_, _, _, rfl, ?_, (Below.refl _ _).alloc (Nat.le_refl _) _⟩
  rw [← hl]
  refine Sl.of_block (heap_now _ _ _ rfl) ⟨Nat.le_refl _, by simp⟩ (Nat.le_refl _) (by unfold maxLen; omega) rfl ?_
  rw [List.take_of_length_le (by simp [tStr])]
  exact RowsOf.strs fun x hx => Nat.le_trans (cutS_size hx) (by unfold maxLen; omega)

/-- A line that says nothing. -/
def silL (x : ByteArray) : Bool := decide (x.size = 0) || decide ((nums x).getD 0 0 = 35)
def goodL (x : ByteArray) : Bool := silL x || (docV (cutS x 32)).isSome
def opsOf (ls : List ByteArray) : List Opd := ls.filterMap fun x => if silL x = true then none else docV (cutS x 32)
theorem ops_nil : opsOf [] = [] := rfl
theorem ops_sil {ls : List ByteArray} {k : Nat} {x : ByteArray} (h : ls[k]? = some x) (hs : silL x = true) : opsOf (ls.take (k + 1)) = opsOf (ls.take k) := by
  rw [take_snoc ls k x h]
  unfold opsOf
  rw [List.filterMap_append]
  simp [hs]
theorem ops_one {ls : List ByteArray} {k : Nat} {x : ByteArray} {o : Opd} (h : ls[k]? = some x) (hs : silL x = false) (hd : docV (cutS x 32) = some o) : opsOf (ls.take (k + 1)) = opsOf (ls.take k) ++ [o] := by
  rw [take_snoc ls k x h]
  unfold opsOf
  rw [List.filterMap_append]
  simp [hs, hd]
theorem ops_len (ls : List ByteArray) : (opsOf ls).length ≤ ls.length := List.length_filterMap_le _ _
def allGood (ls : List ByteArray) (k : Nat) : Prop := ∀ j x, j < k → ls[j]? = some x → goodL x = true
theorem good_next {ls : List ByteArray} {k : Nat} {x : ByteArray} (hg : allGood ls k) (h : ls[k]? = some x) (hx : goodL x = true) : allGood ls (k + 1) := by
  intro j y hj hy
  by_cases e : j = k
  · subst e; rw [h] at hy; cases hy; exact hx
  · exact hg j y (by omega) hy
theorem good_sil {x : ByteArray} (h : silL x = true) : goodL x = true := by unfold goodL; rw [h]; rfl
theorem good_some {x : ByteArray} {o : Opd} (h : docV (cutS x 32) = some o) : goodL x = true := by unfold goodL; rw [h]; simp
theorem good_none {x : ByteArray} (hs : silL x = false) (h : docV (cutS x 32) = none) : goodL x = false := by unfold goodL; rw [h, hs]; rfl
theorem sil_zero {x : ByteArray} (h : x.size = 0) : silL x = true := by unfold silL; rw [decide_eq_true h]; rfl
theorem sil_hash {x : ByteArray} (h : 0 < x.size) (e : (x[0]'h) = 35) : silL x = true := by unfold silL; rw [decide_eq_true (p := (nums x).getD 0 0 = 35) (by rw [← nums_at h, e]; rfl)]; simp
theorem sil_not {x : ByteArray} (h : 0 < x.size) (e : (x[0]'h) ≠ 35) : silL x = false := by
  unfold silL
  rw [decide_eq_false (by omega), decide_eq_false (by rw [← nums_at h]; intro q; exact e (UInt8.toNat_inj.1 (show (x[0]'h).toNat = 35 by omega)))]
  rfl
theorem doc_ok {l : List ByteArray} {o : Opd} (h : docV l = some o) : rightO o = true ∧ OkO o := by
  unfold docV at h
  split at h
  · cases h
  · rename_i k0
    obtain ⟨hw, h1, h7⟩ := (kind_back (l.getD 0 ⟨#[]⟩) 7).resolve_left k0
    obtain ⟨r, ok, -⟩ := tryD_some ⟨h1, by omega⟩ hw h
    exact ⟨r, ok⟩
theorem right_in {o : Opd} (h : rightO o = true) : InK .i64 o.kind := by
  rw [inK_i64]; have := right_kind h; omega
theorem Own.wide44 {α : Type} {t : Ty α} {w : World} {S S' : Nat → Prop} {base : Nat} {E : TypeId} {v : Value} {n : Nat} {l : List α} (h : Own t w S base E v n l) (hk : ∀ b, S b → S' b) : Own t w S' base E v n l :=
  let ⟨vs, h1, h2⟩ := h.out; ⟨vs, h1, h2.more hk⟩
theorem ei_ops : EI Tryd.prog 43 24 (.agg #[.int .i64 0, .int .i64 0, .int .i64 0, .slice none 0 0]) 4 48 := ⟨Tryd.underlying43, by kernel_rfl, rfl, by decide⟩

def RetS (ls : List ByteArray) (w : World) (e : Ending) (w' : World) : Prop :=
  (∃ i x, ls[i]? = some x ∧ allGood ls i ∧ goodL x = false ∧ e = .returned (.tuple #[.slice none 0 0, .int .i64 ((i + 1 : Nat) : Int), .int .i64 41]) ∧ Below w.heap.size w w') ∨
  (allGood ls ls.length ∧ ∃ A m cap, e = .returned (.tuple #[.slice A m cap, .int .i64 0, .int .i64 0]) ∧ Sl tOp w' (bin w.heap.size w'.heap.size) A m cap (opsOf ls) ∧ Below w.heap.size w w')

theorem opScript_any (s : ByteArray) (w : World) (hn : s.size ≤ 65536) (hw : LW w) (hm : LM w) :
    Calls Tryd.prog 24 #[.string s] w (RetS (cutS s 10) w) := by
  have FR := Lib.hid (Far.refl w)
  have HL := Lib.hid hw
  have SP := Lib.hid (split_any s w hn hm)
  have CZ := Lib.hid (fun x (h : x ∈ cutS s 10) => Nat.le_trans (cutS_size h) hn)
  have CL := cutS_len s 10
  obtain ⟨ls, hls⟩ : ∃ l, cutS s 10 = l := ⟨_, rfl⟩
  rw [hls] at SP CZ CL ⊢
  have p1 : ¬ (65536 : Int) < (s.size : Int) := by omega
  obtain ⟨N, hN⟩ : ∃ N, ls.length = N := ⟨_, rfl⟩
  have HN := Lib.hid hN
  rw [hN] at CL
  have h1N : 1 ≤ N := CL.1
  have hNb : N ≤ 65537 := by omega
  clear hls hN hw hm CL hn
  go_enter Tryd.func24, Tryd.ntmps24
  go_wp2_with fail
  refine SP.out.mono ?_
  rintro e w2 ⟨A, N', cap, rfl, sl, hb⟩
  obtain rfl : N' = N := by rw [← sl.n_eq]; exact HN.out
  obtain ⟨bs, os, rfl, -, -, -, -⟩ := str_at sl 0 h1N
  have HSW := Lib.hid (Old.now sl.old)
  have FS := Lib.hid hb
  replace FR := Lib.hid (FR.out.fut hb)
  clear sl SP
  go_wp2_with fail
  go_loopw [5, 16] (fun u i wr => ∃ (k n : Nat) (S : Nat → Prop), k ≤ N' ∧ i = .int .i64 k ∧ allGood ls k ∧ Own tOp wr S w2.heap.size 24 u n (opsOf (ls.take k)) ∧ (∀ b, S b → bin w2.heap.size wr.heap.size b ∧ some b ≠ u.ownBlock) ∧ Below w2.heap.size w2 wr) (fun _ i _ => N' - (intOf i).toNat)
  case atStart => exact ⟨0, 0, fun _ => False, Nat.zero_le _, rfl, fun j x h => by omega, Own.nil _ _ _ _ _, fun b h => h.elim, Below.refl _ _⟩
  case round =>
    clear FR
    obtain ⟨k, n, S, hk, rfl, hg, hown, hSS, hb2⟩ := hrel
    have HS := Lib.hid (HSW.out.fut hb2)
    have FR := Lib.hid (show Far w wr from ⟨below_later hb2 FS.out⟩)
    have GD := Lib.hid hg
    have ON := Lib.hid hown
    have SS := Lib.hid hSS
    have H2 := Lib.hid hb2
    have LN := hown.length (by decide)
    have KN : n ≤ k := by have := ops_len (ls.take k); rw [List.length_take] at this; omega
    clear hg hown hSS hb2 LN
    by_cases hlt : k < N'
    · have hkl : k < ls.length := by rw [HN.out]; exact hlt
      have c1 := old_str HS.out hlt
      have XI := Lib.hid (show ls[k]? = some (ls.getD k ⟨#[]⟩) by rw [List.getD_eq_getElem?_getD, List.getElem?_eq_getElem hkl]; rfl)
      have XZ := Lib.hid (getD_size CZ.out k)
      obtain ⟨x, hx⟩ : ∃ x, ls.getD k ⟨#[]⟩ = x := ⟨_, rfl⟩
      rw [hx] at c1 XI XZ
      have p2 : (k : Int) < (N' : Int) := by omega
      have gi : IntKind.i64.wrap ((k : Int) + 1) = ((k + 1 : Nat) : Int) := (IntWalk.i64_in _ (by omega)).trans (by simp)
      clear hx hkl
      by_cases c0 : x.size = 0
      · have SX := Lib.hid (sil_zero c0)
        obtain rfl := size0 c0
        have NX := Lib.hid (ops_sil XI.out SX.out)
        have NG := Lib.hid (good_next GD.out XI.out (good_sil SX.out))
        clear c0
        go_wp2_with fail
        exact ⟨⟨k + 1, n, S, by omega, by go_num, NG.out, by rw [NX.out]; exact ON.out, SS.out, H2.out⟩, by simp [intOf]; omega⟩
      have hx0 : 0 < x.size := by omega
      have te : x.toList.isEmpty = false := sempty_ne c0
      by_cases c35 : (x[0]'hx0) = 35
      · have SX := Lib.hid (sil_hash hx0 c35)
        have t0 : (((x[0]'hx0).toNat : Int) == 35) = true := by rw [c35]; rfl
        have NX := Lib.hid (ops_sil XI.out SX.out)
        have NG := Lib.hid (good_next GD.out XI.out (good_sil SX.out))
        clear c0 c35
        go_wp2_with fail
        exact ⟨⟨k + 1, n, S, by omega, by go_num, NG.out, by rw [NX.out]; exact ON.out, SS.out, H2.out⟩, by simp [intOf]; omega⟩
      have SX := Lib.hid (sil_not hx0 c35)
      have t0 : (((x[0]'hx0).toNat : Int) == 35) = false := by
        rw [Bool.eq_false_iff]
        intro q
        rw [beq_iff_eq] at q
        exact c35 (UInt8.toNat_inj.1 (show (x[0]'hx0).toNat = 35 by omega))
      have P1 := Lib.hid (fun w hw => opParse_any x w (Nat.le_trans XZ.out (by decide)) hw)
      simp only [parse_doc] at P1
      obtain ⟨pd, hpd⟩ : ∃ p, docV (cutS x 32) = p := ⟨_, rfl⟩
      simp only [hpd] at P1
      have HP := Lib.hid hpd
      clear c0 c35 hpd
      have zr := FR.out.size
      cases pd with
      | none =>
        have NB := Lib.hid (good_none SX.out HP.out)
        go_wp2_with fail
        refine (P1.out _ (HL.out.fut FR.out.out)).mono ?_
        rintro e w3 ⟨D, m, cD, rfl, -, hb3⟩
        replace FR := Lib.hid (FR.out.fut hb3)
        clear hb3
        have z3 := FR.out.size
        obtain ⟨w4, hw_w4⟩ : ∃ nw_, w3.alloc (.cells #[.int .i64 0, .int .i64 0, .int .i64 0, .slice none 0 0] 24) = nw_ := ⟨_, rfl⟩
        have k_w4 : Below w3.heap.size w3 w4 := by rw [← hw_w4]; exact (Below.refl _ _).alloc (Nat.le_refl _) _
        replace FR := Lib.hid (FR.out.fut k_w4)
        have BO := Lib.hid (show Blk w4 w3.heap.size 24 #[.int .i64 0, .int .i64 0, .int .i64 0, .slice none 0 0] by rw [← hw_w4]; exact Blk.now _ _ _ _ rfl)
        clear k_w4
        go_wp2_with (refine wpList_store_all rfl 24 (.tmp 8) (.tmp 31) rfl w3.heap.size #[.int .i64 op0.kind, .int .i64 op0.n, .int .i64 op0.d, .slice D m cD] rfl rfl _ _ BO.out rfl (by kernel_rfl) (by simp [Value.oneCell']) ?_; intro w5 o5 g5; replace FR := Lib.hid (FR.out.away g5 (by omega)); clear o5 g5 hw_w4)
        go_ret3
        exact .inl ⟨k, x, XI.out, GD.out, NB.out, rfl, FR.out.out⟩
      | some o =>
        have NG := Lib.hid (good_next GD.out XI.out (good_some HP.out))
        have NX := Lib.hid (ops_one XI.out SX.out HP.out)
        have OK := Lib.hid (doc_ok HP.out)
        go_wp2_with fail
        refine (P1.out _ (HL.out.fut FR.out.out)).mono ?_
        simp only [RetP, Option.getD_some]
        rintro e w3 ⟨D, m, cD, rfl, sD, hb3⟩
        have z3 := hb3.size
        have SD := Lib.hid sD
        have G3 := Lib.hid hb3
        have F3 := Lib.hid (FR.out.fut hb3)
        have zf := F3.out.size
        have O3 := Lib.hid (ON.out.below hb3 (Nat.le_refl _) (fun b h => (SS.out b h).1.2))
        have OL := Lib.hid ON.out.lt
        clear sD hb3 HP P1
        obtain ⟨w4, hw_w4⟩ : ∃ nw_, w3.alloc (.cells #[.int .i64 0, .int .i64 0, .int .i64 0, .slice none 0 0] 24) = nw_ := ⟨_, rfl⟩
        have k_w4 : Below w3.heap.size w3 w4 := by rw [← hw_w4]; exact (Below.refl _ _).alloc (Nat.le_refl _) _
        have BO := Lib.hid (show Blk w4 w3.heap.size 24 #[.int .i64 0, .int .i64 0, .int .i64 0, .slice none 0 0] by rw [← hw_w4]; exact Blk.now _ _ _ _ rfl)
        clear k_w4
        go_wp2_with (first
          | (refine wpList_store_all rfl 24 (.tmp 8) (.tmp 31) rfl w3.heap.size #[.int .i64 o.kind, .int .i64 o.n, .int .i64 o.d, .slice D m cD] rfl rfl _ _ BO.out rfl (by kernel_rfl) (by simp [Value.oneCell']) ?_; intro w5 o5 g5; have K5 := Lib.hid (show Below w3.heap.size w3 w5 from (show Below w3.heap.size w3 w4 by rw [← hw_w4]; exact (Below.refl _ _).alloc (Nat.le_refl _) _).grown g5 (by rw [← hw_w4]; simp) (fun k h => by have := Option.some.inj h; omega)); have F5 := Lib.hid (F3.out.fut K5.out); have O5 := Lib.hid (O3.out.below K5.out (Nat.le_refl _) (fun b h => Nat.lt_of_lt_of_le (SS.out b h).1.2 z3)); have T5 := Lib.hid (SD.out.below K5.out (fun b h => h.2)); have z5 := K5.out.size; have B5 := Lib.hid (below_later K5.out (below_later G3.out H2.out)); have Z5 := Lib.hid B5.out.size; replace BO := Lib.hid o5; clear o5 g5 hw_w4)
          | ((refine wpList_load_row rfl 24 (.tmp 8) rfl w3.heap.size rfl _ _ (0, 0) _ BO.out.heap Tryd.underlying24 rfl (by kernel_rfl) ?_))
          | (refine wpList_lit1 rfl (.tmp 39) rfl ei_ops #[.int .i64 o.kind, .int .i64 o.n, .int .i64 o.d, .slice D m cD] rfl rfl (by decide) ?_)
          | (at_builtin; refine wpList_push (W := w5) (cs := #[.int .i64 o.kind, .int .i64 o.n, .int .i64 o.d, .slice D m cD]) (E := 24) (t := tOp) (S := fun b => S b ∨ bin wr.heap.size w3.heap.size b) (base := w2.heap.size) rfl (.tmp 38) (.tmp 40) rfl ei_ops rfl (O5.out.wide44 fun b h => .inl h) 1 rfl o (rep_op (T5.out.more fun b h => .inr h) (right_in OK.out.1) OK.out.2.1 OK.out.2.2.1) (by unfold maxLen; omega) (by omega) Z5.out (fun b h => (by rcases h with h | h; exact ⟨Nat.lt_of_lt_of_le (SS.out b h).1.2 (by omega), (SS.out b h).2⟩; exact ⟨Nat.lt_of_lt_of_le h.2 z5, fun e => absurd (OL.out b e.symm).2 (Nat.not_lt.2 h.1)⟩)) ?_; intro v' wz ownz gz atz))
        have bz := B5.out.grown gz Z5.out (fun j hj => (OL.out j hj).1)
        have zz := Z5.out
        refine ⟨⟨k + 1, n + 1, _, by omega, by go_num, NG.out, by rw [NX.out]; exact ownz, fun b h => ?_, bz⟩, by simp [intOf]; omega⟩
        have q : (w2.heap.size ≤ b ∧ b < w5.heap.size) ∧ some b ≠ u5.ownBlock := by
          rcases h with h | h
          · exact ⟨⟨(SS.out b h).1.1, Nat.lt_of_lt_of_le (SS.out b h).1.2 (by omega)⟩, (SS.out b h).2⟩
          · exact ⟨⟨by have := H2.out.size; have := h.1; omega, Nat.lt_of_lt_of_le h.2 z5⟩, fun e => absurd (OL.out b e.symm).2 (Nat.not_lt.2 h.1)⟩
        refine ⟨⟨q.1.1, Nat.lt_of_lt_of_le q.1.2 gz.size⟩, fun e => ?_⟩
        rcases atz with a | a <;> rw [a] at e
        · exact q.2 e
        · have := Option.some.inj e; have := q.1.2; omega
    · obtain rfl : k = N' := by omega
      have HE := Lib.hid (show opsOf (ls.take k) = opsOf ls by rw [List.take_of_length_le (by rw [HN.out]; exact Nat.le_refl _)])
      have p2 : ¬ (k : Int) < (k : Int) := by omega
      have zf := FS.out.size
      obtain ⟨A1, c1, rfl, sl⟩ := ON.out.sl (S' := bin w.heap.size wr.heap.size) (by decide) (fun b h1 h2 => ⟨by omega, h2⟩) (fun b h => ⟨by have := (SS.out b h).1.1; omega, (SS.out b h).1.2⟩)
      have SL := Lib.hid sl
      clear sl hlt hk
      go_wp2_with fail
      go_ret3
      refine .inr ⟨by rw [HN.out]; exact GD.out, A1, n, c1, rfl, by rw [← HE.out]; exact SL.out, FR.out.out⟩
end Go.Proofs.YthnhknomjepijaaDoor
