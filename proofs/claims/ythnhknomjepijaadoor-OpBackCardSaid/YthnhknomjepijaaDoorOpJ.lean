/-
  Ops (layer 44): op.joined, op.Line.
  Conditions: the library's tables lie as they are laid; at most 2^40 bytes; numbers of 64 bits.
-/
import Derived.Test.YthnhknomjepijaaDoorOpI
import Derived.Test.YthnhknomjepijaaDoorOpC
import Derived.Test.YthnhknomjepijaaDoorOperY
namespace Go.Proofs.YthnhknomjepijaaDoor
set_option linter.unusedVariables false
set_option linter.unusedSimpArgs false
open Go.RowKit Go.ChangeShapes Go.WideShapes
set_option maxRecDepth 100000
set_option maxHeartbeats 4000000

theorem Own.one1 {α : Type} {t : Ty α} {W : World} {S : Nat → Prop} {E : TypeId} {base : Nat} {cs : Array Value} {x : α} (hb : base ≤ W.heap.size) (hr : t.rep (W.alloc (.cells cs E)) S cs.toList x) :
    Own t (W.alloc (.cells cs E)) S base E (.slice (some ⟨W.heap.size, 0, none⟩) 1 1) 1 [x] :=
  have hl := t.len hr
  ⟨cs.toList, ⟨by simp [hl], .inr ⟨_, 1, cs, rfl, hb, heap_alloc_new _ _, Nat.le_refl _, by decide, by simpa using hl, by rw [List.take_of_length_le (by omega)]⟩⟩, RowsOf.one hr⟩

def joinB (l : List ByteArray) : ByteArray := ⟨(Lib.join (l.map (·.data.toList)) [32]).toArray⟩
theorem opJoined_any (A : Option Addr) (m cap : Nat) (l : List ByteArray) (w : World) (hs : Sl tStr w (blo w.heap.size) A m cap l) (h1 : 1 ≤ m) (hj : (joinB l).size ≤ 140737488355328) (hm : m ≤ 1000) :
    Calls Tryd.prog 32 #[.slice A m cap] w fun e w' => e = .returned (.string (joinB l)) ∧ Below w.heap.size w w' := by
  have hl := hs.n_eq
  obtain ⟨x0, b, off, xs0, _, rfl, hS0, hb0, _, _, _⟩ := hs.cells 0 (by omega) (by decide)
  have J := Lib.hid (Tryd.strings_Join b off cap l ⟨#[32]⟩ w (fun j x hx => by
    have hj : j < m := by rw [← hl]; exact (List.getElem?_eq_some_iff.1 hx).1
    obtain ⟨y, b2, o2, ys, hy, hA, _, _, hr, _, hc⟩ := hs.cells j hj (by decide)
    cases hA
    rw [hx] at hy
    cases hy
    obtain ⟨rfl, _⟩ := hr
    have := hc 0 _ rfl
    simpa [tStr] using this) hb0 (by omega) (by rw [hl]; exact hs.cap_le) (by have : (joinB l).size = (Lib.join (l.map (·.data.toList)) [32]).length := rfl; rw [this] at hj; exact hj))
  rw [hl] at J
  obtain ⟨r, hr⟩ : ∃ r, joinB l = r := ⟨_, rfl⟩
  have J2 := Lib.hid (show Calls Tryd.prog 43 #[.slice (some ⟨b, off, none⟩) m cap, .string ⟨#[32]⟩] w fun e w' => e = .returned (.string r) ∧ Below w.heap.size w w' from by rw [← hr]; exact J.out)
  rw [hr]
  clear J hs hl hj hr hb0 hS0 h1 hm
  go_enter Tryd.func32, Tryd.ntmps32
  go_wp2_with (go_at_call 43; refine (J2.out).mono ?_; rintro e w' ⟨rfl, hb⟩)
  go_ret
  exact ⟨rfl, hb⟩

def strsO (o : Opd) : List ByteArray := wordB o.kind :: ((if tel0 o.kind = true then [strOfNums (hexB o.data)] else []) ++ ((if tel1 o.kind = true then [⟨(Lib.itoa o.d).toArray⟩] else []) ++ (if tel2 o.kind = true then [⟨(Lib.itoa o.n).toArray⟩] else [])))
def lineO (o : Opd) : ByteArray := if rightO o = true then joinB (strsO o) else ⟨#[]⟩
theorem right_ways {o : Opd} (h : rightO o = true) : o.data.length ≤ 16384 ∧ ((tel0 o.kind = true ∧ tel1 o.kind = false ∧ tel2 o.kind = false) ∨ (tel0 o.kind = true ∧ tel1 o.kind = true ∧ tel2 o.kind = false) ∨ (tel0 o.kind = false ∧ tel1 o.kind = false ∧ tel2 o.kind = true) ∨ (tel0 o.kind = false ∧ tel1 o.kind = false ∧ tel2 o.kind = false)) := by
  unfold rightO at h
  simp only [Bool.and_eq_true, decide_eq_true_eq] at h
  refine ⟨h.1.1.1.2, ?_⟩
  obtain ⟨a, b⟩ := h.1.1.1.1
  rcases kind_cases o.kind with q | q
  · rcases q with q | q | q | q | q | q <;> rw [q] <;> decide
  · omega
theorem word_size (k : Int) : (wordB k).size ≤ 6 := by
  unfold wordB
  repeat' split
  all_goals decide
theorem itoa_size {n : Int} (h : InK .i64 n) : (⟨(Lib.itoa n).toArray⟩ : ByteArray).size ≤ 20 := by
  rw [inK_i64] at h
  show (Lib.itoa n).toArray.size ≤ 20
  rw [List.size_toArray]
  unfold Lib.itoa
  have := decDigits_len n.natAbs (by omega)
  have h2 := decDigits_len n.toNat (by omega)
  split
  · simp; omega
  · omega
theorem hexB_len (l : List Int) : (hexB l).length ≤ 2 * l.length + 1 := by
  unfold hexB
  split
  · simp
  · rw [hexN_len]; omega
theorem strOf_size (l : List Int) : (strOfNums l).size = l.length := by unfold strOfNums; simp [ByteArray.size]
theorem lenSz (s : ByteArray) : s.data.toList.length = s.size := by rw [Array.length_toList]; rfl
theorem joinB_size (l : List ByteArray) : (joinB l).size ≤ (l.map (fun s => s.size + 1)).sum := by
  show (Lib.join _ _).toArray.size ≤ _
  rw [List.size_toArray]
  cases l with
  | nil => simp [Lib.join_nil]
  | cons s r =>
    rw [List.map_cons, Lib.join_cons, List.length_append]
    have : (Lib.joinTail [32] (r.map (·.data.toList))).length = (r.map (fun s => s.size + 1)).sum := by
      induction r with
      | nil => rfl
      | cons t r ih =>
        simp only [Lib.joinTail, List.map_cons, List.flatten_cons, List.length_append, List.sum_cons] at ih ⊢
        rw [ih, lenSz]; simp; omega
    rw [this, lenSz, List.map_cons, List.sum_cons]; omega

theorem opLine_any (k n d : Int) (A : Option Addr) (m cap : Nat) (l : List Int) (w : World) (hs : Sl (tInt .u8) w (blo w.heap.size) A m cap l) (hn : InK .i64 n) (hd : InK .i64 d) (hw : LW w) :
    Calls Tryd.prog 12 #[.agg #[.int .i64 k, .int .i64 n, .int .i64 d, .slice A m cap]] w fun e w' => e = .returned (.string (lineO ⟨k, n, d, l⟩)) ∧ Below w.heap.size w w' := by
  have FR := Lib.hid (Far.refl w)
  have HS := Lib.hid (Old.now hs)
  have HL := Lib.hid hw
  have RO := Lib.hid (fun w => opRight_any k n d A m cap l w hs.n_eq)
  have LN := Lib.hid hs.n_eq
  have HV := Lib.hid (show lineO ⟨k, n, d, l⟩ = if rightO ⟨k, n, d, l⟩ = true then joinB (strsO ⟨k, n, d, l⟩) else ⟨#[]⟩ from rfl)
  have HW := Lib.hid (right_ways (o := ⟨k, n, d, l⟩))
  have WO := Lib.hid (fun w => opWord_any k w)
  have TO := Lib.hid (fun w => opTold_any k w)
  have DN := Lib.hid (fun w hw => opDigits_any n w hn hw)
  have DD := Lib.hid (fun w hw => opDigits_any d w hd hw)
  have SN := Lib.hid (itoa_size hn)
  have SD := Lib.hid (itoa_size hd)
  have SV := Lib.hid (show strsO ⟨k, n, d, l⟩ = wordB k :: ((if tel0 k = true then [strOfNums (hexB l)] else []) ++ ((if tel1 k = true then [⟨(Lib.itoa d).toArray⟩] else []) ++ (if tel2 k = true then [⟨(Lib.itoa n).toArray⟩] else []))) from rfl)
  obtain ⟨r, hr⟩ : ∃ r, rightO ⟨k, n, d, l⟩ = r := ⟨_, rfl⟩
  obtain ⟨v, hv⟩ : ∃ r, lineO ⟨k, n, d, l⟩ = r := ⟨_, rfl⟩
  have WS := Lib.hid (word_size k)
  obtain ⟨s, hss⟩ : ∃ s, wordB k = s := ⟨_, rfl⟩
  obtain ⟨b0, hb0⟩ : ∃ b, tel0 k = b := ⟨_, rfl⟩
  obtain ⟨b1, hb1⟩ : ∃ b, tel1 k = b := ⟨_, rfl⟩
  obtain ⟨b2, hb2⟩ : ∃ b, tel2 k = b := ⟨_, rfl⟩
  rw [hr] at RO HV HW
  rw [hv] at HV ⊢
  rw [hss] at WO SV WS
  try simp only at HW
  rw [hb0, hb1, hb2] at TO SV HW
  have SZ := Lib.hid (show s.size ≤ maxLen by unfold maxLen; have := WS.out; omega)
  clear hs hn hd hw hr hv hss hb0 hb1 hb2
  obtain ⟨w1, hw_w1⟩ : ∃ nw_, w.alloc (.cells #[.int .i64 k, .int .i64 n, .int .i64 d, .slice A m cap] 24) = nw_ := ⟨_, rfl⟩
  have k_w1 : Below w.heap.size w w1 := by rw [← hw_w1]; exact (Below.refl _ _).alloc (Nat.le_refl _) _
  replace FR := Lib.hid (FR.out.fut k_w1)
  have BN := Lib.hid (show Blk w1 w.heap.size 24 #[.int .i64 k, .int .i64 n, .int .i64 d, .slice A m cap] by rw [← hw_w1]; exact Blk.now _ _ _ _ rfl)
  clear k_w1
  cases r with
  | false =>
    go_enter Tryd.func12, Tryd.ntmps12
    go_wp2_with (first | (refine wpList_load_row rfl 24 (.tmp 1) rfl w.heap.size rfl _ _ (0, 0) _ BN.out.heap Tryd.underlying24 rfl (by kernel_rfl) ?_) | (go_at_call 10; refine (RO.out _).mono ?_; rintro e w5 ⟨rfl, hb⟩; replace FR := Lib.hid (FR.out.fut hb); clear hb))
    go_ret
    exact ⟨by rw [HV.out] <;> rfl, FR.out.out⟩
  | true =>
    have HW2 := Lib.hid (HW.out rfl)
    rw [if_pos rfl] at HV
    clear HW
    go_enter Tryd.func12, Tryd.ntmps12
    go_upto_region 3 with (first | (refine wpList_load_row rfl 24 (.tmp 1) rfl w.heap.size rfl _ _ (0, 0) _ BN.out.heap Tryd.underlying24 rfl (by kernel_rfl) ?_) | (go_at_call 10; refine (RO.out _).mono ?_; rintro e w5 ⟨rfl, hb⟩; replace FR := Lib.hid (FR.out.fut hb); replace BN := Lib.hid (BN.out.fut hb); clear hb hw_w1))
    go_cut [3, 4] (fun u t wx => ∃ g, t = .pointer (some ⟨g, 0, none⟩) ∧ Blk wx g 53 #[.bool b0, .bool b1, .bool b2] ∧ Own tStr wx (fun _ => False) (w.heap.size + 1) 9 u 1 [s] ∧ u.ownBlock ≠ some g ∧ w.heap.size < g ∧ Blk wx w.heap.size 24 #[.int .i64 k, .int .i64 n, .int .i64 d, .slice A m cap] ∧ Below w5.heap.size w5 wx)
    case first =>
      refine wp_region_held_drew (S := fun w' => w'.cell? ⟨w.heap.size, 0, none⟩ = some (.int .i64 k) ∧ Blk w' w.heap.size 24 #[.int .i64 k, .int .i64 n, .int .i64 d, .slice A m cap] ∧ Below w5.heap.size w5 w') (by kernel_rfl) ?_ (fun hS => ?_)
      · exact ⟨BN.out.drew.cell 0, BN.out.drew, (Below.refl _ _).drew⟩
      refine wpAnyH_take (i := 0) (v := ?_) rfl (by as_aux_lemma => kernel_rfl) (by as_aux_lemma => kernel_rfl) (by as_aux_lemma => kernel_rfl) (fun _ _ _ h => h) (Or.inl ⟨by rfl, ?_⟩) hS ?_
      rotate_left
      · intro w hSw; (try dsimp only at hSw); go_simp; try with_reducible rfl
      try simp only [Act.put, List.getElem_toArray, List.getElem_cons_succ, List.getElem_cons_zero, List.setIfInBounds_toArray, List.set_cons_zero, List.set_cons_succ]
      refine wpAnyH_take (i := 1) (v := ?_) rfl (by as_aux_lemma => kernel_rfl) (by as_aux_lemma => kernel_rfl) (by as_aux_lemma => kernel_rfl) (fun _ _ _ h => h) (Or.inl ⟨by rfl, ?_⟩) hS ?_
      rotate_left
      · intro w hSw; (try dsimp only at hSw); go_simp; try with_reducible rfl
      try simp only [Act.put, List.getElem_toArray, List.getElem_cons_succ, List.getElem_cons_zero, List.setIfInBounds_toArray, List.set_cons_zero, List.set_cons_succ]
      refine wpAnyH_take (i := 4) (v := ?_) rfl (by as_aux_lemma => kernel_rfl) (by as_aux_lemma => kernel_rfl) (by as_aux_lemma => kernel_rfl) (fun _ _ _ h => h) (Or.inl ⟨by rfl, ?_⟩) hS ?_
      rotate_left
      · intro w hSw; (try dsimp only at hSw); go_simp; try with_reducible rfl
      try simp only [Act.put, List.getElem_toArray, List.getElem_cons_succ, List.getElem_cons_zero, List.setIfInBounds_toArray, List.set_cons_zero, List.set_cons_succ]
      refine wpAnyH_take (i := 5) (v := ?_) rfl (by as_aux_lemma => kernel_rfl) (by as_aux_lemma => kernel_rfl) (by as_aux_lemma => kernel_rfl) (fun _ _ _ h => h) (Or.inl ⟨by rfl, ?_⟩) hS ?_
      rotate_left
      · intro w hSw; (try dsimp only at hSw); go_simp; try with_reducible rfl
      try simp only [Act.put, List.getElem_toArray, List.getElem_cons_succ, List.getElem_cons_zero, List.setIfInBounds_toArray, List.set_cons_zero, List.set_cons_succ]
      refine wpAnyH_ready (rs := [2, 7]) (by kernel_rfl) (by simp) ?_
      refine AllReadyH.cons rfl (fun K hK => ?_) (AllReadyH.cons rfl (fun K hK => ?_) AllReadyH.nil)
      · go_simp
        refine (WO.out _).mono ?_
        rintro e x0 ⟨rfl, hb⟩
        refine hK.out _ _ ?_ (fun hS => ?_)
        · exact ⟨cell_later hb hS.1, Blk.later hS.2.1 hb, below_later hb hS.2.2⟩
        clear hK K
        try simp only [Act.put, List.getElem_toArray, List.getElem_cons_succ, List.getElem_cons_zero, List.setIfInBounds_toArray, List.set_cons_zero, List.set_cons_succ]
        refine wpAnyH_ready (rs := [3, 6, 7]) (by kernel_rfl) (by simp) ?_
        refine AllReadyH.cons rfl (fun K hK => ?_) (AllReadyH.cons rfl (fun K hK => ?_) (AllReadyH.cons rfl (fun K hK => ?_) AllReadyH.nil))
        · go_simp
          have zw : w.heap.size < x0.heap.size := hS.2.1.lt
          have hb : Below x0.heap.size x0 (x0.alloc (.cells #[.string s] 9)) := (Below.refl _ _).alloc (Nat.le_refl _) _
          have OW := Lib.hid (Own.one1 (t := tStr) (W := x0) (S := fun _ => False) (E := 9) (base := w.heap.size + 1) (cs := #[.string s]) (x := s) zw ⟨rfl, SZ.out⟩)
          obtain ⟨y1, hy⟩ : ∃ y, x0.alloc (.cells #[.string s] 9) = y := ⟨_, rfl⟩
          show K _ (x0.alloc (.cells #[.string s] 9))
          rw [hy]
          rw [hy] at hb OW
          clear hy
          refine hK.out _ _ ?_ (fun hS => ?_)
          · exact ⟨cell_later hb hS.1, Blk.later hS.2.1 hb, below_later hb hS.2.2⟩
          clear hK K
          try simp only [Act.put, List.getElem_toArray, List.getElem_cons_succ, List.getElem_cons_zero, List.setIfInBounds_toArray, List.set_cons_zero, List.set_cons_succ]
          refine wpAnyH_ready (rs := [6, 7]) (by kernel_rfl) (by simp) ?_
          refine AllReadyH.cons rfl (fun K hK => ?_) (AllReadyH.cons rfl (fun K hK => ?_) AllReadyH.nil)
          · go_simp
            refine (TO.out _).mono ?_
            rintro e x2 ⟨rfl, hb⟩
            replace OW := Lib.hid (OW.out.below hb (Nat.le_refl _) (fun _ h => h.elim))
            refine hK.out _ _ ?_ (fun hS => ?_)
            · exact ⟨cell_later hb hS.1, Blk.later hS.2.1 hb, below_later hb hS.2.2⟩
            clear hK K
            try simp only [Act.put, List.getElem_toArray, List.getElem_cons_succ, List.getElem_cons_zero, List.setIfInBounds_toArray, List.set_cons_zero, List.set_cons_succ]
            refine wpAnyH_ready (rs := [7]) (by kernel_rfl) (by simp) ?_
            refine AllReadyH.cons rfl (fun K hK => ?_) AllReadyH.nil
            go_simp
            have zg : w.heap.size < x2.heap.size := hS.2.1.lt
            have zh : w5.heap.size ≤ x2.heap.size := hS.2.2.size
            have hb : Below x2.heap.size x2 (x2.alloc (.cells #[.bool false, .bool false, .bool false] 53)) := (Below.refl _ _).alloc (Nat.le_refl _) _
            have NE := Lib.hid (show x2.heap.size ≠ x0.heap.size from Nat.ne_of_gt (OW.out.lt _ rfl).2)
            replace OW := Lib.hid (OW.out.below hb (Nat.le_refl _) (fun _ h => h.elim))
            have BZ := Lib.hid (Blk.now x2 x2.heap.size 53 #[.bool false, .bool false, .bool false] rfl)
            obtain ⟨y3, hy⟩ : ∃ y, x2.alloc (.cells #[.bool false, .bool false, .bool false] 53) = y := ⟨_, rfl⟩
            show K _ (x2.alloc (.cells #[.bool false, .bool false, .bool false] 53))
            rw [hy]
            rw [hy] at hb BZ OW
            clear hy
            refine hK.out _ _ ?_ (fun hS => ?_)
            · exact ⟨cell_later hb hS.1, Blk.later hS.2.1 hb, below_later hb hS.2.2⟩
            clear hK K
            try simp only [Act.put, List.getElem_toArray, List.getElem_cons_succ, List.getElem_cons_zero, List.setIfInBounds_toArray, List.set_cons_zero, List.set_cons_succ]
            refine wpAnyH_take (i := 8) (v := ?_) rfl (by as_aux_lemma => kernel_rfl) (by as_aux_lemma => kernel_rfl) (by as_aux_lemma => kernel_rfl) (fun _ _ _ h => h) (Or.inl ⟨by rfl, ?_⟩) hS ?_
            rotate_left
            · intro w hSw; (try dsimp only at hSw); go_simp; try with_reducible rfl
            try simp only [Act.put, List.getElem_toArray, List.getElem_cons_succ, List.getElem_cons_zero, List.setIfInBounds_toArray, List.set_cons_zero, List.set_cons_succ]
            refine wpAnyH_ready (rs := [9]) (by kernel_rfl) (by simp) ?_
            refine AllReadyH.cons rfl (fun K hK => ?_) AllReadyH.nil
            rw [if_pos (by rfl)]
            refine oper_store_blk 53 (.tmp 4) (.tmp 14) rfl x2.heap.size 0 #[.bool b0, .bool b1, .bool b2] rfl rfl _ #[.bool false, .bool false, .bool false] #[.bool b0, .bool b1, .bool b2] BZ.out (by simp) (by kernel_rfl) (by simp [Value.oneCell']) rfl ?_
            intro wc BX gc
            have OC := OW.out.flat gc (.inr (fun e => NE.out (Option.some.inj e).symm)) (fun _ h => h)
            have BDc := hS.2.1.away gc (by omega)
            refine hK.out _ _ ⟨BDc.cell 0, BDc, hS.2.2.grown gc hS.2.2.size (fun k h => by have := Option.some.inj h; omega)⟩ (fun hS => ?_)
            clear hK K
            try simp only [Act.put, List.getElem_toArray, List.getElem_cons_succ, List.getElem_cons_zero, List.setIfInBounds_toArray, List.set_cons_zero, List.set_cons_succ]
            refine wpAnyH_done (by kernel_rfl) ?_ _
            have FZ := hS.2.2
            have FB := hS.2.1
            go_wp2_with fail
            go_meet
            case rel => exact ⟨_, rfl, BX, OC, fun e => NE.out (Option.some.inj e).symm, zg, FB, FZ⟩
          · go_simp
            have zg : w.heap.size < y1.heap.size := hS.2.1.lt
            have zh : w5.heap.size ≤ y1.heap.size := hS.2.2.size
            have hb : Below y1.heap.size y1 (y1.alloc (.cells #[.bool false, .bool false, .bool false] 53)) := (Below.refl _ _).alloc (Nat.le_refl _) _
            have NE := Lib.hid (show y1.heap.size ≠ x0.heap.size from Nat.ne_of_gt (OW.out.lt _ rfl).2)
            replace OW := Lib.hid (OW.out.below hb (Nat.le_refl _) (fun _ h => h.elim))
            have BZ := Lib.hid (Blk.now y1 y1.heap.size 53 #[.bool false, .bool false, .bool false] rfl)
            obtain ⟨y4, hy⟩ : ∃ y, y1.alloc (.cells #[.bool false, .bool false, .bool false] 53) = y := ⟨_, rfl⟩
            show K _ (y1.alloc (.cells #[.bool false, .bool false, .bool false] 53))
            rw [hy]
            rw [hy] at hb BZ OW
            clear hy
            refine hK.out _ _ ?_ (fun hS => ?_)
            · exact ⟨cell_later hb hS.1, Blk.later hS.2.1 hb, below_later hb hS.2.2⟩
            clear hK K
            try simp only [Act.put, List.getElem_toArray, List.getElem_cons_succ, List.getElem_cons_zero, List.setIfInBounds_toArray, List.set_cons_zero, List.set_cons_succ]
            refine wpAnyH_ready (rs := [6]) (by kernel_rfl) (by simp) ?_
            refine AllReadyH.cons rfl (fun K hK => ?_) AllReadyH.nil
            go_simp
            refine (TO.out _).mono ?_
            rintro e x5 ⟨rfl, hb⟩
            replace BZ := Lib.hid (BZ.out.later hb)
            replace OW := Lib.hid (OW.out.below hb (Nat.le_refl _) (fun _ h => h.elim))
            refine hK.out _ _ ?_ (fun hS => ?_)
            · exact ⟨cell_later hb hS.1, Blk.later hS.2.1 hb, below_later hb hS.2.2⟩
            clear hK K
            try simp only [Act.put, List.getElem_toArray, List.getElem_cons_succ, List.getElem_cons_zero, List.setIfInBounds_toArray, List.set_cons_zero, List.set_cons_succ]
            refine wpAnyH_take (i := 8) (v := ?_) rfl (by as_aux_lemma => kernel_rfl) (by as_aux_lemma => kernel_rfl) (by as_aux_lemma => kernel_rfl) (fun _ _ _ h => h) (Or.inl ⟨by rfl, ?_⟩) hS ?_
            rotate_left
            · intro w hSw; (try dsimp only at hSw); go_simp; try with_reducible rfl
            try simp only [Act.put, List.getElem_toArray, List.getElem_cons_succ, List.getElem_cons_zero, List.setIfInBounds_toArray, List.set_cons_zero, List.set_cons_succ]
            refine wpAnyH_ready (rs := [9]) (by kernel_rfl) (by simp) ?_
            refine AllReadyH.cons rfl (fun K hK => ?_) AllReadyH.nil
            rw [if_pos (by rfl)]
            refine oper_store_blk 53 (.tmp 4) (.tmp 14) rfl y1.heap.size 0 #[.bool b0, .bool b1, .bool b2] rfl rfl _ #[.bool false, .bool false, .bool false] #[.bool b0, .bool b1, .bool b2] BZ.out (by simp) (by kernel_rfl) (by simp [Value.oneCell']) rfl ?_
            intro wc BX gc
            have OC := OW.out.flat gc (.inr (fun e => NE.out (Option.some.inj e).symm)) (fun _ h => h)
            have BDc := hS.2.1.away gc (by omega)
            refine hK.out _ _ ⟨BDc.cell 0, BDc, hS.2.2.grown gc hS.2.2.size (fun k h => by have := Option.some.inj h; omega)⟩ (fun hS => ?_)
            clear hK K
            try simp only [Act.put, List.getElem_toArray, List.getElem_cons_succ, List.getElem_cons_zero, List.setIfInBounds_toArray, List.set_cons_zero, List.set_cons_succ]
            refine wpAnyH_done (by kernel_rfl) ?_ _
            have FZ := hS.2.2
            have FB := hS.2.1
            go_wp2_with fail
            go_meet
            case rel => exact ⟨_, rfl, BX, OC, fun e => NE.out (Option.some.inj e).symm, zg, FB, FZ⟩
        · go_simp
          refine (TO.out _).mono ?_
          rintro e x6 ⟨rfl, hb⟩
          refine hK.out _ _ ?_ (fun hS => ?_)
          · exact ⟨cell_later hb hS.1, Blk.later hS.2.1 hb, below_later hb hS.2.2⟩
          clear hK K
          try simp only [Act.put, List.getElem_toArray, List.getElem_cons_succ, List.getElem_cons_zero, List.setIfInBounds_toArray, List.set_cons_zero, List.set_cons_succ]
          refine wpAnyH_ready (rs := [3, 7]) (by kernel_rfl) (by simp) ?_
          refine AllReadyH.cons rfl (fun K hK => ?_) (AllReadyH.cons rfl (fun K hK => ?_) AllReadyH.nil)
          · go_simp
            have zw : w.heap.size < x6.heap.size := hS.2.1.lt
            have hb : Below x6.heap.size x6 (x6.alloc (.cells #[.string s] 9)) := (Below.refl _ _).alloc (Nat.le_refl _) _
            have OW := Lib.hid (Own.one1 (t := tStr) (W := x6) (S := fun _ => False) (E := 9) (base := w.heap.size + 1) (cs := #[.string s]) (x := s) zw ⟨rfl, SZ.out⟩)
            obtain ⟨y7, hy⟩ : ∃ y, x6.alloc (.cells #[.string s] 9) = y := ⟨_, rfl⟩
            show K _ (x6.alloc (.cells #[.string s] 9))
            rw [hy]
            rw [hy] at hb OW
            clear hy
            refine hK.out _ _ ?_ (fun hS => ?_)
            · exact ⟨cell_later hb hS.1, Blk.later hS.2.1 hb, below_later hb hS.2.2⟩
            clear hK K
            try simp only [Act.put, List.getElem_toArray, List.getElem_cons_succ, List.getElem_cons_zero, List.setIfInBounds_toArray, List.set_cons_zero, List.set_cons_succ]
            refine wpAnyH_ready (rs := [7]) (by kernel_rfl) (by simp) ?_
            refine AllReadyH.cons rfl (fun K hK => ?_) AllReadyH.nil
            go_simp
            have zg : w.heap.size < y7.heap.size := hS.2.1.lt
            have zh : w5.heap.size ≤ y7.heap.size := hS.2.2.size
            have hb : Below y7.heap.size y7 (y7.alloc (.cells #[.bool false, .bool false, .bool false] 53)) := (Below.refl _ _).alloc (Nat.le_refl _) _
            have NE := Lib.hid (show y7.heap.size ≠ x6.heap.size from Nat.ne_of_gt (OW.out.lt _ rfl).2)
            replace OW := Lib.hid (OW.out.below hb (Nat.le_refl _) (fun _ h => h.elim))
            have BZ := Lib.hid (Blk.now y7 y7.heap.size 53 #[.bool false, .bool false, .bool false] rfl)
            obtain ⟨y8, hy⟩ : ∃ y, y7.alloc (.cells #[.bool false, .bool false, .bool false] 53) = y := ⟨_, rfl⟩
            show K _ (y7.alloc (.cells #[.bool false, .bool false, .bool false] 53))
            rw [hy]
            rw [hy] at hb BZ OW
            clear hy
            refine hK.out _ _ ?_ (fun hS => ?_)
            · exact ⟨cell_later hb hS.1, Blk.later hS.2.1 hb, below_later hb hS.2.2⟩
            clear hK K
            try simp only [Act.put, List.getElem_toArray, List.getElem_cons_succ, List.getElem_cons_zero, List.setIfInBounds_toArray, List.set_cons_zero, List.set_cons_succ]
            refine wpAnyH_take (i := 8) (v := ?_) rfl (by as_aux_lemma => kernel_rfl) (by as_aux_lemma => kernel_rfl) (by as_aux_lemma => kernel_rfl) (fun _ _ _ h => h) (Or.inl ⟨by rfl, ?_⟩) hS ?_
            rotate_left
            · intro w hSw; (try dsimp only at hSw); go_simp; try with_reducible rfl
            try simp only [Act.put, List.getElem_toArray, List.getElem_cons_succ, List.getElem_cons_zero, List.setIfInBounds_toArray, List.set_cons_zero, List.set_cons_succ]
            refine wpAnyH_ready (rs := [9]) (by kernel_rfl) (by simp) ?_
            refine AllReadyH.cons rfl (fun K hK => ?_) AllReadyH.nil
            rw [if_pos (by rfl)]
            refine oper_store_blk 53 (.tmp 4) (.tmp 14) rfl y7.heap.size 0 #[.bool b0, .bool b1, .bool b2] rfl rfl _ #[.bool false, .bool false, .bool false] #[.bool b0, .bool b1, .bool b2] BZ.out (by simp) (by kernel_rfl) (by simp [Value.oneCell']) rfl ?_
            intro wc BX gc
            have OC := OW.out.flat gc (.inr (fun e => NE.out (Option.some.inj e).symm)) (fun _ h => h)
            have BDc := hS.2.1.away gc (by omega)
            refine hK.out _ _ ⟨BDc.cell 0, BDc, hS.2.2.grown gc hS.2.2.size (fun k h => by have := Option.some.inj h; omega)⟩ (fun hS => ?_)
            clear hK K
            try simp only [Act.put, List.getElem_toArray, List.getElem_cons_succ, List.getElem_cons_zero, List.setIfInBounds_toArray, List.set_cons_zero, List.set_cons_succ]
            refine wpAnyH_done (by kernel_rfl) ?_ _
            have FZ := hS.2.2
            have FB := hS.2.1
            go_wp2_with fail
            go_meet
            case rel => exact ⟨_, rfl, BX, OC, fun e => NE.out (Option.some.inj e).symm, zg, FB, FZ⟩
          · go_simp
            have zg : w.heap.size < x6.heap.size := hS.2.1.lt
            have zh : w5.heap.size ≤ x6.heap.size := hS.2.2.size
            have hb : Below x6.heap.size x6 (x6.alloc (.cells #[.bool false, .bool false, .bool false] 53)) := (Below.refl _ _).alloc (Nat.le_refl _) _
            have BZ := Lib.hid (Blk.now x6 x6.heap.size 53 #[.bool false, .bool false, .bool false] rfl)
            obtain ⟨y9, hy⟩ : ∃ y, x6.alloc (.cells #[.bool false, .bool false, .bool false] 53) = y := ⟨_, rfl⟩
            show K _ (x6.alloc (.cells #[.bool false, .bool false, .bool false] 53))
            rw [hy]
            rw [hy] at hb BZ
            clear hy
            refine hK.out _ _ ?_ (fun hS => ?_)
            · exact ⟨cell_later hb hS.1, Blk.later hS.2.1 hb, below_later hb hS.2.2⟩
            clear hK K
            try simp only [Act.put, List.getElem_toArray, List.getElem_cons_succ, List.getElem_cons_zero, List.setIfInBounds_toArray, List.set_cons_zero, List.set_cons_succ]
            refine wpAnyH_ready (rs := [3]) (by kernel_rfl) (by simp) ?_
            refine AllReadyH.cons rfl (fun K hK => ?_) AllReadyH.nil
            go_simp
            have zw : w.heap.size < y9.heap.size := hS.2.1.lt
            have hb : Below y9.heap.size y9 (y9.alloc (.cells #[.string s] 9)) := (Below.refl _ _).alloc (Nat.le_refl _) _
            have NE := Lib.hid (show x6.heap.size ≠ y9.heap.size from Nat.ne_of_lt BZ.out.lt)
            replace BZ := Lib.hid (BZ.out.later hb)
            have OW := Lib.hid (Own.one1 (t := tStr) (W := y9) (S := fun _ => False) (E := 9) (base := w.heap.size + 1) (cs := #[.string s]) (x := s) zw ⟨rfl, SZ.out⟩)
            obtain ⟨y10, hy⟩ : ∃ y, y9.alloc (.cells #[.string s] 9) = y := ⟨_, rfl⟩
            show K _ (y9.alloc (.cells #[.string s] 9))
            rw [hy]
            rw [hy] at hb OW BZ
            clear hy
            refine hK.out _ _ ?_ (fun hS => ?_)
            · exact ⟨cell_later hb hS.1, Blk.later hS.2.1 hb, below_later hb hS.2.2⟩
            clear hK K
            try simp only [Act.put, List.getElem_toArray, List.getElem_cons_succ, List.getElem_cons_zero, List.setIfInBounds_toArray, List.set_cons_zero, List.set_cons_succ]
            refine wpAnyH_take (i := 8) (v := ?_) rfl (by as_aux_lemma => kernel_rfl) (by as_aux_lemma => kernel_rfl) (by as_aux_lemma => kernel_rfl) (fun _ _ _ h => h) (Or.inl ⟨by rfl, ?_⟩) hS ?_
            rotate_left
            · intro w hSw; (try dsimp only at hSw); go_simp; try with_reducible rfl
            try simp only [Act.put, List.getElem_toArray, List.getElem_cons_succ, List.getElem_cons_zero, List.setIfInBounds_toArray, List.set_cons_zero, List.set_cons_succ]
            refine wpAnyH_ready (rs := [9]) (by kernel_rfl) (by simp) ?_
            refine AllReadyH.cons rfl (fun K hK => ?_) AllReadyH.nil
            rw [if_pos (by rfl)]
            refine oper_store_blk 53 (.tmp 4) (.tmp 14) rfl x6.heap.size 0 #[.bool b0, .bool b1, .bool b2] rfl rfl _ #[.bool false, .bool false, .bool false] #[.bool b0, .bool b1, .bool b2] BZ.out (by simp) (by kernel_rfl) (by simp [Value.oneCell']) rfl ?_
            intro wc BX gc
            have OC := OW.out.flat gc (.inr (fun e => NE.out (Option.some.inj e).symm)) (fun _ h => h)
            have BDc := hS.2.1.away gc (by omega)
            refine hK.out _ _ ⟨BDc.cell 0, BDc, hS.2.2.grown gc hS.2.2.size (fun k h => by have := Option.some.inj h; omega)⟩ (fun hS => ?_)
            clear hK K
            try simp only [Act.put, List.getElem_toArray, List.getElem_cons_succ, List.getElem_cons_zero, List.setIfInBounds_toArray, List.set_cons_zero, List.set_cons_succ]
            refine wpAnyH_done (by kernel_rfl) ?_ _
            have FZ := hS.2.2
            have FB := hS.2.1
            go_wp2_with fail
            go_meet
            case rel => exact ⟨_, rfl, BX, OC, fun e => NE.out (Option.some.inj e).symm, zg, FB, FZ⟩
        · go_simp
          have zg : w.heap.size < x0.heap.size := hS.2.1.lt
          have zh : w5.heap.size ≤ x0.heap.size := hS.2.2.size
          have hb : Below x0.heap.size x0 (x0.alloc (.cells #[.bool false, .bool false, .bool false] 53)) := (Below.refl _ _).alloc (Nat.le_refl _) _
          have BZ := Lib.hid (Blk.now x0 x0.heap.size 53 #[.bool false, .bool false, .bool false] rfl)
          obtain ⟨y11, hy⟩ : ∃ y, x0.alloc (.cells #[.bool false, .bool false, .bool false] 53) = y := ⟨_, rfl⟩
          show K _ (x0.alloc (.cells #[.bool false, .bool false, .bool false] 53))
          rw [hy]
          rw [hy] at hb BZ
          clear hy
          refine hK.out _ _ ?_ (fun hS => ?_)
          · exact ⟨cell_later hb hS.1, Blk.later hS.2.1 hb, below_later hb hS.2.2⟩
          clear hK K
          try simp only [Act.put, List.getElem_toArray, List.getElem_cons_succ, List.getElem_cons_zero, List.setIfInBounds_toArray, List.set_cons_zero, List.set_cons_succ]
          refine wpAnyH_ready (rs := [3, 6]) (by kernel_rfl) (by simp) ?_
          refine AllReadyH.cons rfl (fun K hK => ?_) (AllReadyH.cons rfl (fun K hK => ?_) AllReadyH.nil)
          · go_simp
            have zw : w.heap.size < y11.heap.size := hS.2.1.lt
            have hb : Below y11.heap.size y11 (y11.alloc (.cells #[.string s] 9)) := (Below.refl _ _).alloc (Nat.le_refl _) _
            have NE := Lib.hid (show x0.heap.size ≠ y11.heap.size from Nat.ne_of_lt BZ.out.lt)
            replace BZ := Lib.hid (BZ.out.later hb)
            have OW := Lib.hid (Own.one1 (t := tStr) (W := y11) (S := fun _ => False) (E := 9) (base := w.heap.size + 1) (cs := #[.string s]) (x := s) zw ⟨rfl, SZ.out⟩)
            obtain ⟨y12, hy⟩ : ∃ y, y11.alloc (.cells #[.string s] 9) = y := ⟨_, rfl⟩
            show K _ (y11.alloc (.cells #[.string s] 9))
            rw [hy]
            rw [hy] at hb OW BZ
            clear hy
            refine hK.out _ _ ?_ (fun hS => ?_)
            · exact ⟨cell_later hb hS.1, Blk.later hS.2.1 hb, below_later hb hS.2.2⟩
            clear hK K
            try simp only [Act.put, List.getElem_toArray, List.getElem_cons_succ, List.getElem_cons_zero, List.setIfInBounds_toArray, List.set_cons_zero, List.set_cons_succ]
            refine wpAnyH_ready (rs := [6]) (by kernel_rfl) (by simp) ?_
            refine AllReadyH.cons rfl (fun K hK => ?_) AllReadyH.nil
            go_simp
            refine (TO.out _).mono ?_
            rintro e x13 ⟨rfl, hb⟩
            replace BZ := Lib.hid (BZ.out.later hb)
            replace OW := Lib.hid (OW.out.below hb (Nat.le_refl _) (fun _ h => h.elim))
            refine hK.out _ _ ?_ (fun hS => ?_)
            · exact ⟨cell_later hb hS.1, Blk.later hS.2.1 hb, below_later hb hS.2.2⟩
            clear hK K
            try simp only [Act.put, List.getElem_toArray, List.getElem_cons_succ, List.getElem_cons_zero, List.setIfInBounds_toArray, List.set_cons_zero, List.set_cons_succ]
            refine wpAnyH_take (i := 8) (v := ?_) rfl (by as_aux_lemma => kernel_rfl) (by as_aux_lemma => kernel_rfl) (by as_aux_lemma => kernel_rfl) (fun _ _ _ h => h) (Or.inl ⟨by rfl, ?_⟩) hS ?_
            rotate_left
            · intro w hSw; (try dsimp only at hSw); go_simp; try with_reducible rfl
            try simp only [Act.put, List.getElem_toArray, List.getElem_cons_succ, List.getElem_cons_zero, List.setIfInBounds_toArray, List.set_cons_zero, List.set_cons_succ]
            refine wpAnyH_ready (rs := [9]) (by kernel_rfl) (by simp) ?_
            refine AllReadyH.cons rfl (fun K hK => ?_) AllReadyH.nil
            rw [if_pos (by rfl)]
            refine oper_store_blk 53 (.tmp 4) (.tmp 14) rfl x0.heap.size 0 #[.bool b0, .bool b1, .bool b2] rfl rfl _ #[.bool false, .bool false, .bool false] #[.bool b0, .bool b1, .bool b2] BZ.out (by simp) (by kernel_rfl) (by simp [Value.oneCell']) rfl ?_
            intro wc BX gc
            have OC := OW.out.flat gc (.inr (fun e => NE.out (Option.some.inj e).symm)) (fun _ h => h)
            have BDc := hS.2.1.away gc (by omega)
            refine hK.out _ _ ⟨BDc.cell 0, BDc, hS.2.2.grown gc hS.2.2.size (fun k h => by have := Option.some.inj h; omega)⟩ (fun hS => ?_)
            clear hK K
            try simp only [Act.put, List.getElem_toArray, List.getElem_cons_succ, List.getElem_cons_zero, List.setIfInBounds_toArray, List.set_cons_zero, List.set_cons_succ]
            refine wpAnyH_done (by kernel_rfl) ?_ _
            have FZ := hS.2.2
            have FB := hS.2.1
            go_wp2_with fail
            go_meet
            case rel => exact ⟨_, rfl, BX, OC, fun e => NE.out (Option.some.inj e).symm, zg, FB, FZ⟩
          · go_simp
            refine (TO.out _).mono ?_
            rintro e x14 ⟨rfl, hb⟩
            replace BZ := Lib.hid (BZ.out.later hb)
            refine hK.out _ _ ?_ (fun hS => ?_)
            · exact ⟨cell_later hb hS.1, Blk.later hS.2.1 hb, below_later hb hS.2.2⟩
            clear hK K
            try simp only [Act.put, List.getElem_toArray, List.getElem_cons_succ, List.getElem_cons_zero, List.setIfInBounds_toArray, List.set_cons_zero, List.set_cons_succ]
            refine wpAnyH_ready (rs := [3]) (by kernel_rfl) (by simp) ?_
            refine AllReadyH.cons rfl (fun K hK => ?_) AllReadyH.nil
            go_simp
            have zw : w.heap.size < x14.heap.size := hS.2.1.lt
            have hb : Below x14.heap.size x14 (x14.alloc (.cells #[.string s] 9)) := (Below.refl _ _).alloc (Nat.le_refl _) _
            have NE := Lib.hid (show x0.heap.size ≠ x14.heap.size from Nat.ne_of_lt BZ.out.lt)
            replace BZ := Lib.hid (BZ.out.later hb)
            have OW := Lib.hid (Own.one1 (t := tStr) (W := x14) (S := fun _ => False) (E := 9) (base := w.heap.size + 1) (cs := #[.string s]) (x := s) zw ⟨rfl, SZ.out⟩)
            obtain ⟨y15, hy⟩ : ∃ y, x14.alloc (.cells #[.string s] 9) = y := ⟨_, rfl⟩
            show K _ (x14.alloc (.cells #[.string s] 9))
            rw [hy]
            rw [hy] at hb OW BZ
            clear hy
            refine hK.out _ _ ?_ (fun hS => ?_)
            · exact ⟨cell_later hb hS.1, Blk.later hS.2.1 hb, below_later hb hS.2.2⟩
            clear hK K
            try simp only [Act.put, List.getElem_toArray, List.getElem_cons_succ, List.getElem_cons_zero, List.setIfInBounds_toArray, List.set_cons_zero, List.set_cons_succ]
            refine wpAnyH_take (i := 8) (v := ?_) rfl (by as_aux_lemma => kernel_rfl) (by as_aux_lemma => kernel_rfl) (by as_aux_lemma => kernel_rfl) (fun _ _ _ h => h) (Or.inl ⟨by rfl, ?_⟩) hS ?_
            rotate_left
            · intro w hSw; (try dsimp only at hSw); go_simp; try with_reducible rfl
            try simp only [Act.put, List.getElem_toArray, List.getElem_cons_succ, List.getElem_cons_zero, List.setIfInBounds_toArray, List.set_cons_zero, List.set_cons_succ]
            refine wpAnyH_ready (rs := [9]) (by kernel_rfl) (by simp) ?_
            refine AllReadyH.cons rfl (fun K hK => ?_) AllReadyH.nil
            rw [if_pos (by rfl)]
            refine oper_store_blk 53 (.tmp 4) (.tmp 14) rfl x0.heap.size 0 #[.bool b0, .bool b1, .bool b2] rfl rfl _ #[.bool false, .bool false, .bool false] #[.bool b0, .bool b1, .bool b2] BZ.out (by simp) (by kernel_rfl) (by simp [Value.oneCell']) rfl ?_
            intro wc BX gc
            have OC := OW.out.flat gc (.inr (fun e => NE.out (Option.some.inj e).symm)) (fun _ h => h)
            have BDc := hS.2.1.away gc (by omega)
            refine hK.out _ _ ⟨BDc.cell 0, BDc, hS.2.2.grown gc hS.2.2.size (fun k h => by have := Option.some.inj h; omega)⟩ (fun hS => ?_)
            clear hK K
            try simp only [Act.put, List.getElem_toArray, List.getElem_cons_succ, List.getElem_cons_zero, List.setIfInBounds_toArray, List.set_cons_zero, List.set_cons_succ]
            refine wpAnyH_done (by kernel_rfl) ?_ _
            have FZ := hS.2.2
            have FB := hS.2.1
            go_wp2_with fail
            go_meet
            case rel => exact ⟨_, rfl, BX, OC, fun e => NE.out (Option.some.inj e).symm, zg, FB, FZ⟩
      · go_simp
        have zg : w.heap.size < w5.heap.size := hS.2.1.lt
        have zh : w5.heap.size ≤ w5.heap.size := hS.2.2.size
        have hb : Below w5.drew.heap.size w5.drew (w5.drew.alloc (.cells #[.bool false, .bool false, .bool false] 53)) := (Below.refl _ _).alloc (Nat.le_refl _) _
        have BZ := Lib.hid (Blk.now w5.drew w5.heap.size 53 #[.bool false, .bool false, .bool false] rfl)
        obtain ⟨y16, hy⟩ : ∃ y, w5.drew.alloc (.cells #[.bool false, .bool false, .bool false] 53) = y := ⟨_, rfl⟩
        show K _ (w5.drew.alloc (.cells #[.bool false, .bool false, .bool false] 53))
        rw [hy]
        rw [hy] at hb BZ
        clear hy
        refine hK.out _ _ ?_ (fun hS => ?_)
        · exact ⟨cell_later hb hS.1, Blk.later hS.2.1 hb, below_later hb hS.2.2⟩
        clear hK K
        try simp only [Act.put, List.getElem_toArray, List.getElem_cons_succ, List.getElem_cons_zero, List.setIfInBounds_toArray, List.set_cons_zero, List.set_cons_succ]
        refine wpAnyH_ready (rs := [2]) (by kernel_rfl) (by simp) ?_
        refine AllReadyH.cons rfl (fun K hK => ?_) AllReadyH.nil
        go_simp
        refine (WO.out _).mono ?_
        rintro e x17 ⟨rfl, hb⟩
        replace BZ := Lib.hid (BZ.out.later hb)
        refine hK.out _ _ ?_ (fun hS => ?_)
        · exact ⟨cell_later hb hS.1, Blk.later hS.2.1 hb, below_later hb hS.2.2⟩
        clear hK K
        try simp only [Act.put, List.getElem_toArray, List.getElem_cons_succ, List.getElem_cons_zero, List.setIfInBounds_toArray, List.set_cons_zero, List.set_cons_succ]
        refine wpAnyH_ready (rs := [3, 6]) (by kernel_rfl) (by simp) ?_
        refine AllReadyH.cons rfl (fun K hK => ?_) (AllReadyH.cons rfl (fun K hK => ?_) AllReadyH.nil)
        · go_simp
          have zw : w.heap.size < x17.heap.size := hS.2.1.lt
          have hb : Below x17.heap.size x17 (x17.alloc (.cells #[.string s] 9)) := (Below.refl _ _).alloc (Nat.le_refl _) _
          have NE := Lib.hid (show w5.heap.size ≠ x17.heap.size from Nat.ne_of_lt BZ.out.lt)
          replace BZ := Lib.hid (BZ.out.later hb)
          have OW := Lib.hid (Own.one1 (t := tStr) (W := x17) (S := fun _ => False) (E := 9) (base := w.heap.size + 1) (cs := #[.string s]) (x := s) zw ⟨rfl, SZ.out⟩)
          obtain ⟨y18, hy⟩ : ∃ y, x17.alloc (.cells #[.string s] 9) = y := ⟨_, rfl⟩
          show K _ (x17.alloc (.cells #[.string s] 9))
          rw [hy]
          rw [hy] at hb OW BZ
          clear hy
          refine hK.out _ _ ?_ (fun hS => ?_)
          · exact ⟨cell_later hb hS.1, Blk.later hS.2.1 hb, below_later hb hS.2.2⟩
          clear hK K
          try simp only [Act.put, List.getElem_toArray, List.getElem_cons_succ, List.getElem_cons_zero, List.setIfInBounds_toArray, List.set_cons_zero, List.set_cons_succ]
          refine wpAnyH_ready (rs := [6]) (by kernel_rfl) (by simp) ?_
          refine AllReadyH.cons rfl (fun K hK => ?_) AllReadyH.nil
          go_simp
          refine (TO.out _).mono ?_
          rintro e x19 ⟨rfl, hb⟩
          replace BZ := Lib.hid (BZ.out.later hb)
          replace OW := Lib.hid (OW.out.below hb (Nat.le_refl _) (fun _ h => h.elim))
          refine hK.out _ _ ?_ (fun hS => ?_)
          · exact ⟨cell_later hb hS.1, Blk.later hS.2.1 hb, below_later hb hS.2.2⟩
          clear hK K
          try simp only [Act.put, List.getElem_toArray, List.getElem_cons_succ, List.getElem_cons_zero, List.setIfInBounds_toArray, List.set_cons_zero, List.set_cons_succ]
          refine wpAnyH_take (i := 8) (v := ?_) rfl (by as_aux_lemma => kernel_rfl) (by as_aux_lemma => kernel_rfl) (by as_aux_lemma => kernel_rfl) (fun _ _ _ h => h) (Or.inl ⟨by rfl, ?_⟩) hS ?_
          rotate_left
          · intro w hSw; (try dsimp only at hSw); go_simp; try with_reducible rfl
          try simp only [Act.put, List.getElem_toArray, List.getElem_cons_succ, List.getElem_cons_zero, List.setIfInBounds_toArray, List.set_cons_zero, List.set_cons_succ]
          refine wpAnyH_ready (rs := [9]) (by kernel_rfl) (by simp) ?_
          refine AllReadyH.cons rfl (fun K hK => ?_) AllReadyH.nil
          rw [if_pos (by rfl)]
          refine oper_store_blk 53 (.tmp 4) (.tmp 14) rfl w5.heap.size 0 #[.bool b0, .bool b1, .bool b2] rfl rfl _ #[.bool false, .bool false, .bool false] #[.bool b0, .bool b1, .bool b2] BZ.out (by simp) (by kernel_rfl) (by simp [Value.oneCell']) rfl ?_
          intro wc BX gc
          have OC := OW.out.flat gc (.inr (fun e => NE.out (Option.some.inj e).symm)) (fun _ h => h)
          have BDc := hS.2.1.away gc (by omega)
          refine hK.out _ _ ⟨BDc.cell 0, BDc, hS.2.2.grown gc hS.2.2.size (fun k h => by have := Option.some.inj h; omega)⟩ (fun hS => ?_)
          clear hK K
          try simp only [Act.put, List.getElem_toArray, List.getElem_cons_succ, List.getElem_cons_zero, List.setIfInBounds_toArray, List.set_cons_zero, List.set_cons_succ]
          refine wpAnyH_done (by kernel_rfl) ?_ _
          have FZ := hS.2.2
          have FB := hS.2.1
          go_wp2_with fail
          go_meet
          case rel => exact ⟨_, rfl, BX, OC, fun e => NE.out (Option.some.inj e).symm, zg, FB, FZ⟩
        · go_simp
          refine (TO.out _).mono ?_
          rintro e x20 ⟨rfl, hb⟩
          replace BZ := Lib.hid (BZ.out.later hb)
          refine hK.out _ _ ?_ (fun hS => ?_)
          · exact ⟨cell_later hb hS.1, Blk.later hS.2.1 hb, below_later hb hS.2.2⟩
          clear hK K
          try simp only [Act.put, List.getElem_toArray, List.getElem_cons_succ, List.getElem_cons_zero, List.setIfInBounds_toArray, List.set_cons_zero, List.set_cons_succ]
          refine wpAnyH_ready (rs := [3]) (by kernel_rfl) (by simp) ?_
          refine AllReadyH.cons rfl (fun K hK => ?_) AllReadyH.nil
          go_simp
          have zw : w.heap.size < x20.heap.size := hS.2.1.lt
          have hb : Below x20.heap.size x20 (x20.alloc (.cells #[.string s] 9)) := (Below.refl _ _).alloc (Nat.le_refl _) _
          have NE := Lib.hid (show w5.heap.size ≠ x20.heap.size from Nat.ne_of_lt BZ.out.lt)
          replace BZ := Lib.hid (BZ.out.later hb)
          have OW := Lib.hid (Own.one1 (t := tStr) (W := x20) (S := fun _ => False) (E := 9) (base := w.heap.size + 1) (cs := #[.string s]) (x := s) zw ⟨rfl, SZ.out⟩)
          obtain ⟨y21, hy⟩ : ∃ y, x20.alloc (.cells #[.string s] 9) = y := ⟨_, rfl⟩
          show K _ (x20.alloc (.cells #[.string s] 9))
          rw [hy]
          rw [hy] at hb OW BZ
          clear hy
          refine hK.out _ _ ?_ (fun hS => ?_)
          · exact ⟨cell_later hb hS.1, Blk.later hS.2.1 hb, below_later hb hS.2.2⟩
          clear hK K
          try simp only [Act.put, List.getElem_toArray, List.getElem_cons_succ, List.getElem_cons_zero, List.setIfInBounds_toArray, List.set_cons_zero, List.set_cons_succ]
          refine wpAnyH_take (i := 8) (v := ?_) rfl (by as_aux_lemma => kernel_rfl) (by as_aux_lemma => kernel_rfl) (by as_aux_lemma => kernel_rfl) (fun _ _ _ h => h) (Or.inl ⟨by rfl, ?_⟩) hS ?_
          rotate_left
          · intro w hSw; (try dsimp only at hSw); go_simp; try with_reducible rfl
          try simp only [Act.put, List.getElem_toArray, List.getElem_cons_succ, List.getElem_cons_zero, List.setIfInBounds_toArray, List.set_cons_zero, List.set_cons_succ]
          refine wpAnyH_ready (rs := [9]) (by kernel_rfl) (by simp) ?_
          refine AllReadyH.cons rfl (fun K hK => ?_) AllReadyH.nil
          rw [if_pos (by rfl)]
          refine oper_store_blk 53 (.tmp 4) (.tmp 14) rfl w5.heap.size 0 #[.bool b0, .bool b1, .bool b2] rfl rfl _ #[.bool false, .bool false, .bool false] #[.bool b0, .bool b1, .bool b2] BZ.out (by simp) (by kernel_rfl) (by simp [Value.oneCell']) rfl ?_
          intro wc BX gc
          have OC := OW.out.flat gc (.inr (fun e => NE.out (Option.some.inj e).symm)) (fun _ h => h)
          have BDc := hS.2.1.away gc (by omega)
          refine hK.out _ _ ⟨BDc.cell 0, BDc, hS.2.2.grown gc hS.2.2.size (fun k h => by have := Option.some.inj h; omega)⟩ (fun hS => ?_)
          clear hK K
          try simp only [Act.put, List.getElem_toArray, List.getElem_cons_succ, List.getElem_cons_zero, List.setIfInBounds_toArray, List.set_cons_zero, List.set_cons_succ]
          refine wpAnyH_done (by kernel_rfl) ?_ _
          have FZ := hS.2.2
          have FB := hS.2.1
          go_wp2_with fail
          go_meet
          case rel => exact ⟨_, rfl, BX, OC, fun e => NE.out (Option.some.inj e).symm, zg, FB, FZ⟩
    case rest =>
      obtain ⟨g, rfl, hBT, hOW, hne, hg, hBN, hbw⟩ := hcut
      replace FR := Lib.hid (FR.out.fut hbw)
      clear BN
      have BN := Lib.hid hBN
      have BT := Lib.hid hBT
      have OW := Lib.hid hOW
      have NE := Lib.hid hne
      have HX := Lib.hid (fun w hs => opHex_any A m cap l w hs (by have := HW2.out.1; have := LN.out; omega))
      have HZ := Lib.hid (show (strOfNums (hexB l)).size ≤ 32769 by rw [strOf_size]; have := hexB_len l; have := HW2.out.1; omega)
      obtain ⟨hx, hhx⟩ : ∃ x, strOfNums (hexB l) = x := ⟨_, rfl⟩
      rw [hhx] at HX HZ SV
      obtain ⟨sd, hsd⟩ : ∃ x : ByteArray, ⟨(Lib.itoa d).toArray⟩ = x := ⟨_, rfl⟩
      rw [hsd] at DD SD SV
      obtain ⟨sn, hsn⟩ : ∃ x : ByteArray, ⟨(Lib.itoa n).toArray⟩ = x := ⟨_, rfl⟩
      rw [hsn] at DN SN SV
      have HW3 := HW2.out.2
      clear hBT hOW hne hBN hbw hhx hsd hsn HW2 RO WO TO
      have k1 := BN.out.cell 1; have k2 := BN.out.cell 2; have k3 := BN.out.cell 3; simp only [List.getElem?_toArray, List.getElem?_cons_succ, List.getElem?_cons_zero] at k1 k2 k3
      have a0 := BT.out.cell 0; have a1 := BT.out.cell 1; have a2 := BT.out.cell 2; simp only [List.getElem?_toArray, List.getElem?_cons_succ, List.getElem?_cons_zero] at a0 a1 a2
      rcases HW3 with ⟨rfl, rfl, rfl⟩ | ⟨rfl, rfl, rfl⟩ | ⟨rfl, rfl, rfl⟩ | ⟨rfl, rfl, rfl⟩
      · replace SV := Lib.hid (show strsO ⟨k, n, d, l⟩ = [s, hx] from SV.out.trans rfl)
        rw [SV.out] at HV
        have JB := Lib.hid (show (joinB [s, hx]).size ≤ 140737488355328 by have h := joinB_size [s, hx]; have := WS.out; have := HZ.out; have := SD.out; have := SN.out; simp only [List.map_cons, List.map_nil, List.sum_cons, List.sum_nil] at h; omega)
        go_wp2_with (first | (go_at_call 20; refine (HX.out _ (HS.out.fut FR.out.out).all).mono ?_; rintro e w6 ⟨rfl, hb⟩; replace FR := Lib.hid (FR.out.fut hb); replace BN := Lib.hid (BN.out.fut hb); replace BT := Lib.hid (BT.out.fut hb); replace OW := Lib.hid (OW.out.below hb (Nat.le_refl _) (fun _ h => h.elim)); clear hb; have k1 := BN.out.cell 1; have k2 := BN.out.cell 2; have k3 := BN.out.cell 3; simp only [List.getElem?_toArray, List.getElem?_cons_succ, List.getElem?_cons_zero] at k1 k2 k3; have a0 := BT.out.cell 0; have a1 := BT.out.cell 1; have a2 := BT.out.cell 2; simp only [List.getElem?_toArray, List.getElem?_cons_succ, List.getElem?_cons_zero] at a0 a1 a2) | (at_builtin; refine wpList_push (t := tStr) rfl _ _ rfl ei_str (v := u3) (n := 1) (l := [s]) rfl OW.out 1 rfl hx ⟨rfl, by unfold maxLen; have := HZ.out; omega⟩ (by decide) (by decide) (by have := BN.out.lt; omega) (fun _ h => h.elim) ?_; intro v6 w8 o6 g6 at6; have hne6 : some g ≠ u3.ownBlock := fun e => NE.out e.symm; replace FR := Lib.hid (show Far w w8 from ⟨FR.out.out.grown g6 FR.out.out.size (fun k h => by have := (OW.out.lt k h).1; omega)⟩); replace NE := Lib.hid (show v6.ownBlock ≠ some g from fun e => by (rcases at6 with q | q; exact NE.out (q.symm.trans e); rw [q] at e; have e2 := Option.some.inj e; have := BT.out.lt; omega)); replace BN := Lib.hid (BN.out.rowR g6 (fun e => by have := (OW.out.lt _ e.symm).1; omega)); replace BT := Lib.hid (BT.out.rowR g6 (fun e => hne6 e)); replace OW := Lib.hid o6; clear o6 g6 at6 hne6; have k1 := BN.out.cell 1; have k2 := BN.out.cell 2; have k3 := BN.out.cell 3; simp only [List.getElem?_toArray, List.getElem?_cons_succ, List.getElem?_cons_zero] at k1 k2 k3; have a0 := BT.out.cell 0; have a1 := BT.out.cell 1; have a2 := BT.out.cell 2; simp only [List.getElem?_toArray, List.getElem?_cons_succ, List.getElem?_cons_zero] at a0 a1 a2) | (go_at_call 32; obtain ⟨A1, c1, hA1, sl⟩ := OW.out.sl (S' := blo _) (by decide) (fun b h1 h2 => h2) (fun _ h => h.elim); subst hA1; refine (opJoined_any A1 2 c1 [s, hx] _ sl (by decide) JB.out (by decide)).mono ?_; rintro e w9 ⟨rfl, hb⟩; replace FR := Lib.hid (FR.out.fut hb); clear hb))
        go_ret
        exact ⟨by rw [HV.out] <;> rfl, FR.out.out⟩
      · replace SV := Lib.hid (show strsO ⟨k, n, d, l⟩ = [s, hx, sd] from SV.out.trans rfl)
        rw [SV.out] at HV
        have JB := Lib.hid (show (joinB [s, hx, sd]).size ≤ 140737488355328 by have h := joinB_size [s, hx, sd]; have := WS.out; have := HZ.out; have := SD.out; have := SN.out; simp only [List.map_cons, List.map_nil, List.sum_cons, List.sum_nil] at h; omega)
        go_wp2_with (first | (go_at_call 20; refine (HX.out _ (HS.out.fut FR.out.out).all).mono ?_; rintro e w6 ⟨rfl, hb⟩; replace FR := Lib.hid (FR.out.fut hb); replace BN := Lib.hid (BN.out.fut hb); replace BT := Lib.hid (BT.out.fut hb); replace OW := Lib.hid (OW.out.below hb (Nat.le_refl _) (fun _ h => h.elim)); clear hb; have k1 := BN.out.cell 1; have k2 := BN.out.cell 2; have k3 := BN.out.cell 3; simp only [List.getElem?_toArray, List.getElem?_cons_succ, List.getElem?_cons_zero] at k1 k2 k3; have a0 := BT.out.cell 0; have a1 := BT.out.cell 1; have a2 := BT.out.cell 2; simp only [List.getElem?_toArray, List.getElem?_cons_succ, List.getElem?_cons_zero] at a0 a1 a2) | (at_builtin; refine wpList_push (t := tStr) rfl _ _ rfl ei_str (v := u3) (n := 1) (l := [s]) rfl OW.out 1 rfl hx ⟨rfl, by unfold maxLen; have := HZ.out; omega⟩ (by decide) (by decide) (by have := BN.out.lt; omega) (fun _ h => h.elim) ?_; intro v6 w8 o6 g6 at6; have hne6 : some g ≠ u3.ownBlock := fun e => NE.out e.symm; replace FR := Lib.hid (show Far w w8 from ⟨FR.out.out.grown g6 FR.out.out.size (fun k h => by have := (OW.out.lt k h).1; omega)⟩); replace NE := Lib.hid (show v6.ownBlock ≠ some g from fun e => by (rcases at6 with q | q; exact NE.out (q.symm.trans e); rw [q] at e; have e2 := Option.some.inj e; have := BT.out.lt; omega)); replace BN := Lib.hid (BN.out.rowR g6 (fun e => by have := (OW.out.lt _ e.symm).1; omega)); replace BT := Lib.hid (BT.out.rowR g6 (fun e => hne6 e)); replace OW := Lib.hid o6; clear o6 g6 at6 hne6; have k1 := BN.out.cell 1; have k2 := BN.out.cell 2; have k3 := BN.out.cell 3; simp only [List.getElem?_toArray, List.getElem?_cons_succ, List.getElem?_cons_zero] at k1 k2 k3; have a0 := BT.out.cell 0; have a1 := BT.out.cell 1; have a2 := BT.out.cell 2; simp only [List.getElem?_toArray, List.getElem?_cons_succ, List.getElem?_cons_zero] at a0 a1 a2) | (go_at_call 22; refine (DD.out _ (HL.out.fut FR.out.out)).mono ?_; rintro e w7 ⟨rfl, hb⟩; replace FR := Lib.hid (FR.out.fut hb); replace BN := Lib.hid (BN.out.fut hb); replace BT := Lib.hid (BT.out.fut hb); replace OW := Lib.hid (OW.out.below hb (Nat.le_refl _) (fun _ h => h.elim)); clear hb; have k1 := BN.out.cell 1; have k2 := BN.out.cell 2; have k3 := BN.out.cell 3; simp only [List.getElem?_toArray, List.getElem?_cons_succ, List.getElem?_cons_zero] at k1 k2 k3; have a0 := BT.out.cell 0; have a1 := BT.out.cell 1; have a2 := BT.out.cell 2; simp only [List.getElem?_toArray, List.getElem?_cons_succ, List.getElem?_cons_zero] at a0 a1 a2) | (at_builtin; refine wpList_push (t := tStr) rfl _ _ rfl ei_str (v := v6) (n := 2) (l := [s, hx]) rfl OW.out 1 rfl sd ⟨rfl, by unfold maxLen; have := SD.out; omega⟩ (by decide) (by decide) (by have := BN.out.lt; omega) (fun _ h => h.elim) ?_; intro v7 w10 o6 g6 at6; have hne6 : some g ≠ v6.ownBlock := fun e => NE.out e.symm; replace FR := Lib.hid (show Far w w10 from ⟨FR.out.out.grown g6 FR.out.out.size (fun k h => by have := (OW.out.lt k h).1; omega)⟩); replace NE := Lib.hid (show v7.ownBlock ≠ some g from fun e => by (rcases at6 with q | q; exact NE.out (q.symm.trans e); rw [q] at e; have e2 := Option.some.inj e; have := BT.out.lt; omega)); replace BN := Lib.hid (BN.out.rowR g6 (fun e => by have := (OW.out.lt _ e.symm).1; omega)); replace BT := Lib.hid (BT.out.rowR g6 (fun e => hne6 e)); replace OW := Lib.hid o6; clear o6 g6 at6 hne6; have k1 := BN.out.cell 1; have k2 := BN.out.cell 2; have k3 := BN.out.cell 3; simp only [List.getElem?_toArray, List.getElem?_cons_succ, List.getElem?_cons_zero] at k1 k2 k3; have a0 := BT.out.cell 0; have a1 := BT.out.cell 1; have a2 := BT.out.cell 2; simp only [List.getElem?_toArray, List.getElem?_cons_succ, List.getElem?_cons_zero] at a0 a1 a2) | (go_at_call 32; obtain ⟨A1, c1, hA1, sl⟩ := OW.out.sl (S' := blo _) (by decide) (fun b h1 h2 => h2) (fun _ h => h.elim); subst hA1; refine (opJoined_any A1 3 c1 [s, hx, sd] _ sl (by decide) JB.out (by decide)).mono ?_; rintro e w9 ⟨rfl, hb⟩; replace FR := Lib.hid (FR.out.fut hb); clear hb))
        go_ret
        exact ⟨by rw [HV.out] <;> rfl, FR.out.out⟩
      · replace SV := Lib.hid (show strsO ⟨k, n, d, l⟩ = [s, sn] from SV.out.trans rfl)
        rw [SV.out] at HV
        have JB := Lib.hid (show (joinB [s, sn]).size ≤ 140737488355328 by have h := joinB_size [s, sn]; have := WS.out; have := HZ.out; have := SD.out; have := SN.out; simp only [List.map_cons, List.map_nil, List.sum_cons, List.sum_nil] at h; omega)
        go_wp2_with (first | (go_at_call 22; refine (DN.out _ (HL.out.fut FR.out.out)).mono ?_; rintro e w7 ⟨rfl, hb⟩; replace FR := Lib.hid (FR.out.fut hb); replace BN := Lib.hid (BN.out.fut hb); replace BT := Lib.hid (BT.out.fut hb); replace OW := Lib.hid (OW.out.below hb (Nat.le_refl _) (fun _ h => h.elim)); clear hb; have k1 := BN.out.cell 1; have k2 := BN.out.cell 2; have k3 := BN.out.cell 3; simp only [List.getElem?_toArray, List.getElem?_cons_succ, List.getElem?_cons_zero] at k1 k2 k3; have a0 := BT.out.cell 0; have a1 := BT.out.cell 1; have a2 := BT.out.cell 2; simp only [List.getElem?_toArray, List.getElem?_cons_succ, List.getElem?_cons_zero] at a0 a1 a2) | (at_builtin; refine wpList_push (t := tStr) rfl _ _ rfl ei_str (v := u3) (n := 1) (l := [s]) rfl OW.out 1 rfl sn ⟨rfl, by unfold maxLen; have := SN.out; omega⟩ (by decide) (by decide) (by have := BN.out.lt; omega) (fun _ h => h.elim) ?_; intro v6 w8 o6 g6 at6; have hne6 : some g ≠ u3.ownBlock := fun e => NE.out e.symm; replace FR := Lib.hid (show Far w w8 from ⟨FR.out.out.grown g6 FR.out.out.size (fun k h => by have := (OW.out.lt k h).1; omega)⟩); replace NE := Lib.hid (show v6.ownBlock ≠ some g from fun e => by (rcases at6 with q | q; exact NE.out (q.symm.trans e); rw [q] at e; have e2 := Option.some.inj e; have := BT.out.lt; omega)); replace BN := Lib.hid (BN.out.rowR g6 (fun e => by have := (OW.out.lt _ e.symm).1; omega)); replace BT := Lib.hid (BT.out.rowR g6 (fun e => hne6 e)); replace OW := Lib.hid o6; clear o6 g6 at6 hne6; have k1 := BN.out.cell 1; have k2 := BN.out.cell 2; have k3 := BN.out.cell 3; simp only [List.getElem?_toArray, List.getElem?_cons_succ, List.getElem?_cons_zero] at k1 k2 k3; have a0 := BT.out.cell 0; have a1 := BT.out.cell 1; have a2 := BT.out.cell 2; simp only [List.getElem?_toArray, List.getElem?_cons_succ, List.getElem?_cons_zero] at a0 a1 a2) | (go_at_call 32; obtain ⟨A1, c1, hA1, sl⟩ := OW.out.sl (S' := blo _) (by decide) (fun b h1 h2 => h2) (fun _ h => h.elim); subst hA1; refine (opJoined_any A1 2 c1 [s, sn] _ sl (by decide) JB.out (by decide)).mono ?_; rintro e w9 ⟨rfl, hb⟩; replace FR := Lib.hid (FR.out.fut hb); clear hb))
        go_ret
        exact ⟨by rw [HV.out] <;> rfl, FR.out.out⟩
      · replace SV := Lib.hid (show strsO ⟨k, n, d, l⟩ = [s] from SV.out.trans rfl)
        rw [SV.out] at HV
        have JB := Lib.hid (show (joinB [s]).size ≤ 140737488355328 by have h := joinB_size [s]; have := WS.out; have := HZ.out; have := SD.out; have := SN.out; simp only [List.map_cons, List.map_nil, List.sum_cons, List.sum_nil] at h; omega)
        go_wp2_with (first | (go_at_call 32; obtain ⟨A1, c1, hA1, sl⟩ := OW.out.sl (S' := blo _) (by decide) (fun b h1 h2 => h2) (fun _ h => h.elim); subst hA1; refine (opJoined_any A1 1 c1 [s] _ sl (by decide) JB.out (by decide)).mono ?_; rintro e w9 ⟨rfl, hb⟩; replace FR := Lib.hid (FR.out.fut hb); clear hb))
        go_ret
        exact ⟨by rw [HV.out] <;> rfl, FR.out.out⟩
end Go.Proofs.YthnhknomjepijaaDoor
