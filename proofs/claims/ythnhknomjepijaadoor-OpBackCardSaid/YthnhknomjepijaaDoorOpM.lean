/-
  Ops (layer 44): op.Parse.
  Conditions: the library's tables lie as they are laid; at most 2^40 bytes.
-/
import Derived.Test.YthnhknomjepijaaDoorOpK
namespace Go.Proofs.YthnhknomjepijaaDoor
set_option linter.unusedVariables false
set_option linter.unusedSimpArgs false
open Go.RowKit Go.ChangeShapes Go.WideShapes
set_option maxRecDepth 100000
set_option maxHeartbeats 4000000

theorem cutK_size {s : ByteArray} {c : Int} : ∀ {i : Nat} {x : ByteArray}, x ∈ (cutK s c i).1 → x.size ≤ s.size
  | 0, x, h => by cases h
  | i + 1, x, h => by
    unfold cutK at h
    split at h
    · rcases List.mem_append.1 h with h | h
      · exact cutK_size h
      · rw [List.mem_singleton] at h
        subst h
        rw [ByteArray.size_extract]; omega
    · exact cutK_size h
theorem cutS_size {s : ByteArray} {c : Int} {x : ByteArray} (h : x ∈ cutS s c) : x.size ≤ s.size := by
  unfold cutS at h
  rcases List.mem_append.1 h with h | h
  · exact cutK_size h
  · rw [List.mem_singleton] at h
    subst h
    rw [ByteArray.size_extract]; omega
theorem numV_getD (l : List UInt8) : InK .i64 ((numV l).getD 0) := by
  cases h : numV l with
  | none => decide
  | some n => exact numV_in h
theorem Sl.fut2 {α : Type} {t : Ty α} {w w' : World} {a b : Nat} {A : Option Addr} {n cap : Nat} {l : List α} (h : Sl t w (bin a b) A n cap l) (hb : Below w.heap.size w w') (hle : b ≤ w.heap.size) : Sl t w' (bin a b) A n cap l := h.below hb (fun _ k => Nat.lt_of_lt_of_le k.2 hle)
theorem Sl.away2 {α : Type} {t : Ty α} {w w' : World} {a b m : Nat} {A : Option Addr} {n cap : Nat} {l : List α} (h : Sl t w (bin a b) A n cap l) (hg : w.grownBy w' (some m)) (hm : m < a ∨ b ≤ m) (hle : b ≤ w.heap.size) : Sl t w' (bin a b) A n cap l :=
  h.keep fun x k => hg.block x (Nat.lt_of_lt_of_le k.2 hle) (fun e => by have := Option.some.inj e; have := k.1; have := k.2; omega)
def op0 : Opd := ⟨0, 0, 0, []⟩
def parseV (s : ByteArray) : Option Opd := if s.size = 0 ∨ lineO (readO (cutS s 32)) ≠ s then none else some (readO (cutS s 32))
def RetP (x : Option Opd) (w : World) (e : Ending) (w' : World) : Prop :=
  ∃ A m cap, e = .returned (.tuple #[.agg #[.int .i64 (x.getD op0).kind, .int .i64 (x.getD op0).n, .int .i64 (x.getD op0).d, .slice A m cap], .int .i64 (if x.isSome then 0 else 41)]) ∧ Sl (tInt .u8) w' (bin w.heap.size w'.heap.size) A m cap (x.getD op0).data ∧ Below w.heap.size w w'

theorem opParse_any (s : ByteArray) (w : World) (hn : s.size ≤ 1099511627776) (hw : LW w) :
    Calls Tryd.prog 8 #[.string s] w (RetP (parseV s) w) := by
  have FR := Lib.hid (Far.refl w)
  have HL := Lib.hid hw
  have HV := Lib.hid (show parseV s = if s.size = 0 ∨ lineO (readO (cutS s 32)) ≠ s then none else some (readO (cutS s 32)) from rfl)
  have WD := Lib.hid (fun w => opWords_any s w hn)
  have CZ := Lib.hid (fun x (h : x ∈ cutS s 32) => Nat.le_trans (cutS_size h) hn)
  have CL := Lib.hid (show 1 ≤ (cutS s 32).length by unfold cutS; rw [List.length_append, List.length_singleton]; omega)
  obtain ⟨r, hr⟩ : ∃ r, parseV s = r := ⟨_, rfl⟩
  obtain ⟨l, hl⟩ : ∃ l, cutS s 32 = l := ⟨_, rfl⟩
  rw [hr] at HV ⊢
  rw [hl] at HV WD CZ CL
  obtain ⟨o, ho⟩ : ∃ o, readO l = o := ⟨_, rfl⟩
  have OD := Lib.hid (show InK .i64 o.d by rw [← ho]; exact numV_getD _)
  have ON := Lib.hid (show InK .i64 o.n by rw [← ho]; exact numV_getD _)
  have HO := Lib.hid ho
  rw [ho] at HV
  clear hr hl ho hw hn
  obtain ⟨w1, hw_w1⟩ : ∃ nw_, w.alloc (.cells #[.int .i64 0, .int .i64 0, .int .i64 0, .slice none 0 0] 24) = nw_ := ⟨_, rfl⟩
  have k_w1 : Below w.heap.size w w1 := by rw [← hw_w1]; exact (Below.refl _ _).alloc (Nat.le_refl _) _
  replace FR := Lib.hid (FR.out.fut k_w1)
  have BR := Lib.hid (show Blk w1 w.heap.size 24 #[.int .i64 0, .int .i64 0, .int .i64 0, .slice none 0 0] by rw [← hw_w1]; exact Blk.now _ _ _ _ rfl)
  clear k_w1
  go_enter Tryd.func8, Tryd.ntmps8
  go_wp2_with fail
  refine (WD.out _).mono ?_
  rintro e w2a ⟨A, n, cap, rfl, sl, hb⟩
  have NE := Lib.hid sl.n_eq
  have SL := Lib.hid (show Sl tStr w2a (blo w2a.heap.size) A n cap l from sl.old)
  replace FR := Lib.hid (FR.out.fut hb)
  replace BR := Lib.hid (BR.out.fut hb)
  clear sl hb
  obtain ⟨w2, rfl⟩ : ∃ x, x = w2a := ⟨_, rfl⟩
  go_wp2_with fail
  refine (opRead_any A n cap l _ SL.out (by have := CL.out; have := NE.out; omega) CZ.out (HL.out.fut FR.out.out)).mono ?_
  rintro e w3 ⟨D, m, cD, rfl, sl, hb⟩
  rw [HO.out] at sl ⊢
  have l1 : w.heap.size < w2.heap.size := BR.out.lt
  have l2 : w2.heap.size ≤ w3.heap.size := hb.size
  have SD := Lib.hid (show Sl (tInt .u8) w3 (bin w2.heap.size w3.heap.size) D m cD o.data from sl)
  replace FR := Lib.hid (FR.out.fut hb)
  replace BR := Lib.hid (BR.out.fut hb)
  clear sl hb SL
  obtain ⟨w4, hw_w4⟩ : ∃ nw_, w3.alloc (.cells #[.int .i64 0, .int .i64 0, .int .i64 0, .slice none 0 0] 24) = nw_ := ⟨_, rfl⟩
  have k_w4 : Below w3.heap.size w3 w4 := by rw [← hw_w4]; exact (Below.refl _ _).alloc (Nat.le_refl _) _
  replace FR := Lib.hid (FR.out.fut k_w4)
  replace BR := Lib.hid (BR.out.fut k_w4)
  replace SD := Lib.hid (SD.out.fut2 k_w4 (Nat.le_refl _))
  have BO := Lib.hid (show Blk w4 w3.heap.size 24 #[.int .i64 0, .int .i64 0, .int .i64 0, .slice none 0 0] by rw [← hw_w4]; exact Blk.now _ _ _ _ rfl)
  clear k_w4
  obtain ⟨v, hv⟩ : ∃ v, lineO o = v := ⟨_, rfl⟩
  rw [hv] at HV
  have HLN := Lib.hid hv
  clear hv
  by_cases c1 : s.size = 0
  · have RV := Lib.hid (show r = none by rw [HV.out, if_pos (.inl c1)])
    obtain rfl := size0 c1
    clear c1
    go_wp2_with (first | (refine wpList_store_all rfl 24 (.tmp 4) (.tmp 7) rfl w3.heap.size #[.int .i64 o.kind, .int .i64 o.n, .int .i64 o.d, .slice D m cD] rfl rfl _ _ BO.out rfl (by kernel_rfl) (by simp [Value.oneCell']) ?_; intro w5 o5 g5; replace FR := Lib.hid (FR.out.away g5 (by omega)); replace BR := Lib.hid (BR.out.away g5 (by omega)); replace SD := Lib.hid (SD.out.away2 g5 (.inr (Nat.le_refl _)) (Nat.le_of_lt BO.out.lt)); replace BO := Lib.hid o5; clear o5 g5 hw_w1 hw_w4; have k0 := BO.out.cell 0; have k1 := BO.out.cell 1; have k2 := BO.out.cell 2; have k3 := BO.out.cell 3; simp only [List.getElem?_toArray, List.getElem?_cons_succ, List.getElem?_cons_zero] at k0 k1 k2 k3) | (refine wpList_store_all rfl 24 (.tmp 2) (.tmp 16) rfl w.heap.size #[.int .i64 0, .int .i64 0, .int .i64 0, .slice none 0 0] rfl rfl _ _ BR.out rfl (by kernel_rfl) (by simp [Value.oneCell']) ?_; intro w9 B9 g9; replace FR := Lib.hid (FR.out.away g9 (Nat.le_refl _)); replace SD := Lib.hid (SD.out.away2 g9 (.inl l1) (Nat.le_of_lt BO.out.lt)); replace BO := Lib.hid (BO.out.away g9 (by omega))))
    refine ret_cell_tmp rfl B9 rfl Tryd.underlying24 (by kernel_rfl) rfl ?_
    rw [RV.out]
    exact ⟨none, 0, 0, rfl, Sl.nil _ _ _, FR.out.out⟩
  have t1 : s.toList.isEmpty = false := sempty_ne c1
  by_cases c2 : v = s
  · have RV := Lib.hid (show r = some o by rw [HV.out, if_neg (fun h => h.elim c1 (fun h => h c2))])
    subst c2
    clear c1
    go_wp2_with (first | (refine wpList_store_all rfl 24 (.tmp 4) (.tmp 7) rfl w3.heap.size #[.int .i64 o.kind, .int .i64 o.n, .int .i64 o.d, .slice D m cD] rfl rfl _ _ BO.out rfl (by kernel_rfl) (by simp [Value.oneCell']) ?_; intro w5 o5 g5; replace FR := Lib.hid (FR.out.away g5 (by omega)); replace BR := Lib.hid (BR.out.away g5 (by omega)); replace SD := Lib.hid (SD.out.away2 g5 (.inr (Nat.le_refl _)) (Nat.le_of_lt BO.out.lt)); replace BO := Lib.hid o5; clear o5 g5 hw_w1 hw_w4; have k0 := BO.out.cell 0; have k1 := BO.out.cell 1; have k2 := BO.out.cell 2; have k3 := BO.out.cell 3; simp only [List.getElem?_toArray, List.getElem?_cons_succ, List.getElem?_cons_zero] at k0 k1 k2 k3) | (refine wpList_load_row rfl 24 (.tmp 4) rfl w3.heap.size rfl _ _ (0, 0) _ BO.out.heap Tryd.underlying24 rfl (by kernel_rfl) ?_) | (go_at_call 12; refine (opLine_any o.kind o.n o.d D m cD o.data _ (SD.out.more (fun b k => Nat.lt_of_lt_of_le k.2 (Nat.le_of_lt BO.out.lt))) ON.out OD.out (HL.out.fut FR.out.out)).mono ?_; rw [show lineO ⟨o.kind, o.n, o.d, o.data⟩ = v from HLN.out]; rintro e w6 ⟨rfl, hb⟩; replace FR := Lib.hid (FR.out.fut hb); replace BR := Lib.hid (BR.out.fut hb); replace SD := Lib.hid (SD.out.fut2 hb (Nat.le_of_lt BO.out.lt)); replace BO := Lib.hid (BO.out.fut hb); clear hb) | (refine wpList_store_all rfl 24 (.tmp 2) (.tmp 17) rfl w.heap.size #[.int .i64 o.kind, .int .i64 o.n, .int .i64 o.d, .slice D m cD] rfl rfl _ _ BR.out rfl (by kernel_rfl) (by simp [Value.oneCell']) ?_; intro w9 B9 g9; replace FR := Lib.hid (FR.out.away g9 (Nat.le_refl _)); replace SD := Lib.hid (SD.out.away2 g9 (.inl l1) (Nat.le_of_lt BO.out.lt)); replace BO := Lib.hid (BO.out.away g9 (by omega))))
    refine ret_cell_tmp rfl B9 rfl Tryd.underlying24 (by kernel_rfl) rfl ?_
    rw [RV.out]
    exact ⟨D, m, cD, rfl, SD.out.more (bin_more (by omega) (Nat.le_of_lt BO.out.lt)), FR.out.out⟩
  · have RV := Lib.hid (show r = none by rw [HV.out, if_pos (.inr c2)])
    have t2 : (v.toList == s.toList) = false := by
      rw [Bool.eq_false_iff]
      intro e
      rw [beq_iff_eq, ByteArray.toList_eq, ByteArray.toList_eq] at e
      exact c2 (WideShapes.bytes_inj e)
    clear c1 c2
    go_wp2_with (first | (refine wpList_store_all rfl 24 (.tmp 4) (.tmp 7) rfl w3.heap.size #[.int .i64 o.kind, .int .i64 o.n, .int .i64 o.d, .slice D m cD] rfl rfl _ _ BO.out rfl (by kernel_rfl) (by simp [Value.oneCell']) ?_; intro w5 o5 g5; replace FR := Lib.hid (FR.out.away g5 (by omega)); replace BR := Lib.hid (BR.out.away g5 (by omega)); replace SD := Lib.hid (SD.out.away2 g5 (.inr (Nat.le_refl _)) (Nat.le_of_lt BO.out.lt)); replace BO := Lib.hid o5; clear o5 g5 hw_w1 hw_w4; have k0 := BO.out.cell 0; have k1 := BO.out.cell 1; have k2 := BO.out.cell 2; have k3 := BO.out.cell 3; simp only [List.getElem?_toArray, List.getElem?_cons_succ, List.getElem?_cons_zero] at k0 k1 k2 k3) | (refine wpList_load_row rfl 24 (.tmp 4) rfl w3.heap.size rfl _ _ (0, 0) _ BO.out.heap Tryd.underlying24 rfl (by kernel_rfl) ?_) | (go_at_call 12; refine (opLine_any o.kind o.n o.d D m cD o.data _ (SD.out.more (fun b k => Nat.lt_of_lt_of_le k.2 (Nat.le_of_lt BO.out.lt))) ON.out OD.out (HL.out.fut FR.out.out)).mono ?_; rw [show lineO ⟨o.kind, o.n, o.d, o.data⟩ = v from HLN.out]; rintro e w6 ⟨rfl, hb⟩; replace FR := Lib.hid (FR.out.fut hb); replace BR := Lib.hid (BR.out.fut hb); replace SD := Lib.hid (SD.out.fut2 hb (Nat.le_of_lt BO.out.lt)); replace BO := Lib.hid (BO.out.fut hb); clear hb) | (refine wpList_store_all rfl 24 (.tmp 2) (.tmp 16) rfl w.heap.size #[.int .i64 0, .int .i64 0, .int .i64 0, .slice none 0 0] rfl rfl _ _ BR.out rfl (by kernel_rfl) (by simp [Value.oneCell']) ?_; intro w9 B9 g9; replace FR := Lib.hid (FR.out.away g9 (Nat.le_refl _)); replace SD := Lib.hid (SD.out.away2 g9 (.inl l1) (Nat.le_of_lt BO.out.lt)); replace BO := Lib.hid (BO.out.away g9 (by omega))))
    refine ret_cell_tmp rfl B9 rfl Tryd.underlying24 (by kernel_rfl) rfl ?_
    rw [RV.out]
    exact ⟨none, 0, 0, rfl, Sl.nil _ _ _, FR.out.out⟩
end Go.Proofs.YthnhknomjepijaaDoor
