/-
  The op of a line (layer 44): the program's way and the document's, as plain functions, are one.
  Conditions: none (plain lemmas).
-/
import Derived.Test.YthnhknomjepijaaDoorOpM
import Derived.Test.YthnhknomjepijaaDoorOpR
import Derived.Test.YthnhknomjepijaaDoorOpD
namespace Go.Proofs.YthnhknomjepijaaDoor
set_option linter.unusedVariables false
set_option linter.unusedSimpArgs false
set_option maxRecDepth 10000
open Go Go.RowKit Go.ChangeShapes Go.WideShapes

def keepR (o : Opd) : Option Opd := if rightO o = true then some o else none
def tryD (j : Int) (l : List ByteArray) : Option Opd :=
  if j = 1 then (if l.length = 2 then (unhexB (nums (l.getD 1 ⟨#[]⟩))).bind fun x => keepR ⟨1, 0, 0, x⟩ else none)
  else if j = 2 then (if l.length = 3 then (unhexB (nums (l.getD 1 ⟨#[]⟩))).bind fun x => (numD (l.getD 2 ⟨#[]⟩).data.toList).bind fun v => keepR ⟨2, 0, v, x⟩ else none)
  else if j ≤ 5 then (if l.length = 2 then (numD (l.getD 1 ⟨#[]⟩).data.toList).bind fun v => keepR ⟨j, v, 0, []⟩ else none)
  else if l.length = 1 then keepR ⟨6, 0, 0, []⟩ else none
def docV (l : List ByteArray) : Option Opd := if kindK (l.getD 0 ⟨#[]⟩) 7 = 0 then none else tryD (kindK (l.getD 0 ⟨#[]⟩) 7) l
def OkO (o : Opd) : Prop := InK .i64 o.n ∧ InK .i64 o.d ∧ ∀ x ∈ o.data, 0 ≤ x ∧ x ≤ 255

theorem kind_word {k : Int} (h : k = 1 ∨ k = 2 ∨ k = 3 ∨ k = 4 ∨ k = 5 ∨ k = 6) : kindK (wordB k) 7 = k := by
  rcases h with rfl | rfl | rfl | rfl | rfl | rfl <;> decide
theorem kind_back (s : ByteArray) : ∀ j, kindK s j = 0 ∨ (wordB (kindK s j) = s ∧ 1 ≤ kindK s j ∧ kindK s j < j)
  | 0 => .inl rfl
  | j + 1 => by
    unfold kindK
    split
    · rename_i h
      exact .inr ⟨h.2, by omega, by omega⟩
    · rcases kind_back s j with h | h
      · exact .inl h
      · exact .inr ⟨h.1, h.2.1, by omega⟩
theorem dec_ne : ∀ (u : Nat), ∀ x ∈ Lib.decDigits u, x ≠ 32 := by
  intro u
  induction u using Nat.strongRecOn with
  | ind u ih =>
    intro x hx e
    have key : ∀ d, d < 10 → UInt8.ofNat (48 + d) ≠ 32 := by decide
    by_cases h : u < 10
    · rw [dec_small h, List.mem_singleton] at hx
      exact key u h (hx.symm.trans e)
    · rw [dec_step h] at hx
      rcases List.mem_append.1 hx with hx | hx
      · exact ih (u / 10) (by omega) x hx e
      · rw [List.mem_singleton] at hx
        exact key _ (Nat.mod_lt _ (by decide)) (hx.symm.trans e)
theorem itoa_ne (n : Int) : ∀ x ∈ Lib.itoa n, x ≠ 32 := by
  intro x hx
  unfold Lib.itoa at hx
  split at hx
  · rcases List.mem_cons.1 hx with rfl | hx
    · decide
    · exact dec_ne _ x hx
  · exact dec_ne _ x hx
theorem hexB_ne {l : List Int} (h : ∀ x ∈ l, 0 ≤ x ∧ x ≤ 255) : ∀ v ∈ hexB l, v = 45 ∨ (48 ≤ v ∧ v ≤ 102) := by
  intro v hv
  unfold hexB at hv
  split at hv
  · exact .inl (List.mem_singleton.1 hv)
  · unfold hexN at hv
    obtain ⟨y, hy, hv⟩ := List.mem_flatMap.1 hv
    have := h y hy
    simp only [List.mem_cons, List.not_mem_nil, or_false] at hv
    unfold hexC at hv
    rcases hv with rfl | rfl <;> right <;> split <;> omega
theorem strOf_ne {l : List Int} (h : ∀ v ∈ l, v = 45 ∨ (48 ≤ v ∧ v ≤ 102)) : ∀ x ∈ (strOfNums l).data.toList, x ≠ 32 := by
  intro x hx e
  subst e
  have hm : (32 : Int) ∈ nums (strOfNums l) := by
    unfold nums
    exact List.mem_map.2 ⟨32, hx, rfl⟩
  rw [nums_str (fun v hv => by have := h v hv; omega)] at hm
  have := h _ hm
  omega
theorem word_ne (k : Int) : ∀ x ∈ (wordB k).data.toList, x ≠ 32 := by
  unfold wordB
  repeat' split
  all_goals decide
theorem strs_ne {o : Opd} (h : OkO o) : ∀ p ∈ strsO o, ∀ x ∈ p.data.toList, x ≠ 32 := by
  intro p hp
  unfold strsO at hp
  rcases List.mem_cons.1 hp with rfl | hp
  · exact word_ne _
  rcases List.mem_append.1 hp with hp | hp
  · split at hp
    · rw [List.mem_singleton] at hp
      subst hp
      exact strOf_ne (hexB_ne h.2.2)
    · cases hp
  rcases List.mem_append.1 hp with hp | hp
  · split at hp
    · rw [List.mem_singleton] at hp
      subst hp
      exact itoa_ne _
    · cases hp
  · split at hp
    · rw [List.mem_singleton] at hp
      subst hp
      exact itoa_ne _
    · cases hp
theorem map_inj {l m : List ByteArray} (h : l.map (·.data.toList) = m.map (·.data.toList)) : l = m := by
  induction l generalizing m with
  | nil => cases m with
    | nil => rfl
    | cons _ _ => cases h
  | cons a l ih => cases m with
    | nil => cases h
    | cons b m =>
      simp only [List.map_cons, List.cons.injEq] at h
      rw [ih h.2]
      obtain ⟨⟨a⟩⟩ := a
      obtain ⟨⟨b⟩⟩ := b
      have : a = b := h.1
      rw [this]
theorem cut_line {o : Opd} (h : OkO o) : cutS (joinB (strsO o)) 32 = strsO o := by
  apply map_inj
  have := cutS_split (joinB (strsO o)) 32
  rw [show (((32 : UInt8).toNat : Nat) : Int) = 32 from rfl] at this
  rw [this]
  show splitL 32 (Lib.join ((strsO o).map (·.data.toList)) [32]) = _
  refine split_join (by unfold strsO; simp) (fun a ha x hx => ?_)
  obtain ⟨p, hp, rfl⟩ := List.mem_map.1 ha
  exact strs_ne h p hp x hx
theorem join_cut (s : ByteArray) : joinB (cutS s 32) = s := by
  have := cutS_split s 32
  rw [show (((32 : UInt8).toNat : Nat) : Int) = 32 from rfl] at this
  show (⟨(Lib.join ((cutS s 32).map (·.data.toList)) [32]).toArray⟩ : ByteArray) = s
  rw [this, join_split]

theorem right_kind {o : Opd} (h : rightO o = true) : o.kind = 1 ∨ o.kind = 2 ∨ o.kind = 3 ∨ o.kind = 4 ∨ o.kind = 5 ∨ o.kind = 6 := by
  unfold rightO at h
  simp only [Bool.and_eq_true, decide_eq_true_eq] at h
  have := h.1.1.1.1
  omega
theorem right_rest {o : Opd} (h : rightO o = true) : (tel0 o.kind = false → o.data = []) ∧ (tel1 o.kind = false → o.d = 0) ∧ (tel2 o.kind = false → o.n = 0) := by
  unfold rightO at h
  simp only [Bool.and_eq_true, Bool.or_eq_true, decide_eq_true_eq] at h
  exact ⟨fun q => List.eq_nil_of_length_eq_zero (h.1.1.2.resolve_left (by rw [q]; decide)), fun q => h.1.2.resolve_left (by rw [q]; decide), fun q => h.2.resolve_left (by rw [q]; decide)⟩
theorem unhex_str {l : List Int} (h : ∀ x ∈ l, 0 ≤ x ∧ x ≤ 255) : unhexB (nums (strOfNums (hexB l))) = some l := by
  rw [nums_str (hexB_in h), unhexB_hexB h]
theorem numV_str {n : Int} (h : InK .i64 n) : numV (⟨(Lib.itoa n).toArray⟩ : ByteArray).data.toList = some n := by
  rw [inK_i64] at h
  exact numV_itoa h.1 h.2
theorem unhex_nil : unhexB (nums ⟨#[]⟩) = none := by decide
theorem numV_nil : (numV ([] : List UInt8)).getD 0 = 0 := by decide
theorem readO_kind {l : List ByteArray} {k : Int} (hk : kindK (l.getD 0 ⟨#[]⟩) 7 = k) : readO l = ⟨k, (numV (nxt l (nxt l (nxt l 1 (tel0 k)).2 (tel1 k)).2 (tel2 k)).1.data.toList).getD 0, (numV (nxt l (nxt l 1 (tel0 k)).2 (tel1 k)).1.data.toList).getD 0, (unhexB (nums (nxt l 1 (tel0 k)).1)).getD []⟩ := by subst hk; rfl
theorem read_strs {o : Opd} (h : rightO o = true) (ok : OkO o) : readO (strsO o) = o := by
  have hk := right_kind h
  obtain ⟨r0, r1, r2⟩ := right_rest h
  obtain ⟨k, n, d, l⟩ := o
  obtain ⟨on, od, ol⟩ := ok
  simp only at hk r0 r1 r2 on od ol
  have e0 := unhex_str ol
  have e1 := numV_str od
  have e2 := numV_str on
  have kw := kind_word hk
  have un : (unhexB (nums ⟨#[]⟩)).getD [] = [] := by rw [unhex_nil]; rfl
  rcases hk with rfl | rfl | rfl | rfl | rfl | rfl
  · obtain rfl := r1 rfl
    obtain rfl := r2 rfl
    rw [show strsO ⟨1, 0, 0, l⟩ = [wordB 1, strOfNums (hexB l)] from rfl, readO_kind (l := [wordB 1, strOfNums (hexB l)]) (k := 1) kw]
    show Opd.mk 1 ((numV ([] : List UInt8)).getD 0) ((numV ([] : List UInt8)).getD 0) ((unhexB (nums (strOfNums (hexB l)))).getD []) = _
    rw [numV_nil, e0]; rfl
  · obtain rfl := r2 rfl
    rw [show strsO ⟨2, 0, d, l⟩ = [wordB 2, strOfNums (hexB l), ⟨(Lib.itoa d).toArray⟩] from rfl, readO_kind (l := [wordB 2, strOfNums (hexB l), ⟨(Lib.itoa d).toArray⟩]) (k := 2) kw]
    show Opd.mk 2 ((numV ([] : List UInt8)).getD 0) ((numV (⟨(Lib.itoa d).toArray⟩ : ByteArray).data.toList).getD 0) ((unhexB (nums (strOfNums (hexB l)))).getD []) = _
    rw [numV_nil, e0, e1]; rfl
  · obtain rfl := r1 rfl
    obtain rfl := r0 rfl
    rw [show strsO ⟨3, n, 0, []⟩ = [wordB 3, ⟨(Lib.itoa n).toArray⟩] from rfl, readO_kind (l := [wordB 3, ⟨(Lib.itoa n).toArray⟩]) (k := 3) kw]
    show Opd.mk 3 ((numV (⟨(Lib.itoa n).toArray⟩ : ByteArray).data.toList).getD 0) ((numV ([] : List UInt8)).getD 0) ((unhexB (nums ⟨#[]⟩)).getD []) = _
    rw [numV_nil, e2, un]; rfl
  · obtain rfl := r1 rfl
    obtain rfl := r0 rfl
    rw [show strsO ⟨4, n, 0, []⟩ = [wordB 4, ⟨(Lib.itoa n).toArray⟩] from rfl, readO_kind (l := [wordB 4, ⟨(Lib.itoa n).toArray⟩]) (k := 4) kw]
    show Opd.mk 4 ((numV (⟨(Lib.itoa n).toArray⟩ : ByteArray).data.toList).getD 0) ((numV ([] : List UInt8)).getD 0) ((unhexB (nums ⟨#[]⟩)).getD []) = _
    rw [numV_nil, e2, un]; rfl
  · obtain rfl := r1 rfl
    obtain rfl := r0 rfl
    rw [show strsO ⟨5, n, 0, []⟩ = [wordB 5, ⟨(Lib.itoa n).toArray⟩] from rfl, readO_kind (l := [wordB 5, ⟨(Lib.itoa n).toArray⟩]) (k := 5) kw]
    show Opd.mk 5 ((numV (⟨(Lib.itoa n).toArray⟩ : ByteArray).data.toList).getD 0) ((numV ([] : List UInt8)).getD 0) ((unhexB (nums ⟨#[]⟩)).getD []) = _
    rw [numV_nil, e2, un]; rfl
  · obtain rfl := r1 rfl
    obtain rfl := r0 rfl
    obtain rfl := r2 rfl
    rw [show strsO ⟨6, 0, 0, []⟩ = [wordB 6] from rfl, readO_kind (l := [wordB 6]) (k := 6) kw]
    show Opd.mk 6 ((numV ([] : List UInt8)).getD 0) ((numV ([] : List UInt8)).getD 0) ((unhexB (nums ⟨#[]⟩)).getD []) = _
    rw [numV_nil, un]
theorem numD_str {n : Int} (h : InK .i64 n) : numD (⟨(Lib.itoa n).toArray⟩ : ByteArray).data.toList = some n := by
  rw [inK_i64] at h
  exact numD_itoa h.1 h.2
theorem doc_strs {o : Opd} (h : rightO o = true) (ok : OkO o) : docV (strsO o) = some o := by
  have hk := right_kind h
  obtain ⟨r0, r1, r2⟩ := right_rest h
  have kp : keepR o = some o := if_pos h
  have k0 : kindK ((strsO o).getD 0 ⟨#[]⟩) 7 = o.kind := kind_word hk
  unfold docV
  rw [k0, if_neg (by omega)]
  obtain ⟨k, n, d, l⟩ := o
  obtain ⟨on, od, ol⟩ := ok
  simp only at hk r0 r1 r2 on od ol
  have e0 := unhex_str ol
  have e1 := numD_str od
  have e2 := numD_str on
  rcases hk with rfl | rfl | rfl | rfl | rfl | rfl
  · obtain rfl := r1 rfl
    obtain rfl := r2 rfl
    show (unhexB (nums (strOfNums (hexB l)))).bind _ = _
    rw [e0]; exact kp
  · obtain rfl := r2 rfl
    show (unhexB (nums (strOfNums (hexB l)))).bind (fun x => (numD (⟨(Lib.itoa d).toArray⟩ : ByteArray).data.toList).bind _) = _
    rw [e0, e1]; exact kp
  · obtain rfl := r1 rfl
    obtain rfl := r0 rfl
    show (numD (⟨(Lib.itoa n).toArray⟩ : ByteArray).data.toList).bind _ = _
    rw [e2]; exact kp
  · obtain rfl := r1 rfl
    obtain rfl := r0 rfl
    show (numD (⟨(Lib.itoa n).toArray⟩ : ByteArray).data.toList).bind _ = _
    rw [e2]; exact kp
  · obtain rfl := r1 rfl
    obtain rfl := r0 rfl
    show (numD (⟨(Lib.itoa n).toArray⟩ : ByteArray).data.toList).bind _ = _
    rw [e2]; exact kp
  · obtain rfl := r1 rfl
    obtain rfl := r0 rfl
    obtain rfl := r2 rfl
    exact kp

theorem list_two {l : List ByteArray} (h : l.length = 2) : l = [l.getD 0 ⟨#[]⟩, l.getD 1 ⟨#[]⟩] := by
  match l, h with
  | [a, b], _ => rfl
theorem list_three {l : List ByteArray} (h : l.length = 3) : l = [l.getD 0 ⟨#[]⟩, l.getD 1 ⟨#[]⟩, l.getD 2 ⟨#[]⟩] := by
  match l, h with
  | [a, b, c], _ => rfl
theorem list_one {l : List ByteArray} (h : l.length = 1) : l = [l.getD 0 ⟨#[]⟩] := by
  match l, h with
  | [a], _ => rfl
theorem keep_some {o o' : Opd} (h : keepR o = some o') : o = o' ∧ rightO o = true := by
  unfold keepR at h
  split at h
  · rename_i q; exact ⟨Option.some.inj h, q⟩
  · cases h
theorem back_str {s : ByteArray} {x : List Int} (h : unhexB (nums s) = some x) : strOfNums (hexB x) = s := by
  rw [(unhexB_some h).1, str_nums]
theorem back_num {s : ByteArray} {v : Int} (h : numD s.data.toList = some v) : (⟨(Lib.itoa v).toArray⟩ : ByteArray) = s ∧ InK .i64 v := by
  obtain ⟨e, h0, h1⟩ := numD_back h
  refine ⟨?_, by rw [inK_i64]; exact ⟨h0, h1⟩⟩
  rw [← e]
theorem tryD_some {k : Int} {l : List ByteArray} {o : Opd} (hk : 1 ≤ k ∧ k ≤ 6) (hw : wordB k = l.getD 0 ⟨#[]⟩) (h : tryD k l = some o) : rightO o = true ∧ OkO o ∧ strsO o = l := by
  unfold tryD at h
  have z : InK .i64 (0 : Int) := by decide
  have nl : ∀ x ∈ ([] : List Int), 0 ≤ x ∧ x ≤ 255 := fun x hx => by cases hx
  split at h
  · rename_i e
    subst e
    split at h
    · rename_i hl
      cases hu : unhexB (nums (l.getD 1 ⟨#[]⟩)) with
      | none => rw [hu] at h; cases h
      | some x =>
        rw [hu] at h
        obtain ⟨rfl, r⟩ := keep_some (show keepR ⟨1, 0, 0, x⟩ = some o from h)
        refine ⟨r, ⟨z, z, (unhexB_some hu).2⟩, ?_⟩
        show [wordB 1, strOfNums (hexB x)] = l
        rw [back_str hu, hw]; exact (list_two hl).symm
    · cases h
  rename_i n1
  split at h
  · rename_i e
    subst e
    split at h
    · rename_i hl
      cases hu : unhexB (nums (l.getD 1 ⟨#[]⟩)) with
      | none => rw [hu] at h; cases h
      | some x =>
        rw [hu] at h
        cases hv : numD (l.getD 2 ⟨#[]⟩).data.toList with
        | none => rw [hv] at h; cases h
        | some v =>
          rw [hv] at h
          obtain ⟨rfl, r⟩ := keep_some (show keepR ⟨2, 0, v, x⟩ = some o from h)
          obtain ⟨b1, b2⟩ := back_num hv
          refine ⟨r, ⟨z, b2, (unhexB_some hu).2⟩, ?_⟩
          show [wordB 2, strOfNums (hexB x), (⟨(Lib.itoa v).toArray⟩ : ByteArray)] = l
          rw [back_str hu, b1, hw]; exact (list_three hl).symm
    · cases h
  rename_i n2
  split at h
  · rename_i e
    split at h
    · rename_i hl
      cases hv : numD (l.getD 1 ⟨#[]⟩).data.toList with
      | none => rw [hv] at h; cases h
      | some v =>
        rw [hv] at h
        obtain ⟨rfl, r⟩ := keep_some (show keepR ⟨k, v, 0, []⟩ = some o from h)
        obtain ⟨b1, b2⟩ := back_num hv
        refine ⟨r, ⟨b2, z, nl⟩, ?_⟩
        have : strsO ⟨k, v, 0, []⟩ = [wordB k, (⟨(Lib.itoa v).toArray⟩ : ByteArray)] := by
          obtain rfl | rfl | rfl : k = 3 ∨ k = 4 ∨ k = 5 := by omega
          · rfl
          · rfl
          · rfl
        rw [this, b1, hw]; exact (list_two hl).symm
    · cases h
  · obtain rfl : k = 6 := by omega
    split at h
    · rename_i hl
      obtain ⟨rfl, r⟩ := keep_some h
      refine ⟨r, ⟨z, z, nl⟩, ?_⟩
      show [wordB 6] = l
      rw [hw]; exact (list_one hl).symm
    · cases h
theorem read_ok (l : List ByteArray) : OkO (readO l) := by
  refine ⟨numV_getD _, numV_getD _, ?_⟩
  show ∀ x ∈ (unhexB _).getD [], _
  cases h : unhexB (nums (nxt l 1 (tel0 (kindK (l.getD 0 ⟨#[]⟩) 7))).1) with
  | none => intro x hx; cases hx
  | some y => exact (unhexB_some h).2
theorem parse_doc (s : ByteArray) : parseV s = docV (cutS s 32) := by
  cases hd : docV (cutS s 32) with
  | some o =>
    have hk := kind_back ((cutS s 32).getD 0 ⟨#[]⟩) 7
    unfold docV at hd
    by_cases k0 : kindK ((cutS s 32).getD 0 ⟨#[]⟩) 7 = 0
    · rw [if_pos k0] at hd; cases hd
    rw [if_neg k0] at hd
    obtain ⟨hw, h1, h7⟩ := hk.resolve_left k0
    obtain ⟨r, ok, hs⟩ := tryD_some ⟨h1, by omega⟩ hw hd
    have hl : lineO o = s := by unfold lineO; rw [if_pos r, hs, join_cut]
    have hr : readO (cutS s 32) = o := by rw [← hs]; exact read_strs r ok
    unfold parseV
    rw [hr, if_neg]
    rintro (h | h)
    · apply k0
      rw [size0 h]
      decide
    · exact h hl
  | none =>
    unfold parseV
    split
    · rfl
    · rename_i q
      exfalso
      have q1 : s.size ≠ 0 := fun h => q (.inl h)
      have q2 : lineO (readO (cutS s 32)) = s := Classical.byContradiction fun h => q (.inr h)
      have r : rightO (readO (cutS s 32)) = true := by
        refine Classical.byContradiction fun h => q1 ?_
        unfold lineO at q2
        rw [if_neg h] at q2
        rw [← q2]; rfl
      have ok := read_ok (cutS s 32)
      have hc := cut_line ok
      have hj : joinB (strsO (readO (cutS s 32))) = s := by unfold lineO at q2; rw [if_pos r] at q2; exact q2
      rw [hj] at hc
      have := doc_strs r ok
      rw [← hc, hd] at this
      cases this
end Go.Proofs.YthnhknomjepijaaDoor
