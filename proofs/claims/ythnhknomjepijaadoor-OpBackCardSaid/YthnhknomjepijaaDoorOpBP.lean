/-
  A text of ops (layer 44): what was written comes back, in plain lists.
  Conditions: none (plain lemmas).
-/
import Derived.Test.YthnhknomjepijaaDoorOpZ
namespace Go.Proofs.YthnhknomjepijaaDoor
set_option linter.unusedVariables false
set_option linter.unusedSimpArgs false
set_option maxRecDepth 10000
open Go Go.RowKit Go.ChangeShapes Go.WideShapes

def rightsL (l : List Opd) : List Opd := l.filter fun o => rightO o
def textB (l : List Opd) : List UInt8 := (rightsL l).flatMap fun o => (lineO o).data.toList ++ [10]

theorem join_mem {l : List (List UInt8)} {x : UInt8} (h : x ∈ Lib.join l [32]) : x = 32 ∨ ∃ a ∈ l, x ∈ a := by
  cases l with
  | nil => cases h
  | cons a r =>
    rw [Lib.join_cons] at h
    rcases List.mem_append.1 h with h | h
    · exact .inr ⟨a, List.mem_cons_self .., h⟩
    · unfold Lib.joinTail at h
      obtain ⟨b, hb, hx⟩ := List.mem_flatten.1 h
      obtain ⟨c, hc, rfl⟩ := List.mem_map.1 hb
      rcases List.mem_append.1 hx with hx | hx
      · exact .inl (List.mem_singleton.1 hx)
      · exact .inr ⟨c, List.mem_cons_of_mem _ hc, hx⟩
theorem dec_ge : ∀ (u : Nat), ∀ x ∈ Lib.decDigits u, 48 ≤ x := by
  intro u
  induction u using Nat.strongRecOn with
  | ind u ih =>
    intro x hx
    have key : ∀ d, d < 10 → (48 : UInt8) ≤ UInt8.ofNat (48 + d) := by decide
    by_cases h : u < 10
    · rw [dec_small h, List.mem_singleton] at hx
      subst hx
      exact key u h
    · rw [dec_step h] at hx
      rcases List.mem_append.1 hx with hx | hx
      · exact ih (u / 10) (by omega) x hx
      · rw [List.mem_singleton] at hx
        subst hx
        exact key _ (Nat.mod_lt _ (by decide))
theorem itoa_ge (n : Int) : ∀ x ∈ Lib.itoa n, 45 ≤ x := by
  have key : ∀ y : UInt8, 48 ≤ y → 45 ≤ y := fun y h => by rw [UInt8.le_iff_toNat_le] at h ⊢; exact Nat.le_trans (by decide) h
  intro x hx
  unfold Lib.itoa at hx
  split at hx
  · rcases List.mem_cons.1 hx with rfl | hx
    · decide
    · exact key _ (dec_ge _ x hx)
  · exact key _ (dec_ge _ x hx)
theorem strOf_ge {l : List Int} (h : ∀ v ∈ l, v = 45 ∨ (48 ≤ v ∧ v ≤ 102)) : ∀ x ∈ (strOfNums l).data.toList, 45 ≤ x := by
  intro x hx
  have hm : ((x.toNat : Nat) : Int) ∈ nums (strOfNums l) := by
    unfold nums
    exact List.mem_map.2 ⟨x, hx, rfl⟩
  rw [nums_str (fun v hv => by have := h v hv; omega)] at hm
  have := h _ hm
  rw [UInt8.le_iff_toNat_le]
  show 45 ≤ x.toNat
  omega
theorem word_ge (k : Int) : ∀ x ∈ (wordB k).data.toList, 45 ≤ x := by
  unfold wordB
  repeat' split
  all_goals decide
theorem strs_ge {o : Opd} (h : OkO o) : ∀ p ∈ strsO o, ∀ x ∈ p.data.toList, 45 ≤ x := by
  intro p hp
  unfold strsO at hp
  rcases List.mem_cons.1 hp with rfl | hp
  · exact word_ge _
  rcases List.mem_append.1 hp with hp | hp
  · split at hp
    · rw [List.mem_singleton] at hp
      subst hp
      exact strOf_ge (hexB_ne h.2.2)
    · cases hp
  rcases List.mem_append.1 hp with hp | hp
  · split at hp
    · rw [List.mem_singleton] at hp
      subst hp
      exact itoa_ge _
    · cases hp
  · split at hp
    · rw [List.mem_singleton] at hp
      subst hp
      exact itoa_ge _
    · cases hp
theorem line_ne {o : Opd} (h : OkO o) : ∀ x ∈ (lineO o).data.toList, x ≠ 10 := by
  intro x hx e
  subst e
  unfold lineO at hx
  split at hx
  · have hx : (10 : UInt8) ∈ Lib.join ((strsO o).map (·.data.toList)) [32] := by
      have e : (joinB (strsO o)).data.toList = Lib.join ((strsO o).map (·.data.toList)) [32] := rfl
      rw [← e]; exact hx
    rcases join_mem hx with e | ⟨a, ha, hx⟩
    · cases e
    · obtain ⟨p, hp, rfl⟩ := List.mem_map.1 ha
      have := strs_ge h p hp _ hx
      exact absurd this (by decide)
  · cases hx
theorem line_head {o : Opd} (h : rightO o = true) : ∃ c r, (lineO o).data.toList = c :: r ∧ c ≠ 35 := by
  unfold lineO
  rw [if_pos h]
  show ∃ c r, Lib.join ((strsO o).map (·.data.toList)) [32] = c :: r ∧ c ≠ 35
  unfold strsO
  rw [List.map_cons, Lib.join_cons]
  obtain hk | hk | hk | hk | hk | hk := right_kind h <;> rw [hk]
  all_goals exact ⟨_, _, rfl, by decide⟩
theorem silL_cons {x : ByteArray} {c : UInt8} {r : List UInt8} (h : x.data.toList = c :: r) (hc : c ≠ 35) : silL x = false := by
  have hl : x.data.toList.length = x.size := lenSz x
  have hp : 0 < x.size := by rw [← hl, h]; simp
  refine sil_not hp fun e => hc ?_
  have h2 : x.data.toList[0]? = some c := by rw [h]; rfl
  have h3 : x.data.toList[0]? = some (x[0]'hp) := by rw [Array.getElem?_toList]; exact Array.getElem?_eq_getElem hp
  rw [h3] at h2
  rw [← Option.some.inj h2]; exact e
theorem line_cut {o : Opd} (h : rightO o = true) (ok : OkO o) : docV (cutS (lineO o) 32) = some o := by
  have : lineO o = joinB (strsO o) := if_pos h
  rw [this, cut_line ok]
  exact doc_strs h ok
theorem split_text : ∀ {l : List Opd}, (∀ o ∈ l, OkO o) → splitL 10 (textB l) = (rightsL l).map (fun o => (lineO o).data.toList) ++ [[]]
  | [], _ => rfl
  | o :: l, h => by
    have ih := split_text (l := l) fun p hp => h p (List.mem_cons_of_mem _ hp)
    by_cases hr : rightO o = true
    · have e : rightsL (o :: l) = o :: rightsL l := by unfold rightsL; rw [List.filter_cons, if_pos hr]
      have e2 : textB (o :: l) = (lineO o).data.toList ++ 10 :: textB l := by
        unfold textB; rw [e, List.flatMap_cons, List.append_assoc]; rfl
      rw [e, e2, split_app (line_ne (h o (List.mem_cons_self ..))), ih]
      rfl
    · have e : rightsL (o :: l) = rightsL l := by unfold rightsL; rw [List.filter_cons, if_neg hr]
      have e2 : textB (o :: l) = textB l := by unfold textB; rw [e]
      rw [e, e2, ih]
theorem split_mem {c : UInt8} : ∀ {l : List UInt8} {a : List UInt8}, a ∈ splitL c l → ∀ x ∈ a, x ≠ c
  | [], a, h, x, hx => by
    unfold splitL at h
    rw [List.mem_singleton] at h
    subst h
    cases hx
  | y :: l, a, h, x, hx => by
    unfold splitL at h
    split at h
    · rcases List.mem_cons.1 h with rfl | h
      · cases hx
      · exact split_mem h x hx
    · rename_i hy
      split at h
      · rename_i u t q
        rcases List.mem_cons.1 h with rfl | h
        · rcases List.mem_cons.1 hx with rfl | hx
          · exact hy
          · exact split_mem (l := l) (by rw [q]; exact List.mem_cons_self ..) x hx
        · exact split_mem (l := l) (by rw [q]; exact List.mem_cons_of_mem _ h) x hx
      · rename_i q
        rw [List.mem_singleton] at h
        subst h
        rw [List.mem_singleton] at hx
        subst hx
        exact hy
theorem cutS_ne {s x : ByteArray} (h : x ∈ cutS s 10) : ∀ y ∈ x.data.toList, y ≠ 10 := by
  have e := cutS_split s 10
  rw [show (((10 : UInt8).toNat : Nat) : Int) = 10 from rfl] at e
  exact split_mem (l := s.data.toList) (by rw [← e]; exact List.mem_map.2 ⟨x, h, rfl⟩)
/-- The text that is read back: a note, an empty line, the ops' lines. -/
def backT (plain : ByteArray) (t : List UInt8) : ByteArray := ⟨#[35]⟩ ++ plain ++ ⟨#[10, 10]⟩ ++ ⟨t.toArray⟩
theorem back_lines {plain : ByteArray} {l : List Opd} (hp : ∀ y ∈ plain.data.toList, y ≠ 10) (h : ∀ o ∈ l, OkO o) :
    ∃ a, silL a = true ∧ cutS (backT plain (textB l)) 10 = a :: ⟨#[]⟩ :: ((rightsL l).map lineO ++ [⟨#[]⟩]) := by
  refine ⟨⟨(35 :: plain.data.toList).toArray⟩, ?_, ?_⟩
  · exact sil_hash (by show 0 < (35 :: plain.data.toList).toArray.size; simp) rfl
  · apply map_inj
    have e := cutS_split (backT plain (textB l)) 10
    rw [show (((10 : UInt8).toNat : Nat) : Int) = 10 from rfl] at e
    rw [e]
    have e2 : (backT plain (textB l)).data.toList = (35 :: plain.data.toList) ++ 10 :: ([] ++ 10 :: textB l) := by
      unfold backT
      rw [ByteArray.data_append, ByteArray.data_append, ByteArray.data_append]
      simp
    rw [e2, split_app (fun x hx => (by rcases List.mem_cons.1 hx with rfl | hx; decide; exact hp x hx)), split_app (fun x hx => by cases hx), split_text h]
    simp [Function.comp_def]
theorem back_ops {ls : List ByteArray} {a : ByteArray} {l : List Opd} (h : ∀ o ∈ l, OkO o) (ha : silL a = true) (e : ls = a :: ⟨#[]⟩ :: ((rightsL l).map lineO ++ [⟨#[]⟩])) : opsOf ls = rightsL l ∧ allGood ls ls.length := by
  have s0 : silL ⟨#[]⟩ = true := by decide
  have hr : ∀ o ∈ rightsL l, rightO o = true ∧ OkO o := fun o ho => ⟨(List.mem_filter.1 ho).2, h o (List.mem_filter.1 ho).1⟩
  have one : ∀ o, rightO o = true ∧ OkO o → silL (lineO o) = false ∧ docV (cutS (lineO o) 32) = some o := fun o ho => by
    obtain ⟨c, r, h1, h2⟩ := line_head ho.1
    exact ⟨silL_cons h1 h2, line_cut ho.1 ho.2⟩
  subst e
  constructor
  · unfold opsOf
    rw [List.filterMap_cons, ha, List.filterMap_cons, s0, List.filterMap_append]
    have : ∀ m : List Opd, (∀ o ∈ m, rightO o = true ∧ OkO o) → (m.map lineO).filterMap (fun x => if silL x = true then none else docV (cutS x 32)) = m := by
      intro m
      induction m with
      | nil => intro _; rfl
      | cons o m ih =>
        intro hm
        obtain ⟨h1, h2⟩ := one o (hm o (List.mem_cons_self ..))
        rw [List.map_cons, List.filterMap_cons, h1, h2, ih fun p hp => hm p (List.mem_cons_of_mem _ hp)]
        rfl
    rw [this _ hr]
    simp [s0]
  · intro j x _ hx
    have hm := List.mem_of_getElem? hx
    rcases List.mem_cons.1 hm with rfl | hm
    · exact good_sil ha
    rcases List.mem_cons.1 hm with rfl | hm
    · exact good_sil s0
    rcases List.mem_append.1 hm with hm | hm
    · obtain ⟨o, ho, rfl⟩ := List.mem_map.1 hm
      exact good_some (one o (hr o ho)).2
    · rw [List.mem_singleton] at hm
      subst hm
      exact good_sil s0
theorem textB_none {l : List Opd} {k : Nat} {o : Opd} (h : l[k]? = some o) (hr : rightO o = false) : textB (l.take (k + 1)) = textB (l.take k) ∧ rightsL (l.take (k + 1)) = rightsL (l.take k) := by
  have : rightsL (l.take (k + 1)) = rightsL (l.take k) := by
    rw [take_snoc l k o h]
    unfold rightsL
    rw [List.filter_append]
    simp [hr]
  exact ⟨by unfold textB; rw [this], this⟩
theorem textB_some {l : List Opd} {k : Nat} {o : Opd} (h : l[k]? = some o) (hr : rightO o = true) : textB (l.take (k + 1)) = textB (l.take k) ++ ((lineO o).data.toList ++ [10]) ∧ rightsL (l.take (k + 1)) = rightsL (l.take k) ++ [o] := by
  have : rightsL (l.take (k + 1)) = rightsL (l.take k) ++ [o] := by
    rw [take_snoc l k o h]
    unfold rightsL
    rw [List.filter_append]
    simp [hr]
  exact ⟨by unfold textB; rw [this, List.flatMap_append]; simp, this⟩
theorem line_small {o : Opd} (h1 : InK .i64 o.n) (h2 : InK .i64 o.d) : (lineO o).size ≤ 40000 := by
  unfold lineO
  split
  · rename_i h
    obtain ⟨hl, hw⟩ := right_ways h
    have a := word_size o.kind
    have b := itoa_size h1
    have c := itoa_size h2
    have d := hexB_len o.data
    have e := strOf_size (hexB o.data)
    refine Nat.le_trans (joinB_size _) ?_
    unfold strsO
    rcases hw with ⟨q0, q1, q2⟩ | ⟨q0, q1, q2⟩ | ⟨q0, q1, q2⟩ | ⟨q0, q1, q2⟩ <;> rw [q0, q1, q2] <;> simp <;> omega
  · decide
theorem text_len : ∀ (l : List Opd), (∀ o ∈ l, InK .i64 o.n ∧ InK .i64 o.d) → (textB l).length ≤ l.length * 40001
  | [], _ => Nat.zero_le _
  | o :: l, h => by
    have ih := text_len l fun p hp => h p (List.mem_cons_of_mem _ hp)
    have ho := h o (List.mem_cons_self ..)
    have hs := line_small ho.1 ho.2
    have e : (textB (o :: l)).length ≤ (lineO o).data.toList.length + 1 + (textB l).length := by
      unfold textB rightsL
      rw [List.filter_cons]
      split
      · rw [List.flatMap_cons]; simp; omega
      · omega
    rw [lenSz] at e
    rw [List.length_cons, Nat.add_mul]
    omega
theorem line_empty {o : Opd} (h : rightO o = false) : lineO o = ⟨#[]⟩ := if_neg (by rw [h]; decide)
theorem line_some {o : Opd} (h : rightO o = true) : (lineO o).size ≠ 0 := by
  obtain ⟨c, r, h1, -⟩ := line_head h
  rw [← lenSz, h1]; simp
end Go.Proofs.YthnhknomjepijaaDoor
