/-
  Bytes in writing (layer 44), as plain lists: Hex and Unhex.
  Conditions: none (plain lemmas).
-/
import Derived.Test.YthnhknomjepijaaDoorOwn
import Derived.Laws.BytesArg
namespace Go.Proofs.YthnhknomjepijaaDoor
set_option linter.unusedVariables false
set_option linter.unusedSimpArgs false
open Go Go.RowKit

/-- A string's bytes as numbers. -/
def nums (s : ByteArray) : List Int := s.data.toList.map fun b => (b.toNat : Int)
theorem nums_len (s : ByteArray) : (nums s).length = s.size := by unfold nums; rw [List.length_map]; exact Array.length_toList
theorem str_nums (s : ByteArray) : strOfNums (nums s) = s := by
  obtain ⟨⟨l⟩⟩ := s
  unfold strOfNums nums
  rw [List.map_map]
  have : (l.map ((fun n : Int => UInt8.ofNat n.toNat) ∘ fun b : UInt8 => (b.toNat : Int))) = l := by
    conv => rhs; rw [← List.map_id l]
    apply List.map_congr_left
    intro b _
    simp only [Function.comp_apply, id_eq, Int.toNat_natCast]
    exact UInt8.ofNat_toNat
  rw [this]
theorem nums_in {s : ByteArray} {x : Int} (h : x ∈ nums s) : 0 ≤ x ∧ x ≤ 255 := by
  unfold nums at h
  obtain ⟨b, _, rfl⟩ := List.mem_map.1 h
  have := b.toNat_lt
  omega
theorem nums_str {l : List Int} (h : ∀ x ∈ l, 0 ≤ x ∧ x ≤ 255) : nums (strOfNums l) = l := by
  unfold nums strOfNums
  simp only [List.map_map]
  conv => rhs; rw [← List.map_id l]
  apply List.map_congr_left
  intro x hx
  obtain ⟨h1, h2⟩ := h x hx
  simp only [Function.comp_apply, id_eq]
  rw [UInt8.toNat_ofNat', Nat.mod_eq_of_lt (by omega)]
  omega
theorem nums_inj {s t : ByteArray} (h : nums s = nums t) : s = t := by rw [← str_nums s, h, str_nums]
theorem nums_at {s : ByteArray} {k : Nat} (h : k < s.size) : ((s[k]'h).toNat : Int) = (nums s).getD k 0 := by
  obtain ⟨⟨l⟩⟩ := s
  have hl : k < l.length := by simpa [ByteArray.size] using h
  rw [List.getD_eq_getElem?_getD]
  unfold nums
  rw [List.getElem?_map, List.getElem?_eq_getElem (by simpa using hl)]
  rfl
theorem numsI {s : ByteArray} (k : Nat) : 0 ≤ (nums s).getD k 0 ∧ (nums s).getD k 0 ≤ 255 := by
  rw [List.getD_eq_getElem?_getD]
  cases q : (nums s)[k]? with
  | none => exact ⟨by decide, by decide⟩
  | some x => exact nums_in (List.mem_of_getElem? q)

/-- A digit of 16. -/
def hexC (v : Int) : Int := if v < 10 then 48 + v else 87 + v
def hexN (l : List Int) : List Int := l.flatMap fun v => [hexC (v / 16), hexC (v % 16)]
def hexB (l : List Int) : List Int := if l.length = 0 then [45] else hexN l
theorem hexN_snoc (l : List Int) (v : Int) : hexN (l ++ [v]) = hexN l ++ [hexC (v / 16), hexC (v % 16)] := by unfold hexN; rw [List.flatMap_append]; rfl
theorem hexN_len (l : List Int) : (hexN l).length = 2 * l.length := by
  induction l with
  | nil => rfl
  | cons v l ih => show (hexC _ :: hexC _ :: hexN l).length = _; simp only [List.length_cons, ih]; omega
theorem hexC_in {v : Int} (h : 0 ≤ v ∧ v < 16) : 0 ≤ hexC v ∧ hexC v ≤ 255 ∧ InK .u8 (hexC v) := by unfold hexC; rw [inK_u8]; split <;> omega
theorem hexN_in {l : List Int} (h : ∀ x ∈ l, 0 ≤ x ∧ x ≤ 255) : ∀ x ∈ hexN l, 0 ≤ x ∧ x ≤ 255 := by
  intro x hx
  unfold hexN at hx
  obtain ⟨v, hv, hx⟩ := List.mem_flatMap.1 hx
  have := h v hv
  simp only [List.mem_cons, List.not_mem_nil, or_false] at hx
  rcases hx with rfl | rfl
  · have := hexC_in (v := v / 16) (by omega); omega
  · have := hexC_in (v := v % 16) (by omega); omega
theorem hexB_in {l : List Int} (h : ∀ x ∈ l, 0 ≤ x ∧ x ≤ 255) : ∀ x ∈ hexB l, 0 ≤ x ∧ x ≤ 255 := by
  unfold hexB
  split
  · intro x hx; simp only [List.mem_singleton] at hx; omega
  · exact hexN_in h

/-- A digit's value; -1: it is none. -/
def digI (c : Int) : Int := if 48 ≤ c ∧ c ≤ 57 then c - 48 else if 97 ≤ c ∧ c ≤ 102 then c - 87 else -1
theorem digI_lt (c : Int) : -1 ≤ digI c ∧ digI c < 16 := by unfold digI; split; omega; split <;> omega
theorem digI_hexC {v : Int} (h : 0 ≤ v ∧ v < 16) : digI (hexC v) = v := by unfold digI hexC; split <;> split <;> omega
theorem hexC_digI {c : Int} (h : 0 ≤ digI c) : hexC (digI c) = c ∧ digI c < 16 := by
  unfold digI at *
  unfold hexC
  split at h
  · rename_i q; rw [if_pos q]; refine ⟨?_, by omega⟩; rw [if_pos (by omega)]; omega
  · split at h
    · rename_i q1 q; rw [if_neg q1, if_pos q]; refine ⟨?_, by omega⟩; rw [if_neg (by omega)]; omega
    · omega
/-- The first k pairs of digits. -/
def unhexK (l : List Int) : Nat → Option (List Int)
  | 0 => some []
  | k + 1 => match unhexK l k with
    | some o => if digI (l.getD (2 * k) 0) < 0 ∨ digI (l.getD (2 * k + 1) 0) < 0 then none else some (o ++ [16 * digI (l.getD (2 * k) 0) + digI (l.getD (2 * k + 1) 0)])
    | none => none
def unhexB (l : List Int) : Option (List Int) := if l = [45] then some [] else if l.length = 0 ∨ l.length % 2 = 1 then none else unhexK l (l.length / 2)
theorem unhexK_none {l : List Int} {k : Nat} (h : unhexK l k = none) : ∀ m, k ≤ m → unhexK l m = none
  | 0, hm => by obtain rfl : k = 0 := by omega
                exact h
  | m + 1, hm => by
    by_cases e : k = m + 1
    · subst e; exact h
    · show (match unhexK l m with | some o => _ | none => none) = none
      rw [unhexK_none h m (by omega)]
theorem unhexK_some {l : List Int} : ∀ {k : Nat} {o : List Int}, unhexK l k = some o → 2 * k ≤ l.length → hexN o = l.take (2 * k) ∧ o.length = k ∧ ∀ x ∈ o, 0 ≤ x ∧ x ≤ 255
  | 0, o, h, _ => by obtain rfl := Option.some.inj (show some [] = some o from h); exact ⟨rfl, rfl, fun x hx => by cases hx⟩
  | k + 1, o, h, hl => by
    have h : (match unhexK l k with | some o => if digI (l.getD (2 * k) 0) < 0 ∨ digI (l.getD (2 * k + 1) 0) < 0 then none else some (o ++ [16 * digI (l.getD (2 * k) 0) + digI (l.getD (2 * k + 1) 0)]) | none => none) = some o := h
    cases q : unhexK l k with
    | none => rw [q] at h; cases h
    | some o1 =>
      rw [q] at h
      have h : (if digI (l.getD (2 * k) 0) < 0 ∨ digI (l.getD (2 * k + 1) 0) < 0 then none else some (o1 ++ [16 * digI (l.getD (2 * k) 0) + digI (l.getD (2 * k + 1) 0)])) = some o := h
      split at h
      · cases h
      · rename_i g
        obtain rfl := Option.some.inj h
        obtain ⟨i1, i2, i3⟩ := unhexK_some q (by omega)
        have a := hexC_digI (c := l.getD (2 * k) 0) (by omega)
        have b := hexC_digI (c := l.getD (2 * k + 1) 0) (by omega)
        have g1 : l[2 * k]? = some (l.getD (2 * k) 0) := by rw [List.getD_eq_getElem?_getD, List.getElem?_eq_getElem (by omega)]; rfl
        have g2 : l[2 * k + 1]? = some (l.getD (2 * k + 1) 0) := by rw [List.getD_eq_getElem?_getD, List.getElem?_eq_getElem (by omega)]; rfl
        obtain ⟨x, hx⟩ : ∃ x, digI (l.getD (2 * k) 0) = x := ⟨_, rfl⟩
        obtain ⟨y, hy⟩ : ∃ x, digI (l.getD (2 * k + 1) 0) = x := ⟨_, rfl⟩
        rw [hx] at a g
        rw [hy] at b g
        rw [hx, hy]
        refine ⟨?_, by simp [i2], ?_⟩
        · rw [hexN_snoc, i1, show (16 * x + y) / 16 = x by omega, show (16 * x + y) % 16 = y by omega, a.1, b.1, show 2 * (k + 1) = 2 * k + 1 + 1 by omega, take_snoc l _ _ g2, take_snoc l _ _ g1]
          simp
        · intro z hz
          rcases List.mem_append.1 hz with hz | hz
          · exact i3 z hz
          · rw [List.mem_singleton.1 hz]; omega
/-- What was read of a text is written so. -/
theorem unhexB_some {l o : List Int} (h : unhexB l = some o) : hexB o = l ∧ ∀ x ∈ o, 0 ≤ x ∧ x ≤ 255 := by
  unfold unhexB at h
  split at h
  · rename_i e; obtain rfl := Option.some.inj h; exact ⟨e.symm, fun x hx => by cases hx⟩
  · split at h
    · cases h
    · rename_i e q
      obtain ⟨i1, i2, i3⟩ := unhexK_some h (by omega)
      refine ⟨?_, i3⟩
      unfold hexB
      rw [if_neg (by omega), i1, List.take_of_length_le (by omega)]
theorem hexN_getD : ∀ (l : List Int) (k : Nat), k < l.length → (hexN l).getD (2 * k) 0 = hexC (l.getD k 0 / 16) ∧ (hexN l).getD (2 * k + 1) 0 = hexC (l.getD k 0 % 16)
  | [], k, h => by cases h
  | v :: l, 0, _ => ⟨rfl, rfl⟩
  | v :: l, k + 1, h => by
    have := hexN_getD l k (by simpa using h)
    exact this
theorem unhexK_hexN {l : List Int} (h : ∀ x ∈ l, 0 ≤ x ∧ x ≤ 255) : ∀ k, k ≤ l.length → unhexK (hexN l) k = some (l.take k)
  | 0, _ => rfl
  | k + 1, hk => by
    obtain ⟨g1, g2⟩ := hexN_getD l k (by omega)
    have hx : l[k]? = some (l.getD k 0) := by rw [List.getD_eq_getElem?_getD, List.getElem?_eq_getElem (by omega)]; rfl
    have hv := h _ (List.mem_of_getElem? hx)
    show (match unhexK (hexN l) k with | some o => _ | none => none) = _
    rw [unhexK_hexN h k (by omega)]
    simp only
    rw [g1, g2, digI_hexC (by omega), digI_hexC (by omega), if_neg (by omega), take_snoc l k _ hx]
    congr 3; omega
theorem hexN_ne (l : List Int) (h : l.length ≠ 0) : hexN l ≠ [45] := by
  intro e
  have := hexN_len l
  rw [e] at this
  simp at this
  omega
/-- What is written is read again. -/
theorem unhexB_hexB {l : List Int} (h : ∀ x ∈ l, 0 ≤ x ∧ x ≤ 255) : unhexB (hexB l) = some l := by
  unfold hexB
  by_cases e : l.length = 0
  · rw [if_pos e, List.eq_nil_of_length_eq_zero e]; rfl
  · rw [if_neg e]
    unfold unhexB
    rw [if_neg (hexN_ne l e), if_neg (by rw [hexN_len]; omega), hexN_len, show 2 * l.length / 2 = l.length by omega, unhexK_hexN h _ (Nat.le_refl _), List.take_length]
end Go.Proofs.YthnhknomjepijaaDoor
