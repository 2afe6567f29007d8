/-
  A text cut at a byte, as lists (layer 44): what is cut is joined again, and what is joined is cut again.
  Conditions: none (plain lemmas).
-/
import Derived.Test.YthnhknomjepijaaDoorOpF
import Derived.Lib.Join
namespace Go.Proofs.YthnhknomjepijaaDoor
set_option linter.unusedVariables false
set_option linter.unusedSimpArgs false
open Go

def splitL (c : UInt8) : List UInt8 → List (List UInt8)
  | [] => [[]]
  | x :: r => if x = c then [] :: splitL c r else match splitL c r with
    | h :: t => (x :: h) :: t
    | [] => [[x]]
theorem split_ne (c : UInt8) : ∀ l, splitL c l ≠ []
  | [] => by unfold splitL; simp
  | x :: r => by
    unfold splitL
    split
    · simp
    · split <;> simp
theorem split_app {c : UInt8} {a r : List UInt8} (h : ∀ x ∈ a, x ≠ c) : splitL c (a ++ c :: r) = a :: splitL c r := by
  induction a with
  | nil => show (if c = c then [] :: splitL c r else _) = _; rw [if_pos rfl]
  | cons x a ih =>
    have ih := ih (fun y hy => h y (List.mem_cons_of_mem _ hy))
    show (if x = c then _ else match splitL c (a ++ c :: r) with | h :: t => (x :: h) :: t | [] => [[x]]) = _
    rw [if_neg (h x (List.mem_cons_self ..)), ih]
theorem split_none {c : UInt8} {a : List UInt8} (h : ∀ x ∈ a, x ≠ c) : splitL c a = [a] := by
  induction a with
  | nil => rfl
  | cons x a ih =>
    have ih := ih (fun y hy => h y (List.mem_cons_of_mem _ hy))
    show (if x = c then _ else match splitL c a with | h :: t => (x :: h) :: t | [] => [[x]]) = _
    rw [if_neg (h x (List.mem_cons_self ..)), ih]
theorem split_join {c : UInt8} : ∀ {l : List (List UInt8)}, l ≠ [] → (∀ a ∈ l, ∀ x ∈ a, x ≠ c) → splitL c (Lib.join l [c]) = l
  | [], h, _ => absurd rfl h
  | [a], _, h => by rw [Lib.join_one]; exact split_none (h a (List.mem_cons_self ..))
  | a :: b :: l, _, h => by
    have ih := split_join (c := c) (l := b :: l) (by simp) (fun x hx => h x (List.mem_cons_of_mem _ hx))
    rw [Lib.join_cons] at ih ⊢
    show splitL c (a ++ ([c] ++ b ++ Lib.joinTail [c] l)) = _
    rw [List.append_assoc]
    show splitL c (a ++ c :: (b ++ Lib.joinTail [c] l)) = _
    rw [split_app (h a (List.mem_cons_self ..)), ih]
theorem join_split (c : UInt8) : ∀ l, Lib.join (splitL c l) [c] = l
  | [] => by unfold splitL; rw [Lib.join_one]
  | x :: r => by
    have ih := join_split c r
    unfold splitL
    have hne := split_ne c r
    split
    · rename_i e
      subst e
      cases q : splitL x r with
      | nil => exact absurd q hne
      | cons h t =>
        rw [q, Lib.join_cons] at ih
        rw [Lib.join_cons]
        show [] ++ ([x] ++ h ++ Lib.joinTail [x] t) = _
        rw [List.nil_append, List.append_assoc, ih]; rfl
    · cases q : splitL c r with
      | nil => exact absurd q hne
      | cons h t =>
        rw [q, Lib.join_cons] at ih
        show Lib.join ((x :: h) :: t) [c] = _
        rw [Lib.join_cons, List.cons_append, ih]

theorem ext_list (s : ByteArray) (a b : Nat) : (s.extract a b).data.toList = (s.data.toList.drop a).take (b - a) := by
  rw [ByteArray.data_extract]
  simp [List.take_drop]
theorem getD_list {s : ByteArray} {i : Nat} (h : i < s.size) : (nums s).getD i 0 = (((s[i]'h).toNat : Nat) : Int) := (nums_at h).symm
theorem cutK_split (s : ByteArray) (c : UInt8) : ∀ i, i ≤ s.size →
    splitL c s.data.toList = ((cutK s (c.toNat : Int) i).1.map (·.data.toList)) ++ splitL c (s.data.toList.drop (cutK s (c.toNat : Int) i).2) ∧
    ∀ k (hk : k < s.size), (cutK s (c.toNat : Int) i).2 ≤ k → k < i → s[k]'hk ≠ c
  | 0, _ => ⟨rfl, fun k hk h1 h2 => by omega⟩
  | i + 1, hi => by
    obtain ⟨h1, h2⟩ := cutK_split s c i (by omega)
    have hle := (cutK_le s (c.toNat : Int) i).1
    have his : i < s.size := by omega
    have hlen : s.data.toList.length = s.size := by rw [Array.length_toList]; rfl
    by_cases e : (s[i]'his) = c
    · rw [cutK_hit (by rw [getD_list his, e])]
      refine ⟨?_, fun k hk a b => by simp only at a; omega⟩
      have hd : s.data.toList.drop (cutK s (c.toNat : Int) i).2 = (s.extract (cutK s (c.toNat : Int) i).2 i).data.toList ++ c :: s.data.toList.drop (i + 1) := by
        rw [ext_list]
        have h3 : s.data.toList.drop i = c :: s.data.toList.drop (i + 1) := by
          rw [List.drop_eq_getElem_cons (h := by omega)]
          congr 1
        rw [← h3]
        have := List.take_append_drop (i - (cutK s (c.toNat : Int) i).2) (s.data.toList.drop (cutK s (c.toNat : Int) i).2)
        rw [List.drop_drop, show (cutK s (c.toNat : Int) i).2 + (i - (cutK s (c.toNat : Int) i).2) = i by omega] at this
        exact this.symm
      rw [h1, hd, split_app (fun x hx => ?_)]
      · simp
      · rw [ext_list] at hx
        obtain ⟨k, hk, rfl⟩ := List.mem_iff_getElem.1 hx
        simp only [List.length_take, List.length_drop] at hk
        rw [List.getElem_take, List.getElem_drop]
        exact h2 ((cutK s (c.toNat : Int) i).2 + k) (by omega) (by omega) (by omega)
    · rw [cutK_miss (by rw [getD_list his]; exact fun h => e (UInt8.toNat_inj.1 (by omega)))]
      exact ⟨h1, fun k hk a b => by
        by_cases q : k = i
        · subst q; exact e
        · exact h2 k hk a (by omega)⟩
theorem cutS_split (s : ByteArray) (c : UInt8) : (cutS s (c.toNat : Int)).map (·.data.toList) = splitL c s.data.toList := by
  obtain ⟨h1, h2⟩ := cutK_split s c s.size (Nat.le_refl _)
  have hle := (cutK_le s (c.toNat : Int) s.size).1
  have hlen : s.data.toList.length = s.size := by rw [Array.length_toList]; rfl
  rw [h1]
  unfold cutS
  rw [List.map_append, List.map_singleton, split_none (fun x hx => ?_), ext_list, List.take_of_length_le (by simp [hlen])]
  obtain ⟨k, hk, rfl⟩ := List.mem_iff_getElem.1 hx
  simp only [List.length_drop] at hk
  rw [List.getElem_drop]
  exact h2 _ (by omega) (by omega) (by omega)
end Go.Proofs.YthnhknomjepijaaDoor
