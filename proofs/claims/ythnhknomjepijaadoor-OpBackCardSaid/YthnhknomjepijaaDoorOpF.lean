/-
  A text cut at some byte (layer 44): the program's words go from rune to rune, the document's Cut from byte to byte.
  Conditions: none (plain lemmas).
-/
import Derived.Test.YthnhknomjepijaaDoorOpP
import Derived.Laws.RangeAny
namespace Go.Proofs.YthnhknomjepijaaDoor
set_option linter.unusedVariables false
set_option linter.unusedSimpArgs false
open Go

/-- The pieces, and where the last begins, behind i bytes. -/
def cutK (s : ByteArray) (c : Int) : Nat → List ByteArray × Nat
  | 0 => ([], 0)
  | i + 1 => if (nums s).getD i 0 = c then ((cutK s c i).1 ++ [s.extract (cutK s c i).2 i], i + 1) else cutK s c i
def cutS (s : ByteArray) (c : Int) : List ByteArray := (cutK s c s.size).1 ++ [s.extract (cutK s c s.size).2 s.size]
theorem cutK_le (s : ByteArray) (c : Int) : ∀ i, (cutK s c i).2 ≤ i ∧ (cutK s c i).1.length ≤ i
  | 0 => ⟨Nat.le_refl _, Nat.le_refl _⟩
  | i + 1 => by
    have ih := cutK_le s c i
    unfold cutK
    split
    · exact ⟨Nat.le_refl _, by simp; omega⟩
    · omega
theorem cutK_hit {s : ByteArray} {c : Int} {i : Nat} (h : (nums s).getD i 0 = c) : cutK s c (i + 1) = ((cutK s c i).1 ++ [s.extract (cutK s c i).2 i], i + 1) := if_pos h
theorem cutK_miss {s : ByteArray} {c : Int} {i : Nat} (h : ¬ (nums s).getD i 0 = c) : cutK s c (i + 1) = cutK s c i := if_neg h
theorem cutK_skip {s : ByteArray} {c : Int} {i : Nat} : ∀ k, (∀ j, j < k → ¬ (nums s).getD (i + j) 0 = c) → cutK s c (i + k) = cutK s c i
  | 0, _ => rfl
  | k + 1, h => by rw [← Nat.add_assoc, cutK_miss (h k (Nat.lt_succ_self k)), cutK_skip k (fun j hj => h j (by omega))]

theorem get_nums {s : ByteArray} {k : Nat} (h : k < s.size) : ((s.get! k).toNat : Int) = (nums s).getD k 0 := by
  rw [← nums_at h]
  have := get_at s k h
  rw [← this]; rfl
/-- The bytes of a rune of more than one byte are great. -/
theorem decode_skip (s : ByteArray) (pos : Nat) (h : pos < s.size) (ha : 128 ≤ (s[pos]'h).toNat) : ∀ j, j < (Utf8.decode s pos).2 → pos + j < s.size ∧ 128 ≤ (nums s).getD (pos + j) 0 := by
  intro j hj
  have hn : ¬ (s[pos]'h).toNat < 128 := by omega
  rcases Nat.eq_zero_or_pos j with rfl | h1
  · exact ⟨h, by rw [Nat.add_zero, ← nums_at h]; omega⟩
  have key : ∀ k, ((decide (pos + k < s.size) && (s.get! (pos + k)).toNat / 64 == 2) = true) → pos + k < s.size ∧ 128 ≤ (nums s).getD (pos + k) 0 := by
    intro k hk
    simp only [Bool.and_eq_true, decide_eq_true_eq, beq_iff_eq] at hk
    refine ⟨hk.1, ?_⟩
    rw [← get_nums hk.1]; omega
  simp only [Utf8.decode, get_at s pos h, hn, if_false] at hj
  split at hj
  · rename_i q
    have q1 := (Bool.and_eq_true _ _ ▸ q : _ ∧ _).2
    split at hj
    · obtain rfl : j = 1 := by simp at hj; omega
      exact key 1 q1
    · simp at hj; omega
  split at hj
  · rename_i q
    simp only [Bool.and_eq_true] at q
    split at hj
    · obtain rfl | rfl : j = 1 ∨ j = 2 := by simp at hj; omega
      · exact key 1 (by simp only [Bool.and_eq_true]; exact q.1.2)
      · exact key 2 (by simp only [Bool.and_eq_true]; exact q.2)
    · simp at hj; omega
  split at hj
  · rename_i q
    simp only [Bool.and_eq_true] at q
    split at hj
    · obtain rfl | rfl | rfl : j = 1 ∨ j = 2 ∨ j = 3 := by simp at hj; omega
      · exact key 1 (by simp only [Bool.and_eq_true]; exact q.1.1.2)
      · exact key 2 (by simp only [Bool.and_eq_true]; exact q.1.2)
      · exact key 3 (by simp only [Bool.and_eq_true]; exact q.2)
    · simp at hj; omega
  · simp at hj; omega

/-- One rune on: what the program's words sees. -/
theorem rune_step (s : ByteArray) (pos : Nat) (h : pos < s.size) : 1 ≤ (Utf8.decode s pos).2 ∧ pos + (Utf8.decode s pos).2 ≤ s.size ∧
    (if (Utf8.decode s pos).1 = 32 then (nums s).getD pos 0 = 32 ∧ (Utf8.decode s pos).2 = 1 else cutK s 32 (pos + (Utf8.decode s pos).2) = cutK s 32 pos) := by
  by_cases ha : (s[pos]'h).toNat < 128
  · rw [decode_ascii s pos h ha]
    refine ⟨Nat.le_refl _, h, ?_⟩
    show if (s[pos]'h).toNat = 32 then _ else _
    split
    · rename_i e
      exact ⟨by rw [← nums_at h, e]; rfl, rfl⟩
    · rename_i e
      exact cutK_miss (by rw [← nums_at h]; omega)
  · have hd := decode_high s pos h (by omega)
    have hs := decode_skip s pos h (by omega)
    refine ⟨hd.2, ?_, ?_⟩
    · have := (hs ((Utf8.decode s pos).2 - 1) (by omega)).1
      omega
    · rw [if_neg (by omega)]
      exact cutK_skip _ (fun j hj => by have := (hs j hj).2; omega)
end Go.Proofs.YthnhknomjepijaaDoor
