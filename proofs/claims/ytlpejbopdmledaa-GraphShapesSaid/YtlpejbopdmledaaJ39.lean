/-
  Who takes each value last (layer 27), in numbers.
  Conditions: none.
  The elements of an []int.
  Conditions: none.
  slices.Clone at []int; rows of numbers that are alike (layer 22's Same).
  Conditions: at most 2^40 numbers (Clone).
-/
import Derived.Test.YtlpejbopdmledaaJ38
import Derived.Test.YtlpejbopdmledaaChecked
import Derived.Test.YtlpejbopdmledaaJ01
namespace Go.Proofs.Ytlpejbopdmledaa
set_option linter.unusedVariables false
set_option linter.unusedSimpArgs false
open Go.RowKit Go.ChangeShapes Go.WideShapes

/-- Node number k takes the value v, and all that it takes is there. -/
def takesB (d : Node) (k : Nat) (v : Int) : Bool := thereV d ((k : Int) + 1) && (decide (d.a = v) || decide (secondV d = v))
/-- Who takes the value v last, of the first k nodes. -/
def lastTo (l : List Node) (v : Int) : Nat → Int
  | 0 => 0
  | k + 1 => if takesB (l.getD k noNode) k v then (k : Int) + 1 else lastTo l v k
def lastV (l : List Node) (v : Int) : Int := if v = l.length then (l.length : Int) + 1 else lastTo l v l.length
theorem lastTo_bd (l : List Node) (v : Int) (k : Nat) : 0 ≤ lastTo l v k ∧ lastTo l v k ≤ k := by
  induction k with
  | zero => exact ⟨Int.le_refl _, Int.le_refl _⟩
  | succ k ih =>
    unfold lastTo
    split <;> omega
/-- The program's row behind k nodes. -/
def lastRow (l : List Node) (n k : Nat) : List Int := (List.range (n + 1)).map fun (v : Nat) => lastTo l (v : Int) k
theorem lastRow_length (l : List Node) (n k : Nat) : (lastRow l n k).length = n + 1 := by simp [lastRow]
theorem lastRow_get (l : List Node) (n k v : Nat) (h : v ≤ n) : (lastRow l n k)[v]? = some (lastTo l (v : Int) k) := by
  unfold lastRow
  rw [List.getElem?_map, List.getElem?_range (by omega)]
  rfl
theorem lastRow_skip {l : List Node} {n k : Nat} {d : Node} (hd : l[k]? = some d) (h : thereV d ((k : Int) + 1) = false) : lastRow l n (k + 1) = lastRow l n k := by
  have e : l.getD k noNode = d := by rw [List.getD_eq_getElem?_getD, hd]; rfl
  unfold lastRow
  apply List.map_congr_left
  intro v _
  show (if takesB (l.getD k noNode) k v then _ else _) = _
  rw [e]
  unfold takesB
  rw [h]
  rfl
theorem lastRow_put {l : List Node} {n k : Nat} {d : Node} (hd : l[k]? = some d) (h : thereV d ((k : Int) + 1) = true) (hk : k < n) :
    lastRow l n (k + 1) = ((lastRow l n k).set d.a.toNat ((k : Int) + 1)).set (secondV d).toNat ((k : Int) + 1) := by
  have e : l.getD k noNode = d := by rw [List.getD_eq_getElem?_getD, hd]; rfl
  obtain ⟨b1, b2, b3, b4⟩ := there_bd h
  apply List.ext_getElem?
  intro v
  rw [List.getElem?_set, List.getElem?_set]
  simp only [List.length_set, lastRow_length]
  by_cases hv : v ≤ n
  · rw [lastRow_get _ _ _ _ hv, lastRow_get _ _ _ _ hv]
    have : lastTo l (v : Int) (k + 1) = if takesB d k v then (k : Int) + 1 else lastTo l (v : Int) k := by
      show (if takesB (l.getD k noNode) k v then _ else _) = _
      rw [e]
    rw [this]
    unfold takesB
    rw [h]
    by_cases q1 : (secondV d).toNat = v
    · rw [if_pos q1]
      have : secondV d = (v : Int) := by omega
      simp [this]; omega
    · rw [if_neg q1]
      have n1 : ¬ secondV d = (v : Int) := by omega
      by_cases q2 : d.a.toNat = v
      · rw [if_pos q2]
        have : d.a = (v : Int) := by omega
        simp [this]; omega
      · rw [if_neg q2]
        have n2 : ¬ d.a = (v : Int) := by omega
        simp [n1, n2]
  · rw [List.getElem?_eq_none (by rw [lastRow_length]; omega), List.getElem?_eq_none (by rw [lastRow_length]; omega)]
    by_cases q1 : (secondV d).toNat = v
    · omega
    · rw [if_neg q1]
      by_cases q2 : d.a.toNat = v
      · omega
      · rw [if_neg q2]
end Go.Proofs.Ytlpejbopdmledaa
namespace Go.Proofs.Ytlpejbopdmledaa
open Go.RowKit Go.ChangeShapes Go.WideShapes
theorem ei_int : EI Try.prog 36 3 (.int .i64 0) 1 8 := ⟨Try.underlying36, by kernel_rfl, rfl, by decide⟩
end Go.Proofs.Ytlpejbopdmledaa
namespace Go.Proofs.Ytlpejbopdmledaa
set_option linter.unusedVariables false
set_option linter.unusedSimpArgs false
open Go.RowKit Go.ChangeShapes Go.WideShapes
set_option maxRecDepth 100000

theorem samei_eq (A A' : Option Addr) (n cap n' cap' : Nat) (l : List Int) (w : World) (h : Sl (tInt .i64) w (blo w.heap.size) A n cap l) (h' : Sl (tInt .i64) w (blo w.heap.size) A' n' cap' l) :
    Calls Try.prog 16 #[.slice A n cap, .slice A' n' cap'] w fun e w' => e = .returned (.bool true) ∧ Below w.heap.size w w' := by
  have hm : n ≤ 9223372036854775807 := Nat.le_trans h.cap_le h.max_le
  obtain rfl : n = n' := h.n_eq.symm.trans h'.n_eq
  have H := Lib.hid h
  have H' := Lib.hid h'
  clear h h'
  have d1 : ((n : Int) != (n : Int)) = false := by simp
  go_enter Try.func16, Try.ntmps16
  go_wp2_with fail
  go_loopw [5] (fun i wr => ∃ k : Nat, k ≤ n ∧ i = .int .i64 k ∧ wr.heap = w.heap ∧ Below w.heap.size w wr) (fun i _ => n - (intOf i).toNat)
  case atStart => exact ⟨0, Nat.zero_le _, rfl, rfl, Below.refl _ _⟩
  case round =>
    obtain ⟨k, hk, rfl, hh, hb⟩ := hrel
    by_cases hlt : k < n
    · obtain ⟨b, off, rfl, _, _, c0, i0⟩ := (H.out.below hb (fun _ h => h)).int_at k hlt
      obtain ⟨b', off', rfl, _, _, c1, i1⟩ := (H'.out.below hb (fun _ h => h)).int_at k hlt
      have HH := Lib.hid hh
      clear hh i0 i1
      generalize hx : l.getD k 0 = x at *
      have d3 : (x != x) = false := by simp
      clear hx
      go_wp2_with fail
      go_quiet (fail)
      go_wp2_with fail
      exact ⟨⟨k + 1, by omega, by go_num, HH.out, below_drewN hb _⟩, by simp [intOf]; omega⟩
    · obtain rfl : k = n := by omega
      go_wp2_with fail
      go_ret
      exact ⟨rfl, hb⟩
end Go.Proofs.Ytlpejbopdmledaa
