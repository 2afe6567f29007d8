/-
  Rows of bytes (layers 6, 8): rows that are alike; small numbers as bytes, the program's and the document's.
  Conditions: at most 2^31 numbers.
-/
import Derived.Test.YtanglfmolnfjeaaChecked
import Derived.Test.YtanglfmolnfjeaaJ04
namespace Go.Proofs.Ytanglfmolnfjeaa
set_option linter.unusedVariables false
set_option linter.unusedSimpArgs false
open Go.RowKit Go.ChangeShapes Go.WideShapes
set_option maxRecDepth 100000
set_option maxHeartbeats 4000000

theorem same06_eq (A A' : Option Addr) (n cap n' cap' : Nat) (l : List Int) (w : World) (h : Sl (tInt .u8) w (blo w.heap.size) A n cap l) (h' : Sl (tInt .u8) w (blo w.heap.size) A' n' cap' l) :
    Calls Try.prog 12 #[.slice A n cap, .slice A' n' cap'] w fun e w' => e = .returned (.bool true) ∧ Below w.heap.size w w' := by
  have hm : n ≤ 9223372036854775807 := Nat.le_trans h.cap_le h.max_le
  obtain rfl : n = n' := h.n_eq.symm.trans h'.n_eq
  have H := Lib.hid h
  have H' := Lib.hid h'
  clear h h'
  have d1 : ((n : Int) != (n : Int)) = false := by simp
  go_enter Try.func12, Try.ntmps12
  go_wp2_with fail
  go_loopw [5] (fun i wr => ∃ k : Nat, k ≤ n ∧ i = .int .i64 k ∧ wr.heap = w.heap ∧ Below w.heap.size w wr) (fun i _ => n - (intOf i).toNat)
  case atStart => exact ⟨0, Nat.zero_le _, rfl, rfl, Below.refl _ _⟩
  case round =>
    obtain ⟨k, hk, rfl, hh, hb⟩ := hrel
    by_cases hlt : k < n
    · obtain ⟨b, off, rfl, _, _, c0, i0⟩ := (H.out.below hb (fun _ h => h)).int_at k hlt
      obtain ⟨b', off', rfl, _, _, c1, i1⟩ := (H'.out.below hb (fun _ h => h)).int_at k hlt
      have HH := Lib.hid hh
      clear hh i0 i1
      generalize hx : l.getD k 0 = x at *
      have d3 : (x != x) = false := by simp
      clear hx
      go_wp2_with fail
      go_quiet (fail)
      go_wp2_with fail
      exact ⟨⟨k + 1, by omega, by go_num, HH.out, below_drewN hb _⟩, by simp [intOf]; omega⟩
    · obtain rfl : k = n := by omega
      go_wp2_with fail
      go_ret
      exact ⟨rfl, hb⟩

/-- Small numbers as bytes. -/
def octV (l : List Int) : List Int := l.map fun x => x % 256
theorem octV_take (l : List Int) (k : Nat) (h : k < l.length) : octV (l.take (k + 1)) = octV (l.take k) ++ [l.getD k 0 % 256] := by
  rw [take_snoc l k (l.getD k 0) (by rw [List.getD_eq_getElem?_getD, List.getElem?_eq_getElem h]; rfl)]
  simp [octV]

theorem roctSmall_any (A : Option Addr) (n cap : Nat) (l : List Int) (w : World) (hs : Sl (tInt .i8) w (blo w.heap.size) A n cap l) (hn : n ≤ 1073741824) :
    Calls Try.prog 41 #[.slice A n cap] w (RetSl (tInt .u8) w (octV l)) := by
  have hm : n ≤ 9223372036854775807 := by omega
  have H := Lib.hid hs
  have HN := Lib.hid hs.n_eq
  clear hs
  go_enter Try.func41, Try.ntmps41
  go_wp2_with fail
  go_loopw [3, 4] (fun u i wr => ∃ k : Nat, k ≤ n ∧ i = .int .i64 k ∧ Own (tInt .u8) wr (fun _ => False) w.heap.size 5 u k (octV (l.take k)) ∧ Below w.heap.size w wr) (fun _ i _ => n - (intOf i).toNat)
  case atStart => exact ⟨0, Nat.zero_le _, rfl, by simpa [octV] using Own.nil _ _ _ _ _, Below.refl _ _⟩
  case round =>
    obtain ⟨k, hk, rfl, hown, hb⟩ := hrel
    have ON := Lib.hid hown
    have HB := Lib.hid hb
    have zr := hb.size
    clear hown hb
    by_cases hlt : k < n
    · have p1 : (k : Int) < (n : Int) := by omega
      obtain ⟨b, off, rfl, _, _, c0, i0⟩ := (H.out.below HB.out (fun _ h => h)).int_at k hlt
      have OT := Lib.hid (octV_take l k (by rw [HN.out]; exact hlt))
      obtain ⟨x, hx⟩ : ∃ x, l.getD k 0 = x := ⟨_, rfl⟩
      rw [hx] at c0 i0 OT
      rw [inK_i8] at i0
      obtain ⟨i1, i2⟩ := i0
      clear hx
      go_wp2_with (at_builtin; refine wpList_push (t := tInt .u8) rfl (.tmp 11) (.tmp 17) rfl ei_u8 rfl ON.out 1 rfl (x % 256) ⟨rfl, by rw [inK_u8]; omega⟩ (by unfold maxLen; omega) (by omega) zr (fun _ h => h.elim) ?_; intro v' w3 own3 g3 at3)
      have b3 := HB.out.grown g3 zr (fun j hj => (ON.out.lt j hj).1)
      exact ⟨⟨k + 1, by omega, by go_num, by rw [OT.out]; exact own3, b3⟩, by simp [intOf]; omega⟩
    · obtain rfl : k = n := by omega
      have hall : l.take k = l := List.take_of_length_le (by rw [HN.out]; exact Nat.le_refl _)
      rw [hall] at ON
      go_wp2_with fail
      go_ret
      exact ON.out.ret (by decide) HB.out (fun _ h => h.elim)

/-- A row that is being filled. -/
def fillTo (f : Nat → Int) (n k : Nat) : List Int := (List.range n).map fun i => if i < k then f i else 0
theorem fillTo_zero (f : Nat → Int) (n : Nat) : fillTo f n 0 = List.replicate n 0 := by
  apply List.ext_getElem?
  intro i
  unfold fillTo
  rw [List.getElem?_map, List.getElem?_replicate]
  by_cases h : i < n
  · rw [List.getElem?_range h, if_pos h]; simp
  · rw [if_neg h, List.getElem?_eq_none (by simp; omega)]; rfl
theorem fillTo_set (f : Nat → Int) (n k : Nat) (h : k < n) : (fillTo f n k).set k (f k) = fillTo f n (k + 1) := by
  apply List.ext_getElem?
  intro i
  unfold fillTo
  rw [List.getElem?_set, List.getElem?_map, List.getElem?_map]
  by_cases hi : i < n
  · rw [List.getElem?_range hi]
    by_cases e : k = i
    · subst e; simp [h]
    · rw [if_neg e]
      simp only [Option.map_some]
      by_cases c : i < k
      · rw [if_pos c, if_pos (by omega)]
      · rw [if_neg c, if_neg (by omega)]
  · rw [List.getElem?_eq_none (by simp; omega), if_neg (by omega)]
    rfl
theorem fillTo_all (f : Nat → Int) (n : Nat) : fillTo f n n = (List.range n).map f := by
  unfold fillTo
  apply List.map_congr_left
  intro i hi
  rw [if_pos (List.mem_range.1 hi)]
theorem octV_fill (l : List Int) : octV l = (List.range l.length).map fun i => l.getD i 0 % 256 := by
  apply List.ext_getElem?
  intro i
  unfold octV
  rw [List.getElem?_map, List.getElem?_map]
  by_cases h : i < l.length
  · rw [List.getElem?_range h, List.getElem?_eq_getElem h]
    simp [List.getD_eq_getElem?_getD, List.getElem?_eq_getElem h]
  · rw [List.getElem?_eq_none (by omega), List.getElem?_eq_none (by simp; omega)]; rfl

theorem octSmall_any (A : Option Addr) (n cap : Nat) (l : List Int) (w : World) (hs : Sl (tInt .i8) w (blo w.heap.size) A n cap l) (hn : n ≤ 1073741824) :
    Calls Try.prog 37 #[.slice A n cap] w (RetSl (tInt .u8) w (octV l)) := by
  have hm : n ≤ 9223372036854775807 := by omega
  have H := Lib.hid hs
  have HN := Lib.hid hs.n_eq
  have FV := Lib.hid (octV_fill l)
  rw [hs.n_eq] at FV
  clear hs
  go_enter Try.func37, Try.ntmps37
  go_wp2_with (at_make; refine wpList_make (t := tInt .u8) (S := fun _ => False) (base := w.heap.size) rfl _ _ rfl ei_u8 .i64 .i64 _ _ n rfl rfl rfl rfl ?_ ?_ ?_ 0 ⟨rfl, by decide⟩ (fun _ h => h.elim) ?_; rotate_right; intro w1 hown hg)
  rotate_left
  · omega
  · unfold maxLen; omega
  · simp
  have HO := Lib.hid hown
  have B1 := Lib.hid ((Below.refl w.heap.size w).grown hg (Nat.le_refl _) (by simp))
  clear hown hg
  go_loopw [11] (fun i wr => ∃ k : Nat, k ≤ n ∧ i = .int .i64 k ∧ Below w.heap.size w wr ∧
      Own (tInt .u8) wr (fun _ => False) w.heap.size 5 (.slice (some ⟨w.heap.size, 0, none⟩) n n) n (fillTo (fun i => l.getD i 0 % 256) n k)) (fun i _ => n - (intOf i).toNat)
  case atStart => exact ⟨0, Nat.zero_le _, rfl, B1.out, by rw [fillTo_zero]; exact HO.out⟩
  case round =>
    obtain ⟨k, hk, rfl, hb, hown⟩ := hrel
    have HB := Lib.hid hb
    have ON := Lib.hid hown
    clear hb hown B1 HO
    by_cases hlt : k < n
    · have p1 : (k : Int) < (n : Int) := by omega
      obtain ⟨b, off, rfl, _, _, c0, i0⟩ := (H.out.below HB.out (fun _ h => h)).int_at k hlt
      have FS := Lib.hid (fillTo_set (fun i => l.getD i 0 % 256) n k hlt)
      obtain ⟨x0, u0, _, _, c5, c6, c7, _⟩ := ON.out.cell rfl k hlt
      obtain ⟨x, hx⟩ : ∃ x, l.getD k 0 = x := ⟨_, rfl⟩
      rw [hx] at c0 i0
      have HX := Lib.hid hx
      rw [inK_i8] at i0
      obtain ⟨i1, i2⟩ := i0
      clear hx
      go_wp2_with fail
      obtain ⟨o3, g3⟩ := ON.out.set1 rfl k (.int .u8 (x % 256)) (x % 256) ⟨rfl, by rw [inK_u8]; omega⟩ (fun _ h => h.elim)
      refine ⟨⟨k + 1, by omega, by go_num, HB.out.setCell (Nat.le_refl _) _, ?_⟩, by simp [intOf]; omega⟩
      rw [← FS.out]
      simp only [HX.out]
      exact o3
    · obtain rfl : k = n := by omega
      rw [fillTo_all] at ON
      clear hlt hk
      go_wp2_with fail
      go_ret
      rw [FV.out]
      exact ON.out.ret (by decide) HB.out (fun _ h => h.elim)
end Go.Proofs.Ytanglfmolnfjeaa
