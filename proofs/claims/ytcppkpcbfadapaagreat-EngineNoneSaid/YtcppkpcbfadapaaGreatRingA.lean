/-
  Rows of whole numbers: where a number stands, and whether it does (the library's and the document's).
  Conditions: none.
-/
import Derived.Test.YtcppkpcbfadapaaGreatChecked
import Derived.Test.YtcppkpcbfadapaaGreatOwn
import Derived.Deep.DeepFit
import Derived.Handy
namespace Go.Proofs.YtcppkpcbfadapaaGreat
set_option linter.unusedVariables false
set_option linter.unusedSimpArgs false
open Go.RowKit Go.ChangeShapes Go.WideShapes
set_option maxRecDepth 100000

def spot (l : List Int) (v : Int) : Int := match l.findIdx? (fun x => x == v) with | none => -1 | some k => k

theorem spot_some {l : List Int} {v : Int} {k : Nat} (h : ∀ j, j < k → l.getD j 0 ≠ v) (hk : k < l.length) (hp : l.getD k 0 = v) : spot l v = k := by
  have : l.findIdx? (fun x => x == v) = some k := by
    rw [List.findIdx?_eq_some_iff_getElem]
    refine ⟨hk, ?_, fun j hj => ?_⟩
    · rw [List.getD_eq_getElem?_getD, List.getElem?_eq_getElem hk] at hp; simpa using hp
    · have := h j hj
      rw [List.getD_eq_getElem?_getD, List.getElem?_eq_getElem (by omega)] at this; simpa using this
  unfold spot; rw [this]
theorem spot_none {l : List Int} {v : Int} (h : ∀ j, j < l.length → l.getD j 0 ≠ v) : spot l v = -1 := by
  have : l.findIdx? (fun x => x == v) = none := by
    rw [List.findIdx?_eq_none_iff]
    intro x hx
    obtain ⟨j, hj, rfl⟩ := List.getElem_of_mem hx
    have := h j hj
    rw [List.getD_eq_getElem?_getD, List.getElem?_eq_getElem hj] at this; simpa using this
  unfold spot; rw [this]
theorem spot_contains (l : List Int) (v : Int) : decide (0 ≤ spot l v) = l.contains v := by
  unfold spot
  cases h : l.findIdx? (fun x => x == v) with
  | none =>
    rw [List.findIdx?_eq_none_iff] at h
    rw [show decide ((0 : Int) ≤ -1) = false from rfl]
    symm
    rw [← Bool.not_eq_true, List.contains_iff_mem]
    intro hm
    have := h v hm
    simp at this
  | some k =>
    rw [List.findIdx?_eq_some_iff_getElem] at h
    obtain ⟨hk, hp, _⟩ := h
    rw [show decide ((0 : Int) ≤ ((k : Nat) : Int)) = true by simp]
    symm
    rw [List.contains_iff_mem]
    have : l[k] = v := by simpa using hp
    rw [← this]
    exact List.getElem_mem hk

theorem index_any (A : Option Addr) (n cap : Nat) (l : List Int) (v : Int) (w : World) (h : Sl (tInt .i64) w (blo w.heap.size) A n cap l) :
    Calls Tryz.prog 109 #[.slice A n cap, .int .i64 v] w fun e w' => e = .returned (.int .i64 (spot l v)) ∧ Below w.heap.size w w' := by
  have hm : n ≤ 9223372036854775807 := Nat.le_trans h.cap_le h.max_le
  have H := Lib.hid h
  clear h
  go_enter Tryz.func109, Tryz.ntmps109
  go_wp2_with fail
  go_loopw [8] (fun i wr => ∃ k : Nat, k ≤ n ∧ i = .int .i64 k ∧ Below w.heap.size w wr ∧ ∀ j, j < k → l.getD j 0 ≠ v) (fun i _ => n - (intOf i).toNat)
  case atStart => exact ⟨0, Nat.zero_le _, rfl, Below.refl _ _, fun j hj => absurd hj (Nat.not_lt_zero _)⟩
  case round =>
    obtain ⟨k, hk, rfl, hb, hq⟩ := hrel
    have HQ := Lib.hid hq
    clear hq
    by_cases hlt : k < n
    · obtain ⟨b, off, rfl, _, _, c0, _⟩ := (H.out.below hb (fun _ h => h)).int_at k hlt
      generalize hx : l.getD k 0 = x at *
      have HX := Lib.hid hx
      clear hx
      by_cases he : x = v
      · have E := Lib.hid (spot_some HQ.out (by rw [H.out.n_eq]; exact hlt) (HX.out.trans he))
        have t1 : (v == x) = true := by simp [he]
        clear he
        go_wp2_with fail
        go_ret
        exact ⟨by rw [E.out]; rfl, hb⟩
      · have t1 : (v == x) = false := by simp; exact fun h => he h.symm
        have HE := Lib.hid he
        clear he
        go_wp2_with fail
        refine ⟨⟨k + 1, by omega, by go_num, hb, fun j hj => ?_⟩, by simp [intOf]; omega⟩
        by_cases hjk : j < k
        · exact HQ.out j hjk
        · obtain rfl : j = k := by omega
          rw [HX.out]; exact HE.out
    · obtain rfl : k = n := by omega
      have E := Lib.hid (spot_none (l := l) (v := v) (by rw [H.out.n_eq]; exact HQ.out))
      go_wp2_with fail
      go_ret
      exact ⟨by rw [E.out]; rfl, hb⟩

theorem contains_any (A : Option Addr) (n cap : Nat) (l : List Int) (v : Int) (w : World) (h : Sl (tInt .i64) w (blo w.heap.size) A n cap l) :
    Calls Tryz.prog 81 #[.slice A n cap, .int .i64 v] w fun e w' => e = .returned (.bool (l.contains v)) ∧ Below w.heap.size w w' := by
  have H := Lib.hid h
  rw [← spot_contains]
  clear h
  go_enter Tryz.func81, Tryz.ntmps81
  go_wp2_with fail
  refine (index_any A n cap l v _ H.out).mono ?_
  rintro e w1 ⟨rfl, hb1⟩
  go_wp2_with fail
  go_ret
  exact ⟨rfl, hb1⟩

end Go.Proofs.YtcppkpcbfadapaaGreat
