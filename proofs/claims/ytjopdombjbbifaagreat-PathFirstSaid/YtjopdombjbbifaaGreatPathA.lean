/-
  Which exit answers first, and why (layer 38): path.Why, path.First, the document's Why.
  Conditions: none.
-/
import Derived.Test.YtjopdombjbbifaaGreatChecked
import Derived.Test.YtjopdombjbbifaaGreatExits
import Derived.Test.YtjopdombjbbifaaGreatExt
namespace Go.Proofs.YtjopdombjbbifaaGreat
set_option linter.unusedVariables false
set_option linter.unusedSimpArgs false
open Go.RowKit Go.ChangeShapes Go.WideShapes
set_option maxRecDepth 100000
set_option maxHeartbeats 1600000

def whyN (e last late : Bool) : Int := if e = true then 1 else if last = true then 2 else if late = true then 3 else 0
def isLate (late : Int) (d : Exit) : Bool := decide (0 ≤ late) && decide (late < d.steps)
def exitWhy (n : Nat) (late : Int) (d : Exit) (k : Nat) : Int := whyN d.v.enough ((k : Int) == (n : Int) - 1) (isLate late d)
def firstFrom (n : Nat) (late : Int) : List Exit → Nat → Int × Int
  | [], _ => (-1, 0)
  | d :: l, k => if exitWhy n late d k = 0 then firstFrom n late l (k + 1) else ((k : Int), exitWhy n late d k)

theorem firstFrom_at {n : Nat} {late : Int} {l : List Exit} {k : Nat} {d : Exit} (h : l[k]? = some d) :
    firstFrom n late (l.drop k) k = if exitWhy n late d k = 0 then firstFrom n late (l.drop (k + 1)) (k + 1) else ((k : Int), exitWhy n late d k) := by
  obtain ⟨hk, rfl⟩ := List.getElem?_eq_some_iff.1 h
  rw [List.drop_eq_getElem_cons hk]
  rfl

theorem why_any (c m : Int) (A : Option Addr) (n cap : Nat) (e last late : Bool) (w : World) :
    Calls Tryz.prog 7 #[.agg #[.int .i64 c, .int .i64 m, .slice A n cap, .bool e], .bool last, .bool late] w fun r w' => r = .returned (.int .i64 (whyN e last late)) ∧ Below w.heap.size w w' := by
  cases e <;> cases last <;> cases late
  all_goals
    go_enter Tryz.func7, Tryz.ntmps7
    go_wp2_with fail
    go_ret
    exact ⟨rfl, by go_grown⟩

theorem rwhy_any (e last late : Bool) (w : World) :
    Calls Tryz.prog 5 #[.bool e, .bool last, .bool late] w fun r w' => r = .returned (.int .i64 (whyN e last late)) ∧ Below w.heap.size w w' := by
  cases e <;> cases last <;> cases late
  all_goals
    go_enter Tryz.func5, Tryz.ntmps5
    go_wp2_with fail
    go_ret
    exact ⟨rfl, by go_grown⟩

theorem first_any (A : Option Addr) (n cap : Nat) (l : List Exit) (late : Int) (w : World) (h : Sl tExit w (blo w.heap.size) A n cap l) :
    Calls Tryz.prog 6 #[.slice A n cap, .int .i64 late] w
      fun e w' => e = .returned (.tuple #[.int .i64 (firstFrom n late l 0).1, .int .i64 (firstFrom n late l 0).2]) ∧ Below w.heap.size w w' := by
  have hm : n ≤ 9223372036854775807 := Nat.le_trans h.cap_le h.max_le
  have H := Lib.hid h
  have HN := Lib.hid h.n_eq
  clear h
  obtain ⟨y, hy⟩ : ∃ y, firstFrom n late l 0 = y := ⟨_, rfl⟩
  have HY := Lib.hid hy
  rw [hy]
  clear hy
  go_enter Tryz.func6, Tryz.ntmps6
  go_wp2_with fail
  go_loopw [11] (fun i wr => ∃ k : Nat, k ≤ n ∧ i = .int .i64 k ∧ Below w.heap.size w wr ∧ firstFrom n late (l.drop k) k = y) (fun i _ => n - (intOf i).toNat)
  case atStart => exact ⟨0, Nat.zero_le _, rfl, Below.refl _ _, HY.out⟩
  case round =>
    obtain ⟨k, hk, rfl, hb, hq⟩ := hrel
    have G1 := Lib.hid hb
    by_cases hlt : k < n
    rotate_left
    · obtain rfl : k = n := by omega
      have F := Lib.hid (show y = (-1, 0) by rw [← hq, List.drop_of_length_le (by rw [HN.out]; exact Nat.le_refl _)]; rfl)
      clear hq hb
      go_wp2_with fail
      go_ret2
      exact ⟨by rw [F.out]; rfl, G1.out⟩
    have SL := Lib.hid (H.out.below G1.out (fun _ h => h))
    obtain ⟨d, L, nl, cl, b, off, hx, rfl, hS, hbs, hd, hs, c0, c1, c2, c3, c4, c5, c6, c7⟩ := SL.out.exit_at k hlt
    rw [firstFrom_at hx] at hq
    have HQ := Lib.hid hq
    have EW : exitWhy n late d k = whyN d.v.enough ((k : Int) == (n : Int) - 1) (isLate late d) := rfl
    clear hb hs hx hS hd hq
    generalize exitWhy n late d k = z at *
    have K1 := Lib.hid (show Below wr.heap.size wr (wr.alloc (.cells #[.int .i64 d.model, .int .i64 d.block, .int .i64 d.steps, .int .i64 d.spent, .int .i64 d.v.cls, .int .i64 d.v.margin, .slice L nl cl, .bool d.v.enough] 29)) from (Below.refl _ _).alloc (Nat.le_refl _) _)
    have BX := Lib.hid (Blk.now wr wr.heap.size 29 #[.int .i64 d.model, .int .i64 d.block, .int .i64 d.steps, .int .i64 d.spent, .int .i64 d.v.cls, .int .i64 d.v.margin, .slice L nl cl, .bool d.v.enough] rfl)
    have G2 := Lib.hid (below_call G1.out K1.out G1.out.size)
    unfold isLate at EW
    have HW := Lib.hid EW
    clear EW
    by_cases q : 0 ≤ late
    · have t1 : decide (0 ≤ late) = true := by simpa using q
      have HW := Lib.hid (show z = whyN d.v.enough ((k : Int) == (n : Int) - 1) (decide (late < d.steps)) by rw [HW.out, t1]; rfl)
      clear q
      go_wp2_with fail
      refine (why_any _ _ _ _ _ _ _ _ _).mono ?_
      rw [← HW.out]
      rintro e w3 ⟨rfl, hb⟩
      have G3 := Lib.hid (below_call G2.out hb G2.out.size)
      clear hb
      by_cases hz : z = 0
      · subst hz
        replace HQ := Lib.hid (HQ.out.symm.trans (if_pos rfl))
        go_wp2_with fail
        exact ⟨⟨k + 1, by omega, by go_num, G3.out, HQ.out.symm⟩, by simp [intOf]; omega⟩
      · have t2 : (z != 0) = true := by rw [bne_iff_ne]; exact hz
        have F := Lib.hid (HQ.out.symm.trans (if_neg hz))
        clear hz
        go_wp2_with fail
        go_ret2
        exact ⟨by rw [F.out]; rfl, G3.out⟩
    · have t1 : decide (0 ≤ late) = false := by simpa using q
      have HW := Lib.hid (show z = whyN d.v.enough ((k : Int) == (n : Int) - 1) false by rw [HW.out, t1]; rfl)
      clear q
      go_wp2_with fail
      refine (why_any _ _ _ _ _ _ _ _ _).mono ?_
      rw [← HW.out]
      rintro e w3 ⟨rfl, hb⟩
      have G3 := Lib.hid (below_call G2.out hb G2.out.size)
      clear hb
      by_cases hz : z = 0
      · subst hz
        replace HQ := Lib.hid (HQ.out.symm.trans (if_pos rfl))
        go_wp2_with fail
        exact ⟨⟨k + 1, by omega, by go_num, G3.out, HQ.out.symm⟩, by simp [intOf]; omega⟩
      · have t2 : (z != 0) = true := by rw [bne_iff_ne]; exact hz
        have F := Lib.hid (HQ.out.symm.trans (if_neg hz))
        clear hz
        go_wp2_with fail
        go_ret2
        exact ⟨by rw [F.out]; rfl, G3.out⟩
end Go.Proofs.YtjopdombjbbifaaGreat
