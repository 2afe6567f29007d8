/-
  A ring's numbers, and whose turn it is (ring, layer 41).
  Conditions: at most 2^40 numbers in all.
-/
import Derived.Test.YtcppkpcbfadapaaGreatChecked
import Derived.Test.YtcppkpcbfadapaaGreatRingA
import Derived.Test.YtcppkpcbfadapaaGreatRingC
import Derived.Test.YtcppkpcbfadapaaGreatExt
import Derived.StillTailTactics
namespace Go.Proofs.YtcppkpcbfadapaaGreat
set_option linter.unusedVariables false
set_option linter.unusedSimpArgs false
open Go.RowKit Go.ChangeShapes Go.WideShapes
set_option maxRecDepth 100000

/-- A ring lies in block g: who is aside, who is in line, how many there may be. -/
structure RingAt (w : World) (g : Nat) (a b : List Int) (m : Int) : Prop where
  out : ∃ A n c A' n' c', Blk w g 121 #[.slice A n c, .slice A' n' c', .int .i64 m] ∧ Sl (tInt .i64) w (fun x => x < w.heap.size ∧ x ≠ g) A n c a ∧ Sl (tInt .i64) w (fun x => x < w.heap.size ∧ x ≠ g) A' n' c' b

theorem RingAt.later {w w' : World} {g : Nat} {a b : List Int} {m : Int} (h : RingAt w g a b m) (hb : Below w.heap.size w w') : RingAt w' g a b m := by
  obtain ⟨A, n, c, A', n', c', h1, h2, h3⟩ := h.out
  exact ⟨A, n, c, A', n', c', h1.later hb, (h2.below hb (fun _ h => h.1)).more (fun _ h => ⟨Nat.lt_of_lt_of_le h.1 hb.size, h.2⟩), (h3.below hb (fun _ h => h.1)).more (fun _ h => ⟨Nat.lt_of_lt_of_le h.1 hb.size, h.2⟩)⟩

/-- The same, and the ring's rows lie in none of X's blocks. -/
structure RingX (X : Nat → Prop) (w : World) (g : Nat) (a b : List Int) (m : Int) : Prop where
  out : ∃ A n c A' n' c', Blk w g 121 #[.slice A n c, .slice A' n' c', .int .i64 m] ∧ Sl (tInt .i64) w (fun x => (x < w.heap.size ∧ ¬ X x) ∧ x ≠ g) A n c a ∧ Sl (tInt .i64) w (fun x => (x < w.heap.size ∧ ¬ X x) ∧ x ≠ g) A' n' c' b

theorem RingX.at_ {X : Nat → Prop} {w : World} {g : Nat} {a b : List Int} {m : Int} (h : RingX X w g a b m) : RingAt w g a b m := by
  obtain ⟨A, n, c, A', n', c', h1, h2, h3⟩ := h.out
  exact ⟨A, n, c, A', n', c', h1, h2.more (fun _ h => ⟨h.1.1, h.2⟩), h3.more (fun _ h => ⟨h.1.1, h.2⟩)⟩

theorem RingAt.x {X : Nat → Prop} {w : World} {g : Nat} {a b : List Int} {m : Int} (h : RingAt w g a b m) (hX : ∀ x, x < w.heap.size → ¬ X x) : RingX X w g a b m := by
  obtain ⟨A, n, c, A', n', c', h1, h2, h3⟩ := h.out
  exact ⟨A, n, c, A', n', c', h1, h2.more (fun _ h => ⟨⟨h.1, hX _ h.1⟩, h.2⟩), h3.more (fun _ h => ⟨⟨h.1, hX _ h.1⟩, h.2⟩)⟩

theorem RingX.later {X : Nat → Prop} {w w' : World} {g : Nat} {a b : List Int} {m : Int} (h : RingX X w g a b m) (hb : Below w.heap.size w w') : RingX X w' g a b m := by
  obtain ⟨A, n, c, A', n', c', h1, h2, h3⟩ := h.out
  exact ⟨A, n, c, A', n', c', h1.later hb, (h2.below hb (fun _ h => h.1.1)).more (fun _ h => ⟨⟨Nat.lt_of_lt_of_le h.1.1 hb.size, h.1.2⟩, h.2⟩), (h3.below hb (fun _ h => h.1.1)).more (fun _ h => ⟨⟨Nat.lt_of_lt_of_le h.1.1 hb.size, h.1.2⟩, h.2⟩)⟩

theorem ringList_any (g : Nat) (a b : List Int) (m : Int) (w : World) (h : RingAt w g a b m) (hn : a.length + b.length ≤ 1099511627776) :
    Calls Tryz.prog 41 #[.pointer (some ⟨g, 0, none⟩)] w (RetSl (tInt .i64) w (a ++ b)) := by
  obtain ⟨A, n, c, A', n', c', hB, hs, hs'⟩ := h.out
  rw [hs.n_eq, hs'.n_eq] at hn
  have c0 : w.cell? ⟨g, 0, none⟩ = some (.slice A n c) := hB.cell 0
  have c1 : w.cell? ⟨g, 1, none⟩ = some (.slice A' n' c') := hB.cell 1
  have H := Lib.hid (hs.more (S' := blo w.heap.size) (fun _ h => h.1))
  have H' := Lib.hid (hs'.more (S' := blo w.heap.size) (fun _ h => h.1))
  clear h hB hs hs'
  go_enter Tryz.func41, Tryz.ntmps41
  go_wp2_with fail
  go_still_tail 8, (by kernel_rfl)
  change wpList _ _ _ _ _ w.drew
  have H := Lib.hid (H.out.keep (w' := w.drew) (fun _ _ => rfl))
  have H' := Lib.hid (H'.out.keep (w' := w.drew) (fun _ _ => rfl))
  have g0 : Below w.heap.size w w.drew := (Below.refl _ _).drew
  have hz : w.drew.heap.size = w.heap.size := rfl
  have G0 := Lib.hid g0
  clear c0 c1 g0
  rw [← hz] at H H'
  go_wp2_with fail
  have k1 : Below w.drew.heap.size w.drew (w.drew.alloc (.cells #[.slice A n c, .slice A' n' c'] 45)) := (Below.refl _ _).alloc (Nat.le_refl _) _
  have bB := Blk.now w.drew w.drew.heap.size 45 #[.slice A n c, .slice A' n' c'] rfl
  refine (joined_any A A' n c n' c' w.drew.heap.size a b _ (H.out.later k1 (Nat.le_refl _)) (H'.out.later k1 (Nat.le_refl _)) (bB.cell 0) (bB.cell 1) hn).mono ?_
  rintro e w1 ⟨B, q, r, rfl, hs, hb⟩
  have k2 : Below w.heap.size w w1 := below_call (below_call G0.out k1 (by simp [hz])) hb (by simp)
  go_wp2_with fail
  go_ret
  exact ⟨B, q, r, rfl, hs.more (bin_more (by simp) (Nat.le_refl _)), k2⟩

theorem ringLen_any (g : Nat) (a b : List Int) (m : Int) (w : World) (h : RingAt w g a b m) (hn : a.length + b.length ≤ 1099511627776) :
    Calls Tryz.prog 71 #[.pointer (some ⟨g, 0, none⟩)] w fun e w' => e = .returned (.int .i64 (((a.length + b.length : Nat) : Int))) ∧ Below w.heap.size w w' := by
  have H := Lib.hid h
  clear h
  go_enter Tryz.func71, Tryz.ntmps71
  go_wp2_with fail
  refine (ringList_any g a b m w H.out hn).mono ?_
  rintro e w1 ⟨B, q, r, rfl, hs, hb⟩
  have hq := hs.n_eq
  rw [List.length_append] at hq
  subst hq
  clear hs
  go_wp2_with fail
  go_ret
  exact ⟨rfl, hb⟩

theorem ringRoom_any (g : Nat) (a b : List Int) (m : Int) (w : World) (h : RingAt w g a b m) (hn : a.length + b.length ≤ 1099511627776) (hm : 0 ≤ m ∧ m ≤ 1099511627776) :
    Calls Tryz.prog 54 #[.pointer (some ⟨g, 0, none⟩)] w fun e w' => e = .returned (.int .i64 (m - ((a.length + b.length : Nat) : Int))) ∧ Below w.heap.size w w' := by
  obtain ⟨A, n, c, A', n', c', hB, _, _⟩ := h.out
  have BB := Lib.hid hB
  have H := Lib.hid h
  clear h hB
  have E1 := Lib.hid (fun x : Ext w => calls_ext x (ringLen_any g a b m x.1 (H.out.later x.2) hn))
  generalize a.length + b.length = q at *
  go_enter Tryz.func54, Tryz.ntmps54
  go_wp2_with fail
  have c2 : ∀ x : Ext w, x.1.cell? ⟨g, 2, none⟩ = some (.int .i64 m) := fun x => (BB.out.ext x).cell 2
  obtain ⟨m1, m2⟩ := hm
  have hw : IntKind.i64.wrap (m - (q : Int)) = m - (q : Int) := IntWalk.i64_in _ (by omega)
  refine wp_region_ext w (by kernel_rfl) (by kernel_rfl) (Below.refl _ _) ?_
  repeat (go_big_quiet_step ((exact E1.out _)))
  refine wpQuiet_nil ?_
  rintro _ ⟨⟨w1, hb⟩, rfl⟩
  go_wp2_with fail
  go_ret
  exact ⟨rfl, hb⟩

theorem ringNext_any (g : Nat) (a b : List Int) (m : Int) (w : World) (h : RingAt w g a b m) :
    Calls Tryz.prog 24 #[.pointer (some ⟨g, 0, none⟩)] w fun e w' => e = .returned (.tuple #[.int .i64 (b.getD 0 0), .bool (decide (0 < b.length))]) ∧ w'.heap = w.heap ∧ Below w.heap.size w w' := by
  obtain ⟨A, n, c, A', n', c', hB, _, hs⟩ := h.out
  have c1 : w.cell? ⟨g, 1, none⟩ = some (.slice A' n' c') := hB.cell 1
  have hl := hs.n_eq
  have hm : n' ≤ 9223372036854775807 := Nat.le_trans hs.cap_le hs.max_le
  clear h hB
  by_cases h0 : n' = 0
  · subst h0
    obtain rfl : b = [] := List.length_eq_zero_iff.1 hl
    clear hs hl
    go_enter Tryz.func24, Tryz.ntmps24
    go_wp2_with fail
    refine bodyPost_ret (results_tmp2 rfl _ _ _) rfl ?_
    exact ⟨rfl, rfl, Below.refl _ _⟩
  · have t1 : ((n' : Int) == 0) = false := by simp [h0]
    obtain ⟨bb, off, rfl, _, _, cc, _⟩ := hs.int_at 0 (by omega)
    have hd : decide (0 < b.length) = true := by simp; omega
    rw [hd]
    rw [Nat.add_zero] at cc
    generalize b.getD 0 0 = y at *
    clear hs hl hd
    have hpos : (0 : Int) < (n' : Int) := by omega
    go_enter Tryz.func24, Tryz.ntmps24
    go_wp2_with fail
    refine bodyPost_ret (results_tmp2 rfl _ _ _) rfl ?_
    exact ⟨rfl, rfl, Below.refl _ _⟩
end Go.Proofs.YtcppkpcbfadapaaGreat
