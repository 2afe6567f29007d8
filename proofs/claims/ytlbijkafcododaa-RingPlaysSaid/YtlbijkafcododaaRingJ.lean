/-
  One more (ring, layer 41), where there is room and it is none of those that are there.
  Conditions: these.
-/
import Derived.Test.YtlbijkafcododaaChecked
import Derived.Test.YtlbijkafcododaaRingI
namespace Go.Proofs.Ytlbijkafcododaa
set_option linter.unusedVariables false
set_option linter.unusedSimpArgs false
open Go.RowKit Go.ChangeShapes Go.WideShapes
set_option maxRecDepth 100000

theorem ringAdd_any (g : Nat) (a b : List Int) (m y : Int) (w : World) (h : RingAt w g a b m) (hn : ((a.length + b.length : Nat) : Int) < m) (hm : 0 ≤ m ∧ m ≤ 1073741824) (hy : 1 ≤ y) (hI : InK .i64 y) (hc : (a ++ b).contains y = false) :
    Calls Try.prog 20 #[.pointer (some ⟨g, 0, none⟩), .int .i64 y] w fun e w' => e = .returned (.int .i64 0) ∧ RingAt w' g a (b ++ [y]) m ∧ w.grownBy w' (some g) := by
  have H := Lib.hid h
  have HI := Lib.hid hI
  have hq0 : a.length + b.length ≤ 1099511627776 := by omega
  have hq : b.length + 1 ≤ 1099511627776 := by omega
  have L := Lib.hid (fun w H => ringList_any g a b m w H hq0)
  have R := Lib.hid (fun w H => ringRoom_any g a b m w H hq0 ⟨hm.1, by omega⟩)
  have hr : ((m - ((a.length + b.length : Nat) : Int)) == 0) = false := by simp; omega
  have CT := Lib.hid (fun A n cap w h => contains_any A n cap (a ++ b) y w h)
  rw [hc] at CT
  have ty : decide (y < 1) = false := by simp; omega
  generalize (m - ((a.length + b.length : Nat) : Int)) = room at *
  clear h hI hc hn hm hq0
  go_enter Try.func20, Try.ntmps20
  go_wp2_with fail
  refine (L.out w H.out).mono ?_
  rintro e w1 ⟨B, q, r, rfl, hs, hb⟩
  have S1 := Lib.hid (hs.more bin_blo)
  have B1 := Lib.hid hb
  clear hs hb
  go_wp2_with fail
  refine (CT.out B q r w1 S1.out).mono ?_
  rintro e w2 ⟨rfl, hb⟩
  have B2 := Lib.hid (below_call B1.out hb B1.out.size)
  clear hb
  go_wp2_with fail
  refine (R.out w2 (H.out.later B2.out)).mono ?_
  rintro e w0 ⟨rfl, hb⟩
  have B3 := Lib.hid (below_call B2.out hb B2.out.size)
  clear hb L R CT
  obtain ⟨A, n, c, A', n', c', hB, hs, hs'⟩ := (H.out.later B3.out).out
  have hl := hs'.n_eq
  rw [hl] at hq
  have c1 : w0.cell? ⟨g, 1, none⟩ = some (.slice A' n' c') := hB.cell 1
  have hlt := hB.lt
  have BB := Lib.hid hB
  have HS := Lib.hid hs
  have HS' := Lib.hid hs'
  clear hB hs hs' hl
  go_wp2_with fail
  have k1 : Below w0.heap.size w0 ((w0.alloc (.cells #[.int .i64 y] 3)).alloc (.cells #[.slice A' n' c', .slice (some ⟨w0.heap.size, 0, none⟩) 1 1] 29)) := ((Below.refl _ _).alloc (Nat.le_refl _) _).alloc (by simp) _
  have bR := Blk.now (w0.alloc (.cells #[.int .i64 y] 3)) (w0.heap.size + 1) 29 #[.slice A' n' c', .slice (some ⟨w0.heap.size, 0, none⟩) 1 1] (by simp)
  refine (joined_any A' (some ⟨w0.heap.size, 0, none⟩) n' c' 1 1 (w0.heap.size + 1) b [y] _ ((HS'.out.more (S' := blo w0.heap.size) (fun _ h => h.1)).later k1 (Nat.le_refl _))
    (Sl.lit [y] (heap_past (heap_now _ _ _ rfl) _) rfl (by simpa using HI.out) (by simp [blo]; omega) rfl rfl (by simp [maxLen])) (bR.cell 0) (bR.cell 1) hq).mono ?_
  rintro e w3 ⟨B, q, r, rfl, s3, hb⟩
  have K3 := Lib.hid (below_call k1 hb k1.size)
  have BB := Lib.hid (BB.out.later K3.out)
  have z3 : w0.heap.size < w3.heap.size := Nat.lt_of_lt_of_le (by simp; omega) hb.size
  have f1 := BB.out.frozen 1
  have c1 := BB.out.cell 1
  have lt3 := BB.out.lt
  have S3 := Lib.hid (s3.more (S' := fun x => x < w3.heap.size ∧ x ≠ g) (fun x hx => ⟨hx.2, fun e => by have := hx.1; simp at this; omega⟩))
  have HS := Lib.hid ((HS.out.below K3.out (fun _ h => h.1)).more (S' := fun x => x < w3.heap.size ∧ x ≠ g) (fun x hx => ⟨Nat.lt_trans hx.1 z3, hx.2⟩))
  clear k1 bR hb s3 HS'
  go_wp2_with fail
  go_ret
  refine ⟨rfl, ⟨A, n, c, _, _, _, BB.out.set_ 1 _, ?_, ?_⟩, grown_trans (below_call B3.out K3.out B3.out.size) (grown_set _ _ _ _)⟩
  · exact (HS.out.keep (w' := w3.setCell ⟨g, 1, none⟩ _) (fun k hk => Below.heap_setCell _ _ _ _ hk.2)).more (fun k hk => ⟨by simpa using hk.1, hk.2⟩)
  · exact (S3.out.keep (w' := w3.setCell ⟨g, 1, none⟩ _) (fun k hk => Below.heap_setCell _ _ _ _ hk.2)).more (fun k hk => ⟨by simpa using hk.1, hk.2⟩)
end Go.Proofs.Ytlbijkafcododaa
