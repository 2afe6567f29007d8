/-
  A tick of an engine in which nobody is (layer 43); a request that is not there; a request without a bundle.
  Conditions: the engine that the law makes.
-/
import Derived.Test.YtcppkpcbfadapaaGreatChecked
import Derived.Test.YtcppkpcbfadapaaGreatEngC
namespace Go.Proofs.YtcppkpcbfadapaaGreat
set_option linter.unusedVariables false
set_option linter.unusedSimpArgs false
open Go.RowKit Go.ChangeShapes Go.WideShapes
set_option maxRecDepth 100000
set_option maxHeartbeats 3200000

theorem LineNone.away {w w' : World} {g k : Nat} (h : LineNone w g) (hg : w.grownBy w' (some k)) (hne : g ≠ k) : LineNone w' g := ⟨cell_grown hg h.many (by simpa using hne)⟩
theorem Sl.empty {t : Ty Int} {w w' : World} {S S' : Nat → Prop} {A : Option Addr} {n c : Nat} (h : Sl t w S A n c []) : Sl t w' S' A n c [] := ⟨h.n_eq, h.cap_le, h.max_le, h.nil_, fun i x hx => by simp at hx⟩
theorem RingAt.away0 {w w' : World} {g k : Nat} {m : Int} (h : RingAt w g [] [] m) (hg : w.grownBy w' (some k)) (hne : g ≠ k) : RingAt w' g [] [] m := by
  obtain ⟨A, n, c, A', n', c', h1, h2, h3⟩ := h.out
  exact ⟨A, n, c, A', n', c', ⟨(hg.block g h1.lt (by simpa using hne)).trans h1.heap⟩, h2.empty, h3.empty⟩
theorem StoreAt.away0 {w w' : World} {g b k : Nat} {m : Int} (h : StoreAt w g b m []) (hg : w.grownBy w' (some k)) (h1 : g ≠ k) (h2 : b ≠ k) : StoreAt w' g b m [] := by
  obtain ⟨D, vs, ⟨k1, k2, k3, k4, k5, k6⟩⟩ := h.out
  exact ⟨D, vs, ⟨⟨(hg.block g k1.lt (by simpa using h1)).trans k1.heap⟩, k2.kept hg (by simpa using h2), k3, k4, k5, fun i r hi => by simp at hi⟩⟩
theorem Blk.away0 {w w' : World} {g k : Nat} {e : TypeId} {cs : Array Value} (h : Blk w g e cs) (hg : w.grownBy w' (some k)) (hne : g ≠ k) : Blk w' g e cs := ⟨(hg.block g h.lt (by simpa using hne)).trans h.heap⟩

theorem ringRoom0 (g : Nat) (w : World) (h : RingAt w g [] [] 1) : Calls Tryz.prog 54 #[.pointer (some ⟨g, 0, none⟩)] w fun e w' => e = .returned (.int .i64 1) ∧ Below w.heap.size w w' :=
  ringRoom_any g [] [] 1 w h (by simp) (by omega)
theorem ringNext0 (g : Nat) (w : World) (h : RingAt w g [] [] 1) : Calls Tryz.prog 24 #[.pointer (some ⟨g, 0, none⟩)] w fun e w' => e = .returned (.tuple #[.int .i64 0, .bool false]) ∧ Below w.heap.size w w' :=
  (ringNext_any g [] [] 1 w h).mono fun e w' ⟨h1, _, h3⟩ => ⟨h1, h3⟩

theorem fill_any (ge ga gl gr gs gm : Nat) (b g t : Int) (w : World) (h : EngAt w ge ga gl gr gs gm b g t) :
    Calls Tryz.prog 23 #[.pointer (some ⟨ge, 0, none⟩)] w fun e w' => e = .returned (.tuple #[]) ∧ Below w.heap.size w w' := by
  have H := Lib.hid h
  clear h
  go_enter Tryz.func23, Tryz.ntmps23
  go_wp2_with fail
  go_loopw [] (fun wr => Below w.heap.size w wr) (fun _ => 0)
  case atStart => exact Below.refl _ _
  case round =>
    have HR := Lib.hid hrel
    have E1 := Lib.hid (H.out.later hrel)
    clear hrel
    have c2 : wr.cell? ⟨ge, 2, none⟩ = some (.pointer (some ⟨gr, 0, none⟩)) := E1.out.eng.cell 2
    go_wp2_with fail
    refine (ringRoom0 gr _ E1.out.ring).mono ?_
    rintro e w2 ⟨rfl, b2⟩
    have G2 := Lib.hid (below_call HR.out b2 HR.out.size)
    have E2 := Lib.hid (E1.out.later b2)
    clear b2 c2
    have c1 : w2.cell? ⟨ge, 1, none⟩ = some (.pointer (some ⟨gl, 0, none⟩)) := E2.out.eng.cell 1
    go_wp2_with fail
    refine (linePop_any gl _ E2.out.line).mono ?_
    rintro e w3 ⟨rfl, rfl⟩
    go_wp2_with fail
    ((try simp only [Exit.inBlock, Exit.then]); refine bodyPost_ret (results_none rfl _ _ _) rfl ?_)
    exact ⟨rfl, G2.out⟩

theorem tick_any (ge ga gl gr gs gm : Nat) (w : World) (h : EngAt w ge ga gl gr gs gm 0 0 0) :
    Calls Tryz.prog 7 #[.pointer (some ⟨ge, 0, none⟩), .int .i64 20] w fun e w' => e = .returned (.tuple #[.int .i64 0, .int .i64 0]) ∧ EngAt w' ge ga gl gr gs gm 9 20 1 ∧ (∀ B, B ≤ ga → B ≤ w.heap.size → Below B w w') := by
  have H := Lib.hid h
  have q1 := h.al
  have q2 := h.lr
  have q3 := h.rm
  have q4 := h.ms
  have q5 := h.se
  have q6 := h.eng.lt
  have c0 : w.cell? ⟨ge, 0, none⟩ = some (.pointer (some ⟨ga, 0, none⟩)) := h.eng.cell 0
  clear h
  go_enter Tryz.func7, Tryz.ntmps7
  go_wp2_with fail
  refine (accGrant_any ga _ H.out.acc).mono ?_
  rintro e w2 ⟨rfl, A2, g2⟩
  have E2 := Lib.hid (show EngAt w2 ge ga gl gr gs gm 9 20 0 from ⟨H.out.eng.away0 g2 (by omega), A2, H.out.line.away g2 (by omega), H.out.ring.away0 g2 (by omega), H.out.store.away0 g2 (by omega) (by omega), H.out.al, H.out.lr, H.out.rm, H.out.ms, H.out.se⟩)
  have F2 := Lib.hid (show ∀ B, B ≤ ga → B ≤ w.heap.size → Below B w w2 from fun B h1 h2 => (Below.refl _ _).grown g2 h2 (fun k hk => by cases hk; exact h1))
  clear A2 g2 c0
  have c7 : w2.cell? ⟨ge, 9, none⟩ = some (.int .i64 0) := E2.out.eng.cell 9
  go_wp2_with (refine wpList_store_one rfl _ _ _ rfl ge 9 (.int .i64 1) rfl rfl rfl rfl 65 _ (engCells ga gl gr gs 1) E2.out.eng (by simp [engCells]) (by kernel_rfl) rfl ?_; intro w3 B3 g3; have c2 : w3.cell? ⟨ge, 2, none⟩ = some (.pointer (some ⟨gr, 0, none⟩)) := B3.cell 2)

  have E3 := Lib.hid (show EngAt w3 ge ga gl gr gs gm 9 20 1 from ⟨B3, E2.out.acc.away0 g3 (by omega), E2.out.line.away g3 (by omega), E2.out.ring.away0 g3 (by omega), E2.out.store.away0 g3 (by omega) (by omega), H.out.al, H.out.lr, H.out.rm, H.out.ms, H.out.se⟩)
  have F3 := Lib.hid (show ∀ B, B ≤ ga → B ≤ w.heap.size → Below B w w3 from fun B h1 h2 => (F2.out B h1 h2).grown g3 (Nat.le_trans h2 (F2.out B h1 h2).size) (fun k hk => by cases hk; omega))
  clear B3 g3 c7
  refine (ringBegin_any gr [] [] 1 _ E3.out.ring (by simp)).mono ?_
  rintro e w4 ⟨rfl, R4, g4⟩
  have E4 := Lib.hid (show EngAt w4 ge ga gl gr gs gm 9 20 1 from ⟨E3.out.eng.away0 g4 (by omega), E3.out.acc.away0 g4 (by omega), E3.out.line.away g4 (by omega), R4, E3.out.store.away0 g4 (by omega) (by omega), H.out.al, H.out.lr, H.out.rm, H.out.ms, H.out.se⟩)
  have F4 := Lib.hid (show ∀ B, B ≤ ga → B ≤ w.heap.size → Below B w w4 from fun B h1 h2 => (F3.out B h1 h2).grown g4 (Nat.le_trans h2 (F3.out B h1 h2).size) (fun k hk => by cases hk; omega))
  clear R4 g4 c2
  go_wp2_with fail
  refine (fill_any ge ga gl gr gs gm _ _ _ _ E4.out).mono ?_
  rintro e w5 ⟨rfl, b5⟩
  have E5 := Lib.hid (E4.out.later b5)
  have F5 := Lib.hid (show ∀ B, B ≤ ga → B ≤ w.heap.size → Below B w w5 from fun B h1 h2 => (F4.out B h1 h2).trans (b5.mono (Nat.le_trans h2 (F4.out B h1 h2).size)))
  clear b5
  go_wp2_with fail
  go_loopw [7] (fun v wr => v = .int .i64 0 ∧ EngAt wr ge ga gl gr gs gm 9 20 1 ∧ ∀ B, B ≤ ga → B ≤ w.heap.size → Below B w wr) (fun _ _ => 0)
  case atStart => exact ⟨rfl, E5.out, F5.out⟩
  case round =>
    obtain ⟨rfl, hE, hF⟩ := hrel
    have E6 := Lib.hid hE
    have F6 := Lib.hid hF
    have c2 : wr.cell? ⟨ge, 2, none⟩ = some (.pointer (some ⟨gr, 0, none⟩)) := hE.eng.cell 2
    clear hE hF
    go_wp2_with fail
    refine (ringNext0 gr _ E6.out.ring).mono ?_
    rintro e w7 ⟨rfl, b7⟩
    have E7 := Lib.hid (E6.out.later b7)
    have F7 := Lib.hid (show ∀ B, B ≤ ga → B ≤ w.heap.size → Below B w w7 from fun B h1 h2 => (F6.out B h1 h2).trans (b7.mono (Nat.le_trans h2 (F6.out B h1 h2).size)))
    clear b7
    go_wp2_with fail
    go_ret2
    exact ⟨rfl, E7.out, F7.out⟩

theorem submitE_any (ge ga gl gr gs gm : Nat) (b g t : Int) (w : World) (h : EngAt w ge ga gl gr gs gm b g t) :
    Calls Tryz.prog 5 #[.pointer (some ⟨ge, 0, none⟩), .slice none 0 0, .int .i64 0] w fun e w' => e = .returned (.tuple #[.int .i64 0, .int .i64 30]) ∧ Below w.heap.size w w' := by
  have c4 : w.cell? ⟨ge, 4, none⟩ = some (.pointer none) := h.eng.cell 4
  clear h
  have M := Lib.hid (show Calls Tryz.prog 16 #[.pointer (some ⟨ge, 0, none⟩), .slice none 0 0, .int .i64 0] w fun e w' => e = .returned (.int .i64 30) ∧ Below w.heap.size w w' by
    go_enter Tryz.func16, Tryz.ntmps16
    go_wp2_with fail
    go_ret
    exact ⟨rfl, by go_grown⟩)
  clear c4
  go_enter Tryz.func5, Tryz.ntmps5
  go_wp2_with fail
  refine M.out.mono ?_
  rintro e w1 ⟨rfl, h1⟩
  go_wp2_with fail
  go_ret2
  exact ⟨rfl, h1⟩
end Go.Proofs.YtcppkpcbfadapaaGreat
