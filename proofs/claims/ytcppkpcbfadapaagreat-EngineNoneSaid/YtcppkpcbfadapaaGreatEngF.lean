/-
  A request that is not there (layer 43: Poll); what must come of fixed calls; an engine that is none answers nothing (the walk of the law EngineNone).
  Conditions: none.
-/
import Derived.Test.YtcppkpcbfadapaaGreatChecked
import Derived.Test.YtcppkpcbfadapaaGreatEngE
import Derived.Test.YtcppkpcbfadapaaGreatStoreP
import Derived.Test.YtcppkpcbfadapaaGreatEqArr
namespace Go.Proofs.YtcppkpcbfadapaaGreat
set_option linter.unusedVariables false
set_option linter.unusedSimpArgs false
open Go.RowKit Go.ChangeShapes Go.WideShapes
set_option maxRecDepth 100000
set_option maxHeartbeats 4000000

theorem pollE_any (ge ga gl gr gs gm : Nat) (b g t : Int) (w : World) (h : EngAt w ge ga gl gr gs gm b g t) :
    Calls Tryz.prog 8 #[.pointer (some ⟨ge, 0, none⟩), .int .i64 1] w fun e w' => e = .returned (.tuple #[.agg #[.int .i64 0, .int .i64 0, .int .i64 0, .int .i64 0, .int .i64 0, .int .i64 0, .slice none 0 0, .int .i64 0, .int .i64 0, .int .i64 0], .int .i64 32]) ∧ Below w.heap.size w w' := by
  have H := Lib.hid h
  clear h
  have FR := Lib.hid (Far.refl w)
  obtain ⟨w1, hw_w1⟩ : ∃ nw_, w.alloc (.cells #[.int .i64 0, .int .i64 0, .int .i64 0, .int .i64 0, .int .i64 0, .int .i64 0, .slice none 0 0, .int .i64 0, .int .i64 0, .int .i64 0] 35) = nw_ := ⟨_, rfl⟩
  have k_w1 : Below w.heap.size w w1 := by rw [← hw_w1]; exact (Below.refl _ _).alloc (Nat.le_refl _) _
  replace FR := Lib.hid (FR.out.fut k_w1)
  have BR := Lib.hid (show Blk w1 w.heap.size 35 #[.int .i64 0, .int .i64 0, .int .i64 0, .int .i64 0, .int .i64 0, .int .i64 0, .slice none 0 0, .int .i64 0, .int .i64 0, .int .i64 0] by rw [← hw_w1]; exact Blk.now _ _ _ _ rfl)
  clear k_w1
  replace H := Lib.hid (H.out.later (show Below w.heap.size w w1 by rw [← hw_w1]; exact (Below.refl _ _).alloc (Nat.le_refl _) _))
  have l1 : w.heap.size < w1.heap.size := by rw [← hw_w1]; simp
  have c3 : w1.cell? ⟨ge, 3, none⟩ = some (.pointer (some ⟨gs, 0, none⟩)) := H.out.eng.cell 3
  go_enter Tryz.func8, Tryz.ntmps8
  go_wp2_with fail
  refine (storeGet_any gs gm 4096 [] 1 _ H.out.store (by rw [inK_i64]; omega) (by intro r h; simp [reqOf] at h)).mono ?_
  rintro e w2 ⟨r, A, n, c, B, q, d, L, nl, cl, rfl, hr, hs, hb⟩
  rw [show (reqOf [] 1).isSome = false from rfl]
  have l2 := hb.size
  clear hw_w1 hr hs c3
  replace FR := Lib.hid (FR.out.fut hb)
  replace BR := Lib.hid (BR.out.fut hb)
  clear hb
  go_wp2_with (first
    | (refine wpList_store_all rfl 75 (.tmp 6) (.tmp 18) rfl w2.heap.size (reqCells r A n c B q d L nl cl) rfl rfl _ _ (Blk.now _ _ _ _ (by simp)) rfl (by kernel_rfl) (by simp [Value.oneCell', reqCells]) ?_; intro w3 B3 g3; have BR3 := Lib.hid (Blk.away0 (Blk.past BR.out _) g3 (by omega)); have F3 := Lib.hid (show Below w.heap.size w w3 from (FR.out.out.alloc FR.out.out.size _).grown g3 (by have := FR.out.out.size; simp; omega) (fun k h => by cases h; have := FR.out.out.size; omega)))
    | (refine wpList_store_all rfl 35 (.tmp 4) (.tmp 22) rfl w.heap.size #[.int .i64 0, .int .i64 0, .int .i64 0, .int .i64 0, .int .i64 0, .int .i64 0, .slice none 0 0, .int .i64 0, .int .i64 0, .int .i64 0] rfl rfl _ _ BR3.out rfl (by kernel_rfl) (by kernel_rfl) ?_; intro w4 B4 g4))
  refine ret_cell_tmp rfl B4 rfl Tryz.underlying35 (by kernel_rfl) rfl ?_
  exact ⟨rfl, F3.out.grown g4 F3.out.size (fun k h => by cases h; exact Nat.le_refl _)⟩

theorem eql1 (w : World) : (Op.equalIn 10000 41 (.agg (statCells 1 20 0 9 0 0 0 0 0 0 0 0 0)) (.agg (statCells 1 20 0 9 0 0 0 0 0 0 0 0 0))).run Tryz.prog w = .ok true w := by kernel_rfl
theorem eql0 (w : World) : (Op.equalIn 10000 41 (.agg (statCells 0 0 0 0 0 0 0 0 0 0 0 0 0)) (.agg (statCells 0 0 0 0 0 0 0 0 0 0 0 0 0))).run Tryz.prog w = .ok true w := by kernel_rfl

theorem known43_any (w : World) : Calls Tryz.prog 4 #[] w fun e w' => e = .returned (.bool true) ∧ Below w.heap.size w w' := by
  go_enter Tryz.func4, Tryz.ntmps4
  go_wp2_with fail
  refine (engNew_any _).mono ?_
  rintro e w1 ⟨ge, ga, gl, gr, gs, gm, rfl, hE, hga, hb⟩
  have H1 := Lib.hid hE
  have G1 := Lib.hid hb
  clear hE hb
  go_wp2_with fail
  refine (submitE_any ge ga gl gr gs gm _ _ _ _ H1.out).mono ?_
  rintro e w2 ⟨rfl, hb⟩
  have H2 := Lib.hid (H1.out.later hb)
  have G2 := Lib.hid (below_call G1.out hb G1.out.size)
  clear hb H1
  go_wp2_with fail
  refine (pollE_any ge ga gl gr gs gm _ _ _ _ H2.out).mono ?_
  rintro e w3 ⟨rfl, hb⟩
  have H3 := Lib.hid (H2.out.later hb)
  have G3 := Lib.hid (below_call G2.out hb G2.out.size)
  clear hb H2
  go_wp2_with (refine wpList_store_all rfl 35 (.tmp 5) (.tmp 24) rfl w3.heap.size #[.int .i64 0, .int .i64 0, .int .i64 0, .int .i64 0, .int .i64 0, .int .i64 0, .slice none 0 0, .int .i64 0, .int .i64 0, .int .i64 0] rfl rfl _ _ (Blk.now _ _ _ _ (by simp)) rfl (by kernel_rfl) (by kernel_rfl) ?_; intro w4 B4 g4)
  have K4 := Lib.hid (show Below w3.heap.size w3 w4 from ((Below.refl _ _).alloc (Nat.le_refl _) _).grown g4 (by simp) (fun k h => by cases h; exact Nat.le_refl _))
  have H4 := Lib.hid (H3.out.later K4.out)
  have G4 := Lib.hid (below_call G3.out K4.out G3.out.size)
  clear B4 g4 H3
  refine (tick_any ge ga gl gr gs gm _ H4.out).mono ?_
  rintro e w5 ⟨rfl, hE, hF⟩
  have H5 := Lib.hid hE
  have G5 := Lib.hid (show Below w.heap.size w w5 from G4.out.trans (hF _ hga G4.out.size))
  clear hE hF H4
  go_wp2_with fail
  refine (stats_any ge ga gl gr gs gm _ H5.out).mono ?_
  rintro e w6 ⟨rfl, hb⟩
  have G6 := Lib.hid (below_call G5.out hb G5.out.size)
  clear hb
  go_wp2_with (refine wpList_eql_agg 41 _ (.tmp 47) (.tmp 48) rfl (statCells 1 20 0 9 0 0 0 0 0 0 0 0 0) (statCells 1 20 0 9 0 0 0 0 0 0 0 0 0) rfl rfl (by rfl) (by kernel_rfl) _ (eql1 _) ?_)
  go_ret
  exact ⟨rfl, G6.out⟩

theorem engineNone_any (A : Option Addr) (n cap : Nat) (l : List Int) (x : Int) (w : World) (h : Sl (tInt .u8) w (blo w.heap.size) A n cap l) :
    Calls Tryz.prog 3 #[.slice A n cap, .int .i64 x] w fun e w' => e = .returned (.bool true) ∧ Below w.heap.size w w' := by
  have hm : n ≤ 9223372036854775807 := Nat.le_trans h.cap_le h.max_le
  by_cases c1 : 1000 < n
  · have t1 : decide ((1000 : Int) < (n : Int)) = true := by simp; omega
    clear c1 h
    go_enter Tryz.func3, Tryz.ntmps3
    go_wp2_with (go_at_call 4; refine (known43_any _).mono ?_; rintro e w' ⟨rfl, hb'⟩)
    go_ret
    exact ⟨rfl, hb'⟩
  have t1 : decide ((1000 : Int) < (n : Int)) = false := by simp; omega
  have H := Lib.hid h
  have hn : n ≤ 1000 := by omega
  clear c1 h
  go_enter Tryz.func3, Tryz.ntmps3
  go_wp2_with fail
  refine (small43_any A n cap l _ H.out hn).mono ?_
  rintro e w1 ⟨⟨B, m, c, rfl⟩, b1⟩
  go_wp2_with fail
  refine (submitNil_any _ _ _ _ _).mono ?_
  rintro e w2 ⟨rfl, b2⟩
  have g2 := below_call b1 b2 b1.size
  clear b1 b2
  go_wp2_with fail
  refine (tickNil_any _ _).mono ?_
  rintro e w3 ⟨rfl, b3⟩
  have g3 := below_call g2 b3 g2.size
  clear g2 b3
  go_wp2_with fail
  refine (pollNil_any _ _).mono ?_
  rintro e w4 ⟨rfl, b4⟩
  have g4 := below_call g3 b4 g3.size
  clear g3 b4
  go_wp2_with (refine wpList_store_all rfl 35 (.tmp 10) (.tmp 34) rfl w4.heap.size #[.int .i64 0, .int .i64 0, .int .i64 0, .int .i64 0, .int .i64 0, .int .i64 0, .slice none 0 0, .int .i64 0, .int .i64 0, .int .i64 0] rfl rfl _ _ (Blk.now _ _ _ _ (by simp)) rfl (by kernel_rfl) (by kernel_rfl) ?_; intro w5 B5 k5)
  have g5 : Below w.heap.size w w5 := (g4.alloc g4.size _).grown k5 (by have := g4.size; simp; omega) (fun k h => by cases h; exact g4.size)
  clear B5 k5 g4
  refine (loadNil_any _ _ _ _).mono ?_
  rintro e w6 ⟨rfl, b6⟩
  have g6 := below_call g5 b6 g5.size
  clear g5 b6
  go_wp2_with fail
  refine (cancelNil_any _ _).mono ?_
  rintro e w7 ⟨rfl, b7⟩
  have g7 := below_call g6 b7 g6.size
  clear g6 b7
  go_wp2_with fail
  refine (statsNil_any _).mono ?_
  rintro e w8 ⟨rfl, b8⟩
  have g8 := below_call g7 b8 g7.size
  clear g7 b8
  go_wp2_with (refine wpList_eql_agg 41 _ (.tmp 60) (.tmp 61) rfl (statCells 0 0 0 0 0 0 0 0 0 0 0 0 0) (statCells 0 0 0 0 0 0 0 0 0 0 0 0 0) rfl rfl (by rfl) (by kernel_rfl) _ (eql0 _) ?_)
  refine (netNil_any _).mono ?_
  rintro e w9 ⟨rfl, b9⟩
  have g9 := below_call g8 b9 g8.size
  clear g8 b9
  go_wp2_with fail
  refine (waitingNil_any _).mono ?_
  rintro e wa ⟨rfl, ba⟩
  have ga := below_call g9 ba g9.size
  clear g9 ba
  go_wp2_with fail
  refine (runningNil_any _).mono ?_
  rintro e wb ⟨rfl, bb⟩
  have gb := below_call ga bb ga.size
  clear ga bb
  go_wp2_with fail
  refine (known43_any _).mono ?_
  rintro e wc ⟨rfl, bc⟩
  have gc := below_call gb bc gb.size
  clear gb bc
  go_wp2_with fail
  go_ret
  exact ⟨rfl, gc⟩

theorem engineNone_walk (A : Option Addr) (n cap : Nat) (l : List Int) {W : World} (h : Sl (tInt .u8) W (blo W.heap.size) A n cap l) (x : Int) (k : InK .i64 x) (w : World) (e : W = w) :
    Calls Tryz.prog 3 #[.slice A n cap, .int .i64 x] w fun e w' => e = .returned (.bool true) ∧ Below w.heap.size w w' := by
  subst e
  exact engineNone_any A n cap l x W h

theorem opens_u8s : Opens Tryz.prog 22 (tSlice (tInt .u8)) := opens_slice Tryz.underlying22 (by kernel_rfl) (by decide) (opens_int Tryz.underlying5 (by kernel_rfl))
end Go.Proofs.YtcppkpcbfadapaaGreat
