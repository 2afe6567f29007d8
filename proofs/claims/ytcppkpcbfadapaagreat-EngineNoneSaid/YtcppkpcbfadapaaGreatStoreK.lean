/-
  store.open, running: the walks (layer 42).
  Conditions: none.
-/
import Derived.Test.YtcppkpcbfadapaaGreatChecked
import Derived.Test.YtcppkpcbfadapaaGreatStoreJ
namespace Go.Proofs.YtcppkpcbfadapaaGreat
set_option linter.unusedVariables false
set_option linter.unusedSimpArgs false
open Go.RowKit Go.ChangeShapes Go.WideShapes
set_option maxRecDepth 100000
set_option maxHeartbeats 1000000

/-- What open and running hand back. -/
def RetReq (w0 : World) (b : Nat) (code : Int) (ro : Option Req) (w : World) (e : Ending) (w' : World) : Prop :=
  ∃ r A n c B q d L nl cl, e = .returned (.tuple #[.agg (reqCells r A n c B q d L nl cl), .int .i64 code]) ∧ (code = 0 → ro = some r) ∧ ReqSl w' (offM w0 b) r A n c B q d L nl cl ∧ Below w.heap.size w w'

theorem storeOpen_any (g b : Nat) (m : Int) (rs : List Req) (id : Int) (w0 w : World) (h : StoreAt w0 g b m rs) (hw : Below w0.heap.size w0 w) (hid : InK .i64 id) :
    Calls Tryz.prog 79 #[.pointer (some ⟨g, 0, none⟩), .int .i64 id] w (RetReq w0 b (openCode rs id) (reqOf rs id) w) := by
  have k0 : Below w.heap.size w (w.alloc (.cells noCells 75)) := (Below.refl _ _).alloc (Nat.le_refl _) _
  have K0 := Lib.hid hw
  have H1 := h.later (below_call hw k0 hw.size)
  have B0 := Lib.hid (Blk.now w w.heap.size 75 noCells rfl)
  have c0 := H1.cells.1
  obtain ⟨r, A, n, c, B, q, d, L, nl, cl, hrun0, hr, hs⟩ := h.look id hid
  have hrun := hrun0 _ (below_call hw k0 hw.size)
  clear hrun0
  have HS := Lib.hid hs
  have KB := Lib.hid (show b < w.heap.size from by obtain ⟨D0, vs0, hin0⟩ := h.out; exact Nat.lt_of_lt_of_le hin0.own.lt hw.size)
  clear h H1 hs hw
  obtain ⟨is, his⟩ : ∃ is, (reqOf rs id).isSome = is := ⟨_, rfl⟩
  obtain ⟨code, hcode⟩ : ∃ code, openCode rs id = code := ⟨_, rfl⟩
  obtain ⟨ro, hro⟩ : ∃ ro, reqOf rs id = ro := ⟨_, rfl⟩
  unfold openCode at hcode
  rw [hro] at hr his hcode ⊢
  unfold openCode
  rw [hro]
  rw [hcode]
  rw [hro, his] at hrun
  cases ro with
  | none =>
    obtain rfl : false = is := his
    obtain rfl : (32 : Int) = code := hcode
    obtain rfl : r = noReq := hr
    clear hro
    unfold noCells at k0 B0 c0 hrun
    go_enter Tryz.func79, Tryz.ntmps79
    obtain ⟨w1, hw1⟩ : ∃ w1, w.alloc (.cells noCells 75) = w1 := ⟨_, rfl⟩
    unfold noCells at hw1
    rw [hw1] at k0 B0 c0 hrun
    have lt0 := B0.out.lt
    go_wp2_with (first
      | (refine wpList_store_all rfl 75 (.tmp 6) (.tmp 18) rfl (w1.heap.size) (reqCells noReq A n c B q d L nl cl) rfl rfl _ _ (Blk.now _ _ _ _ rfl) rfl (by kernel_rfl) (by simp [Value.oneCell', reqCells]) ?_; intro w2 B2 g2; have G2 := Lib.hid g2; have s2 := B2.cell 1)
      | (refine wpList_store_all rfl 75 (.tmp 4) (.tmp 23) rfl (w.heap.size) (noCells) rfl rfl _ _ (show Blk w2 w.heap.size _ _ from ⟨(G2.out.block _ (by simp; omega) (by intro e; have := Option.some.inj e; omega)).trans (B0.out.past _).heap⟩) rfl (by kernel_rfl) (by kernel_rfl) ?_; intro w3 B3 g3; have G3 := Lib.hid g3))
    refine ret_cell_tmp rfl B3 rfl Tryz.underlying75 (by kernel_rfl) rfl ?_
    have z2 := G2.out.size
    have z3 := G3.out.size
    have bb := KB.out
    simp at z2
    have hbw : Below w.heap.size w w3 := ((k0.alloc k0.size _).grown G2.out (by simp; omega) (fun k h => by have := Option.some.inj h; omega)).grown G3.out (by omega) (fun k h => by have := Option.some.inj h; omega)
    exact ⟨noReq, none, 0, 0, none, 0, 0, none, 0, 0, rfl, by decide, ReqSl.none _ _, hbw⟩
  | some r' =>
    obtain rfl : true = is := his
    obtain rfl : r = r' := hr
    clear hro
    unfold noCells at k0 B0 c0 hrun
    replace hcode : (if r.state = 1 ∨ r.state = 2 then (0 : Int) else 33) = code := hcode
    obtain ⟨sv, hsv⟩ : ∃ sv, r.state = sv := ⟨_, rfl⟩
    by_cases h1 : r.state = 1
    · rw [if_pos (.inl h1)] at hcode
      obtain rfl : (0 : Int) = code := hcode
      have t1 : (r.state != 1) = false := by simp [h1]
      clear h1 hsv
      go_enter Tryz.func79, Tryz.ntmps79
      obtain ⟨w1, hw1⟩ : ∃ w1, w.alloc (.cells noCells 75) = w1 := ⟨_, rfl⟩
      unfold noCells at hw1
      rw [hw1] at k0 B0 c0 hrun
      have lt0 := B0.out.lt
      go_wp2_with (first
        | (refine wpList_store_all rfl 75 (.tmp 6) (.tmp 18) rfl (w1.heap.size) (reqCells r A n c B q d L nl cl) rfl rfl _ _ (Blk.now _ _ _ _ rfl) rfl (by kernel_rfl) (by simp [Value.oneCell', reqCells]) ?_; intro w2 B2 g2; have G2 := Lib.hid g2; have s2 : w2.cell? ⟨w1.heap.size, 1, none⟩ = some (.int .i64 r.state) := B2.cell 1)
        | (refine wpList_load_row rfl 75 (.tmp 6) rfl w1.heap.size rfl _ _ (0, 0) _ B2.heap Tryz.underlying75 rfl (by kernel_rfl) ?_)
        | (refine wpList_store_all rfl 75 (.tmp 4) (.tmp 34) rfl (w.heap.size) (reqCells r A n c B q d L nl cl) rfl rfl _ _ (show Blk w2 w.heap.size _ _ from ⟨(G2.out.block _ (by simp; omega) (by intro e; have := Option.some.inj e; omega)).trans (B0.out.past _).heap⟩) rfl (by kernel_rfl) (by simp [Value.oneCell', reqCells]) ?_; intro w3 B3 g3; have G3 := Lib.hid g3))
      refine ret_cell_tmp rfl B3 rfl Tryz.underlying75 (by kernel_rfl) rfl ?_
      have z2 := G2.out.size
      have z3 := G3.out.size
      have bb := KB.out
      simp at z2
      have hbw : Below w.heap.size w w3 := ((k0.alloc k0.size _).grown G2.out (by simp; omega) (fun k h => by have := Option.some.inj h; omega)).grown G3.out (by omega) (fun k h => by have := Option.some.inj h; omega)
      exact ⟨r, A, n, c, B, q, d, L, nl, cl, rfl, fun _ => rfl, HS.out.keep (fun x hx => hbw.block x (Nat.lt_of_lt_of_le hx.1 K0.out.size) |>.trans (K0.out.block x hx.1)), hbw⟩
    · by_cases h2 : r.state = 2
      · rw [if_pos (.inr h2)] at hcode
        obtain rfl : (0 : Int) = code := hcode
        have t1 : (r.state != 1) = true := by simp [h1]
        have t2 : (r.state != 2) = false := by simp [h2]
        clear h1 h2 hsv
        go_enter Tryz.func79, Tryz.ntmps79
        obtain ⟨w1, hw1⟩ : ∃ w1, w.alloc (.cells noCells 75) = w1 := ⟨_, rfl⟩
        unfold noCells at hw1
        rw [hw1] at k0 B0 c0 hrun
        have lt0 := B0.out.lt
        go_wp2_with (first
          | (refine wpList_store_all rfl 75 (.tmp 6) (.tmp 18) rfl (w1.heap.size) (reqCells r A n c B q d L nl cl) rfl rfl _ _ (Blk.now _ _ _ _ rfl) rfl (by kernel_rfl) (by simp [Value.oneCell', reqCells]) ?_; intro w2 B2 g2; have G2 := Lib.hid g2; have s2 : w2.cell? ⟨w1.heap.size, 1, none⟩ = some (.int .i64 r.state) := B2.cell 1)
          | (refine wpList_load_row rfl 75 (.tmp 6) rfl w1.heap.size rfl _ _ (0, 0) _ B2.heap Tryz.underlying75 rfl (by kernel_rfl) ?_)
          | (refine wpList_store_all rfl 75 (.tmp 4) (.tmp 34) rfl (w.heap.size) (reqCells r A n c B q d L nl cl) rfl rfl _ _ (show Blk w2 w.heap.size _ _ from ⟨(G2.out.block _ (by simp; omega) (by intro e; have := Option.some.inj e; omega)).trans (B0.out.past _).heap⟩) rfl (by kernel_rfl) (by simp [Value.oneCell', reqCells]) ?_; intro w3 B3 g3; have G3 := Lib.hid g3))
        refine ret_cell_tmp rfl B3 rfl Tryz.underlying75 (by kernel_rfl) rfl ?_
        have z2 := G2.out.size
        have z3 := G3.out.size
        have bb := KB.out
        simp at z2
        have hbw : Below w.heap.size w w3 := ((k0.alloc k0.size _).grown G2.out (by simp; omega) (fun k h => by have := Option.some.inj h; omega)).grown G3.out (by omega) (fun k h => by have := Option.some.inj h; omega)
        exact ⟨r, A, n, c, B, q, d, L, nl, cl, rfl, fun _ => rfl, HS.out.keep (fun x hx => hbw.block x (Nat.lt_of_lt_of_le hx.1 K0.out.size) |>.trans (K0.out.block x hx.1)), hbw⟩
      · rw [if_neg (by rintro (h | h) <;> contradiction)] at hcode
        obtain rfl : (33 : Int) = code := hcode
        have t1 : (r.state != 1) = true := by simp [h1]
        have t2 : (r.state != 2) = true := by simp [h2]
        clear h1 h2 hsv
        go_enter Tryz.func79, Tryz.ntmps79
        obtain ⟨w1, hw1⟩ : ∃ w1, w.alloc (.cells noCells 75) = w1 := ⟨_, rfl⟩
        unfold noCells at hw1
        rw [hw1] at k0 B0 c0 hrun
        have lt0 := B0.out.lt
        go_wp2_with (first
          | (refine wpList_store_all rfl 75 (.tmp 6) (.tmp 18) rfl (w1.heap.size) (reqCells r A n c B q d L nl cl) rfl rfl _ _ (Blk.now _ _ _ _ rfl) rfl (by kernel_rfl) (by simp [Value.oneCell', reqCells]) ?_; intro w2 B2 g2; have G2 := Lib.hid g2; have s2 : w2.cell? ⟨w1.heap.size, 1, none⟩ = some (.int .i64 r.state) := B2.cell 1)
          | (refine wpList_store_all rfl 75 (.tmp 4) (.tmp 33) rfl (w.heap.size) (noCells) rfl rfl _ _ (show Blk w2 w.heap.size _ _ from ⟨(G2.out.block _ (by simp; omega) (by intro e; have := Option.some.inj e; omega)).trans (B0.out.past _).heap⟩) rfl (by kernel_rfl) (by kernel_rfl) ?_; intro w3 B3 g3; have G3 := Lib.hid g3))
        refine ret_cell_tmp rfl B3 rfl Tryz.underlying75 (by kernel_rfl) rfl ?_
        have z2 := G2.out.size
        have z3 := G3.out.size
        have bb := KB.out
        simp at z2
        have hbw : Below w.heap.size w w3 := ((k0.alloc k0.size _).grown G2.out (by simp; omega) (fun k h => by have := Option.some.inj h; omega)).grown G3.out (by omega) (fun k h => by have := Option.some.inj h; omega)
        exact ⟨noReq, none, 0, 0, none, 0, 0, none, 0, 0, rfl, (fun h => absurd h (by decide)), ReqSl.none _ _, hbw⟩
theorem storeRunning_any (g b : Nat) (m : Int) (rs : List Req) (id : Int) (w0 w : World) (h : StoreAt w0 g b m rs) (hw : Below w0.heap.size w0 w) (hid : InK .i64 id) :
    Calls Tryz.prog 96 #[.pointer (some ⟨g, 0, none⟩), .int .i64 id] w (RetReq w0 b (runCode rs id) (reqOf rs id) w) := by
  have k0 : Below w.heap.size w (w.alloc (.cells noCells 75)) := (Below.refl _ _).alloc (Nat.le_refl _) _
  have H := Lib.hid h
  have B0 := Lib.hid (Blk.now w w.heap.size 75 noCells rfl)
  have K0 := Lib.hid hw
  clear h hw
  obtain ⟨oc, hoc⟩ : ∃ oc, openCode rs id = oc := ⟨_, rfl⟩
  obtain ⟨rc, hrc⟩ : ∃ rc, runCode rs id = rc := ⟨_, rfl⟩
  obtain ⟨ro, hro⟩ : ∃ ro, reqOf rs id = ro := ⟨_, rfl⟩
  have N := Lib.hid (storeOpen_any g b m rs id w0 (w.alloc (.cells noCells 75)) H.out (below_call K0.out k0 K0.out.size) hid)
  rw [hoc, hro] at N
  rw [hrc, hro]
  unfold openCode at hoc
  unfold runCode at hrc
  rw [hro] at hoc hrc
  clear hro
  go_enter Tryz.func96, Tryz.ntmps96
  unfold noCells at N
  go_wp2_with fail
  refine N.out.mono ?_
  rintro e w1 ⟨r, A, n, c, B, q, d, L, nl, cl, rfl, hr, hs, b1⟩
  have B1 := Lib.hid (B0.out.later b1)
  have c1 := below_call k0 b1 k0.size
  have HS := Lib.hid hs
  have lt1 := B1.out.lt
  clear N B0 hs b1 k0
  by_cases h0 : oc = 0
  · have hr := hr h0
    subst hr
    replace hoc : (if r.state = 1 ∨ r.state = 2 then (0 : Int) else 33) = oc := hoc
    replace hrc : (if r.state = 1 then (31 : Int) else if r.state = 2 then 0 else 33) = rc := hrc
    subst h0
    by_cases h1 : r.state = 1
    · rw [if_pos h1] at hrc
      subst hrc
      have t1 : (r.state == 1) = true := by simp [h1]
      clear h1 hoc
      go_wp2_with (first
        | (refine wpList_store_all rfl 75 (.tmp 6) (.tmp 12) rfl (w1.heap.size) (reqCells r A n c B q d L nl cl) rfl rfl _ _ (Blk.now _ _ _ _ rfl) rfl (by kernel_rfl) (by simp [Value.oneCell', reqCells]) ?_; intro w2 B2 g2; have G2 := Lib.hid g2; have s2 : w2.cell? ⟨w1.heap.size, 1, none⟩ = some (.int .i64 r.state) := B2.cell 1)
        | (refine wpList_store_all rfl 75 (.tmp 4) (.tmp 21) rfl (w.heap.size) (noCells) rfl rfl _ _ (show Blk w2 w.heap.size _ _ from ⟨(G2.out.block _ (by simp; omega) (by intro e; have := Option.some.inj e; omega)).trans (B1.out.past _).heap⟩) rfl (by kernel_rfl) (by kernel_rfl) ?_; intro w3 B3 g3; have G3 := Lib.hid g3))
      refine ret_cell_tmp rfl B3 rfl Tryz.underlying75 (by kernel_rfl) rfl ?_
      have z2 := G2.out.size
      have z3 := G3.out.size
      simp at z2
      have z1 := c1.size
      have hb1 : Below w1.heap.size w1 w2 := ((Below.refl _ _).alloc (Nat.le_refl _) _).grown G2.out (by simp) (fun k h => by have := Option.some.inj h; omega)
      have hbw : Below w.heap.size w w3 := ((c1.alloc c1.size _).grown G2.out (by simp; omega) (fun k h => by have := Option.some.inj h; omega)).grown G3.out (by omega) (fun k h => by have := Option.some.inj h; omega)
      exact ⟨noReq, none, 0, 0, none, 0, 0, none, 0, 0, rfl, (fun h => absurd h (by decide)), ReqSl.none _ _, hbw⟩
    · rw [if_neg h1] at hrc
      have h2 : r.state = 2 := by
        rcases Classical.em (r.state = 2) with h | h
        · exact h
        · rw [if_neg (by rintro (h' | h') <;> contradiction)] at hoc; cases hoc
      rw [if_pos h2] at hrc
      subst hrc
      have t1 : (r.state == 1) = false := by simp [h1]
      clear h1 h2 hoc
      go_wp2_with (first
        | (refine wpList_store_all rfl 75 (.tmp 6) (.tmp 12) rfl (w1.heap.size) (reqCells r A n c B q d L nl cl) rfl rfl _ _ (Blk.now _ _ _ _ rfl) rfl (by kernel_rfl) (by simp [Value.oneCell', reqCells]) ?_; intro w2 B2 g2; have G2 := Lib.hid g2; have s2 : w2.cell? ⟨w1.heap.size, 1, none⟩ = some (.int .i64 r.state) := B2.cell 1)
        | (refine wpList_load_row rfl 75 (.tmp 6) rfl w1.heap.size rfl _ _ (0, 0) _ B2.heap Tryz.underlying75 rfl (by kernel_rfl) ?_)
        | (refine wpList_store_all rfl 75 (.tmp 4) (.tmp 22) rfl (w.heap.size) (reqCells r A n c B q d L nl cl) rfl rfl _ _ (show Blk w2 w.heap.size _ _ from ⟨(G2.out.block _ (by simp; omega) (by intro e; have := Option.some.inj e; omega)).trans (B1.out.past _).heap⟩) rfl (by kernel_rfl) (by simp [Value.oneCell', reqCells]) ?_; intro w3 B3 g3; have G3 := Lib.hid g3))
      refine ret_cell_tmp rfl B3 rfl Tryz.underlying75 (by kernel_rfl) rfl ?_
      have z2 := G2.out.size
      have z3 := G3.out.size
      simp at z2
      have z1 := c1.size
      have hb1 : Below w1.heap.size w1 w2 := ((Below.refl _ _).alloc (Nat.le_refl _) _).grown G2.out (by simp) (fun k h => by have := Option.some.inj h; omega)
      have hbw : Below w.heap.size w w3 := ((c1.alloc c1.size _).grown G2.out (by simp; omega) (fun k h => by have := Option.some.inj h; omega)).grown G3.out (by omega) (fun k h => by have := Option.some.inj h; omega)
      exact ⟨r, A, n, c, B, q, d, L, nl, cl, rfl, fun _ => rfl, HS.out.keep (fun x hx => by
          have h1 := hx.1
          have h2 := K0.out.size
          exact (G3.out.block x (by omega) (by intro e; have := Option.some.inj e; omega)).trans (hb1.block x (by omega))), hbw⟩
  · have ho : oc = rc := by
      cases ro with
      | none => exact hoc.symm.trans hrc
      | some r' =>
        replace hoc : (if r'.state = 1 ∨ r'.state = 2 then (0 : Int) else 33) = oc := hoc
        replace hrc : (if r'.state = 1 then (31 : Int) else if r'.state = 2 then 0 else 33) = rc := hrc
        by_cases h12 : r'.state = 1 ∨ r'.state = 2
        · rw [if_pos h12] at hoc; exact absurd hoc.symm h0
        · rw [if_neg h12] at hoc
          rw [if_neg (fun h => h12 (.inl h)), if_neg (fun h => h12 (.inr h))] at hrc
          rw [← hoc, ← hrc]
    subst ho
    have t0 : (oc == 0) = false := by simp [h0]
    have ht0 := Lib.hid h0
    clear hoc hrc h0
    go_wp2_with (first
      | (refine wpList_store_all rfl 75 (.tmp 6) (.tmp 12) rfl (w1.heap.size) (reqCells r A n c B q d L nl cl) rfl rfl _ _ (Blk.now _ _ _ _ rfl) rfl (by kernel_rfl) (by simp [Value.oneCell', reqCells]) ?_; intro w2 B2 g2; have G2 := Lib.hid g2; have s2 : w2.cell? ⟨w1.heap.size, 1, none⟩ = some (.int .i64 r.state) := B2.cell 1)
      | (refine wpList_load_row rfl 75 (.tmp 6) rfl w1.heap.size rfl _ _ (0, 0) _ B2.heap Tryz.underlying75 rfl (by kernel_rfl) ?_)
      | (refine wpList_store_all rfl 75 (.tmp 4) (.tmp 22) rfl (w.heap.size) (reqCells r A n c B q d L nl cl) rfl rfl _ _ (show Blk w2 w.heap.size _ _ from ⟨(G2.out.block _ (by simp; omega) (by intro e; have := Option.some.inj e; omega)).trans (B1.out.past _).heap⟩) rfl (by kernel_rfl) (by simp [Value.oneCell', reqCells]) ?_; intro w3 B3 g3; have G3 := Lib.hid g3))
    refine ret_cell_tmp rfl B3 rfl Tryz.underlying75 (by kernel_rfl) rfl ?_
    have z2 := G2.out.size
    have z3 := G3.out.size
    simp at z2
    have z1 := c1.size
    have hb1 : Below w1.heap.size w1 w2 := ((Below.refl _ _).alloc (Nat.le_refl _) _).grown G2.out (by simp) (fun k h => by have := Option.some.inj h; omega)
    have hbw : Below w.heap.size w w3 := ((c1.alloc c1.size _).grown G2.out (by simp; omega) (fun k h => by have := Option.some.inj h; omega)).grown G3.out (by omega) (fun k h => by have := Option.some.inj h; omega)
    exact ⟨r, A, n, c, B, q, d, L, nl, cl, rfl, fun h => absurd h ht0.out, HS.out.keep (fun x hx => by
          have h1 := hx.1
          have h2 := K0.out.size
          exact (G3.out.block x (by omega) (by intro e; have := Option.some.inj e; omega)).trans (hb1.block x (by omega))), hbw⟩
end Go.Proofs.YtcppkpcbfadapaaGreat
