/-
  store.Get: a request, in new memory (layer 42).
  Conditions: rows of at most 2^40 numbers.
-/
import Derived.Test.YtcppkpcbfadapaaGreatChecked
import Derived.Test.YtcppkpcbfadapaaGreatStoreO
namespace Go.Proofs.YtcppkpcbfadapaaGreat
set_option linter.unusedVariables false
set_option linter.unusedSimpArgs false
open Go.RowKit Go.ChangeShapes Go.WideShapes
set_option maxRecDepth 100000
set_option maxHeartbeats 2000000

structure Small (r : Req) : Prop where
  input : r.p.input.data.length ≤ 140737488351232
  value : r.p.value.data.length ≤ 140737488351232
  logits : r.a.logits.length ≤ 35184372087808

theorem storeGet_any (g b : Nat) (m : Int) (rs : List Req) (id : Int) (w : World) (h : StoreAt w g b m rs) (hid : InK .i64 id) (hsm : ∀ r, reqOf rs id = some r → Small r) :
    Calls Tryz.prog 25 #[.pointer (some ⟨g, 0, none⟩), .int .i64 id] w fun e w' =>
      ∃ r A n c B q d L nl cl, e = .returned (.tuple #[.agg (reqCells r A n c B q d L nl cl), .bool (reqOf rs id).isSome]) ∧ r = (reqOf rs id).getD noReq ∧ ReqSl w' (bin w.heap.size w'.heap.size) r A n c B q d L nl cl ∧ Below w.heap.size w w' := by
  have k0 : Below w.heap.size w (w.alloc (.cells noCells 75)) := (Below.refl _ _).alloc (Nat.le_refl _) _
  have H1 := h.later k0
  have B0 := Lib.hid (Blk.now w w.heap.size 75 noCells rfl)
  have c0 := H1.cells.1
  obtain ⟨r, A, n, c, B, q, d, L, nl, cl, hrun0, hr, hs⟩ := h.look id hid
  have hrun := hrun0 _ k0
  clear hrun0
  have SM : Small r := by
    cases hro : reqOf rs id with
    | none => rw [hro] at hr; rw [hr]; exact ⟨by decide, by decide, by decide⟩
    | some r' => rw [hro] at hr; rw [hr]; exact hsm _ hro
  have HS := Lib.hid hs
  have SM := Lib.hid SM
  have RR := Lib.hid hr
  obtain ⟨is, his⟩ : ∃ is, (reqOf rs id).isSome = is := ⟨_, rfl⟩
  rw [his] at hrun ⊢
  clear h H1 hs hr hsm
  go_enter Tryz.func25, Tryz.ntmps25
  obtain ⟨w1, hw1⟩ : ∃ w1, w.alloc (.cells noCells 75) = w1 := ⟨_, rfl⟩
  unfold noCells at hw1 k0 B0 c0 hrun
  rw [hw1] at k0 B0 c0 hrun
  have lt0 := B0.out.lt
  go_wp2_with (first
    | (refine wpList_store_all rfl 75 (.tmp 6) (.tmp 18) rfl (w1.heap.size) (reqCells r A n c B q d L nl cl) rfl rfl _ _ (Blk.now _ _ _ _ rfl) rfl (by kernel_rfl) (by simp [Value.oneCell', reqCells]) ?_; intro w2 B2 g2; have G2 := Lib.hid g2)
    | (refine wpList_load_blk rfl 67 (.tmp 20) rfl w1.heap.size 3 rfl _ _ (ptCells r.p A n c B q d) _ B2 Tryz.underlying67 rfl (by kernel_rfl) rfl ?_))
  have z2 := G2.out.size
  simp at z2
  have h2 : Below w.heap.size w w2 := (k0.alloc k0.size _).grown G2.out (by simp; omega) (fun k h => by have := Option.some.inj h; omega)
  have S2 := HS.out.keep (w' := w2) (fun x hx => h2.block x hx.1)
  have B0' := Lib.hid (show Blk w2 w.heap.size _ _ from ⟨(G2.out.block _ (by simp; omega) (by intro e; have := Option.some.inj e; omega)).trans (B0.out.past _).heap⟩)
  refine (moved_any r.p A B n c q d w2 (S2.input.more (fun x hx => Nat.lt_of_lt_of_le hx.1 h2.size)) (S2.value.more (fun x hx => Nat.lt_of_lt_of_le hx.1 h2.size)) (by rw [← HS.out.input.n_eq]; exact SM.out.input) (by rw [← HS.out.value.n_eq]; exact SM.out.value)).mono ?_
  rintro e w3 ⟨A', n', c', B', m', d', rfl, hs1, hs2, hb3⟩
  have HI1 := Lib.hid hs1
  have HI2 := Lib.hid hs2
  have B3 := B2.later hb3
  have h3 := below_call h2 hb3 h2.size
  have z3 := hb3.size
  have hb23 := Lib.hid hb3
  have B0' := Lib.hid (B0'.out.later hb3)
  clear hs1 hs2 S2
  go_wp2_with (refine wpList_store_blk rfl 67 (.tmp 23) (.tmp 22) rfl w1.heap.size 3 (ptCells r.p A' n' c' B' m' d') rfl rfl 75 (reqCells r A n c B q d L nl cl) (reqCells r A' n' c' B' m' d' L nl cl) B3 (by simp [reqCells, ptCells]) (by kernel_rfl) (by simp [Value.oneCell', ptCells]) rfl ?_; intro w4 B4 g4; have G4 := Lib.hid g4; have c4 : w4.cell? ⟨w1.heap.size, 19, none⟩ = some (.slice L nl cl) := B4.cell 19)
  have h4 : Below w.heap.size w w4 := h3.grown G4.out (by omega) (fun k h => by have := Option.some.inj h; omega)
  have z4 := G4.out.size
  have S4 := HS.out.logits.keep (w' := w4) (fun x hx => h4.block x hx.1)
  refine (clone32_any L nl cl r.a.logits w4 (S4.more (fun x hx => Nat.lt_of_lt_of_le hx.1 h4.size)) (by rw [← HS.out.logits.n_eq]; exact SM.out.logits)).mono ?_
  rintro e w5 ⟨L', nl', cl', rfl, hs3, hb5⟩
  have HI3 := Lib.hid hs3
  have B5 := B4.later hb5
  have z5 := hb5.size
  have h5 := below_call h4 hb5 h4.size
  have hb45 := Lib.hid hb5
  have f5 := B5.frozen 19
  have c5 := B5.cell 19
  have B0' := Lib.hid (show Blk w5 w.heap.size _ _ from ((⟨(G4.out.block _ (by omega) (by intro e; have := Option.some.inj e; omega)).trans B0'.out.heap⟩ : Blk w4 w.heap.size _ _)).later hb5)
  clear hs3 S4
  go_wp2_with (first
    | (refine wpList_load_row rfl 75 (.tmp 6) rfl w1.heap.size rfl _ (reqCells r A' n' c' B' m' d' L' nl' cl') (0, 0) _ (show Blk _ w1.heap.size _ _ from B5.set_ 19 _).heap Tryz.underlying75 rfl (by kernel_rfl) ?_)
    | (refine wpList_store_all rfl 75 (.tmp 4) (.tmp 30) rfl (w.heap.size) (reqCells r A' n' c' B' m' d' L' nl' cl') rfl rfl _ _ (B0'.out.far _ _ (by simp; omega)) rfl (by kernel_rfl) (by simp [Value.oneCell', reqCells]) ?_; intro w7 B7 g7; have G7 := Lib.hid g7))
  refine ret_cell_tmp rfl B7 rfl Tryz.underlying75 (by kernel_rfl) rfl ?_
  have hs5 : w5.heap.size ≤ w7.heap.size := by have := G7.out.size; simpa using this
  have k5 : ∀ x, x < w5.heap.size → w1.heap.size < x → w7.heap[x]? = w5.heap[x]? := fun x h1 h2 =>
    (G7.out.block x (by simpa using h1) (by intro e; have := Option.some.inj e; omega)).trans (Below.heap_setCell _ _ _ _ (show x ≠ w1.heap.size by omega))
  have k3 : ∀ x, x < w3.heap.size → w1.heap.size < x → w7.heap[x]? = w3.heap[x]? := fun x h1 h2 =>
    (k5 x (by omega) h2).trans ((hb45.out.block x (by omega)).trans (G4.out.block x h1 (by intro e; have := Option.some.inj e; omega)))
  have hbw : Below w.heap.size w w7 := (h5.setCell (show w.heap.size ≤ w1.heap.size by omega) _).grown G7.out (by have := h5.size; simp; omega) (fun k h => by have := Option.some.inj h; omega)
  exact ⟨r, A', n', c', B', m', d', L', nl', cl', rfl, RR.out, ⟨HS.out.ok, (HI1.out.keep (fun x hx => k3 x hx.2 (by have := hx.1; omega))).more (fun x hx => ⟨by have := hx.1; omega, by have := hx.2; omega⟩),
    (HI2.out.keep (fun x hx => k3 x hx.2 (by have := hx.1; omega))).more (fun x hx => ⟨by have := hx.1; omega, by have := hx.2; omega⟩),
    (HI3.out.keep (fun x hx => k5 x hx.2 (by have := hx.1; omega))).more (fun x hx => ⟨by have := hx.1; omega, by have := hx.2; omega⟩)⟩, hbw⟩
end Go.Proofs.YtcppkpcbfadapaaGreat
