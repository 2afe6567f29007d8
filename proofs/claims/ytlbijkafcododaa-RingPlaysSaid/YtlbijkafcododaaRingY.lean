/-
  A ring without a number (ring, layer 41); Remove.
  Conditions: at most 2^40 numbers in all.
-/
import Derived.Test.YtlbijkafcododaaChecked
import Derived.Test.YtlbijkafcododaaRingW
import Derived.Test.YtlbijkafcododaaHead
namespace Go.Proofs.Ytlbijkafcododaa
set_option linter.unusedVariables false
set_option linter.unusedSimpArgs false
open Go.RowKit Go.ChangeShapes Go.WideShapes
set_option maxRecDepth 100000

theorem ringRemove_x (X : Nat → Prop) (g : Nat) (a b : List Int) (m y : Int) (w : World) (hX : ∀ x, X x → x < w.heap.size) (h : RingX X w g a b m) (hn : a.length + b.length ≤ 1099511627776) :
    Calls Try.prog 29 #[.pointer (some ⟨g, 0, none⟩), .int .i64 y] w fun e w' => e = .returned (.bool ((a ++ b).contains y)) ∧
      (if (a ++ b).contains y then RingX X w' g (without a y) (without b y) m else RingX X w' g a b m) ∧ w.grownBy w' (some g) := by
  have H := Lib.hid h
  clear h
  have CT := Lib.hid (fun A n cap w h => contains_any A n cap (a ++ b) y w h)
  obtain ⟨t, ht⟩ : ∃ t, (a ++ b).contains y = t := ⟨_, rfl⟩
  rw [ht] at CT ⊢
  clear ht
  go_enter Try.func29, Try.ntmps29
  go_wp2_with fail
  refine (ringList_any g a b m w H.out.at_ hn).mono ?_
  rintro e w1 ⟨B, q, r, rfl, hs, hb⟩
  have S1 := Lib.hid (hs.more bin_blo)
  have B1 := Lib.hid hb
  clear hs hb
  go_wp2_with fail
  refine (CT.out B q r w1 S1.out).mono ?_
  rintro e w2 ⟨rfl, hb⟩
  have B2 := Lib.hid (below_call B1.out hb B1.out.size)
  clear hb CT S1 B1
  cases t
  · go_wp2_with fail
    go_ret
    exact ⟨rfl, H.out.later B2.out, ⟨B2.out.os, B2.out.tape, B2.out.output, B2.out.size, fun k hk _ => B2.out.block k hk⟩⟩
  · obtain ⟨A, n, c, A', n', c', hB, hs, hs'⟩ := (H.out.later B2.out).out
    have hl := hs.n_eq
    have hl' := hs'.n_eq
    have hq : n ≤ 1099511627776 := by omega
    have hq' : n' ≤ 1099511627776 := by omega
    have BB := Lib.hid hB
    have HS := Lib.hid (hs.more (S' := blo w2.heap.size) (fun _ h => h.1.1))
    have HS' := Lib.hid (hs'.more (S' := blo w2.heap.size) (fun _ h => h.1.1))
    have lg : g < w.heap.size := by obtain ⟨_, _, _, _, _, _, h1, _⟩ := H.out.out; exact h1.lt
    clear hB hs hs' hl hl' H
    go_wp2_with fail
    refine wp_region_any (by kernel_rfl) ?_
    refine wpAny_take (i := 0) (v := ?_) rfl (by as_aux_lemma => kernel_rfl) (by as_aux_lemma => kernel_rfl) (by as_aux_lemma => kernel_rfl) (fun _ _ _ h => h) (Or.inl ⟨by rfl, ?_⟩) ?_
    rotate_left
    · intro w; go_simp; try with_reducible rfl
    try simp only [Act.put, List.getElem_toArray, List.getElem_cons_succ, List.getElem_cons_zero, List.setIfInBounds_toArray, List.set_cons_zero, List.set_cons_succ]
    refine wpAny_take (i := 1) (v := ?_) rfl (by as_aux_lemma => kernel_rfl) (by as_aux_lemma => kernel_rfl) (by as_aux_lemma => kernel_rfl) (fun _ _ _ h => h) (Or.inl ⟨by rfl, ?_⟩) ?_
    rotate_left
    · intro w; go_simp; try with_reducible rfl
    try simp only [Act.put, List.getElem_toArray, List.getElem_cons_succ, List.getElem_cons_zero, List.setIfInBounds_toArray, List.set_cons_zero, List.set_cons_succ]
    refine wpAny_take (i := 2) (v := ?_) rfl (by as_aux_lemma => kernel_rfl) (by as_aux_lemma => kernel_rfl) (by as_aux_lemma => kernel_rfl) (fun _ _ _ h => h) (Or.inl ⟨by rfl, ?_⟩) ?_
    rotate_left
    · intro w; go_simp; try with_reducible rfl
    try simp only [Act.put, List.getElem_toArray, List.getElem_cons_succ, List.getElem_cons_zero, List.setIfInBounds_toArray, List.set_cons_zero, List.set_cons_succ]
    refine wpAny_take (i := 3) (v := ?_) rfl (by as_aux_lemma => kernel_rfl) (by as_aux_lemma => kernel_rfl) (by as_aux_lemma => kernel_rfl) (fun _ _ _ h => h) (Or.inl ⟨by rfl, ?_⟩) ?_
    rotate_left
    · intro w; go_simp; try with_reducible rfl
    try simp only [Act.put, List.getElem_toArray, List.getElem_cons_succ, List.getElem_cons_zero, List.setIfInBounds_toArray, List.set_cons_zero, List.set_cons_succ]
    refine wpAny_take (i := 4) (v := ?_) rfl (by as_aux_lemma => kernel_rfl) (by as_aux_lemma => kernel_rfl) (by as_aux_lemma => kernel_rfl) (fun _ _ _ h => h) (Or.inl ⟨by rfl, ?_⟩) ?_
    rotate_left
    · intro w; go_simp; try with_reducible rfl
    try simp only [Act.put, List.getElem_toArray, List.getElem_cons_succ, List.getElem_cons_zero, List.setIfInBounds_toArray, List.set_cons_zero, List.set_cons_succ]
    refine wpAny_take (i := 6) (v := ?_) rfl (by as_aux_lemma => kernel_rfl) (by as_aux_lemma => kernel_rfl) (by as_aux_lemma => kernel_rfl) (fun _ _ _ h => h) (Or.inl ⟨by rfl, ?_⟩) ?_
    rotate_left
    · intro w; go_simp; try with_reducible rfl
    try simp only [Act.put, List.getElem_toArray, List.getElem_cons_succ, List.getElem_cons_zero, List.setIfInBounds_toArray, List.set_cons_zero, List.set_cons_succ]
    refine wpAny_take (i := 8) (v := ?_) rfl (by as_aux_lemma => kernel_rfl) (by as_aux_lemma => kernel_rfl) (by as_aux_lemma => kernel_rfl) (fun _ _ _ h => h) (Or.inl ⟨by rfl, ?_⟩) ?_
    rotate_left
    · intro w; go_simp; try with_reducible rfl
    try simp only [Act.put, List.getElem_toArray, List.getElem_cons_succ, List.getElem_cons_zero, List.setIfInBounds_toArray, List.set_cons_zero, List.set_cons_succ]
    refine wpAny_take (i := 9) (v := ?_) rfl (by as_aux_lemma => kernel_rfl) (by as_aux_lemma => kernel_rfl) (by as_aux_lemma => kernel_rfl) (fun _ _ _ h => h) (Or.inl ⟨by rfl, ?_⟩) ?_
    rotate_left
    · intro w; go_simp; try with_reducible rfl
    try simp only [Act.put, List.getElem_toArray, List.getElem_cons_succ, List.getElem_cons_zero, List.setIfInBounds_toArray, List.set_cons_zero, List.set_cons_succ]
    refine wpAny_take (i := 10) (v := ?_) rfl (by as_aux_lemma => kernel_rfl) (by as_aux_lemma => kernel_rfl) (by as_aux_lemma => kernel_rfl) (fun _ _ _ h => h) (Or.inl ⟨by rfl, ?_⟩) ?_
    rotate_left
    · intro w; go_simp; try with_reducible rfl
    try simp only [Act.put, List.getElem_toArray, List.getElem_cons_succ, List.getElem_cons_zero, List.setIfInBounds_toArray, List.set_cons_zero, List.set_cons_succ]
    refine wpAny_take (i := 12) (v := ?_) rfl (by as_aux_lemma => kernel_rfl) (by as_aux_lemma => kernel_rfl) (by as_aux_lemma => kernel_rfl) (fun _ _ _ h => h) (Or.inl ⟨by rfl, ?_⟩) ?_
    rotate_left
    · intro w; go_simp; try with_reducible rfl
    try simp only [Act.put, List.getElem_toArray, List.getElem_cons_succ, List.getElem_cons_zero, List.setIfInBounds_toArray, List.set_cons_zero, List.set_cons_succ]
    refine wpAny_enterT (fun w' => w'.cell? ⟨g, 0, none⟩ = some (.slice A n c) ∧ w'.cell? ⟨g, 1, none⟩ = some (.slice A' n' c') ∧ Below w2.heap.size w2 w') 14 ?_ (fun hS => ?_)
    · exact ⟨BB.out.drew.cell 0, BB.out.drew.cell 1, (Below.refl _ _).drew⟩
    refine wpAnyT_take (i := 5) (v := ?_) rfl (by as_aux_lemma => kernel_rfl) (by as_aux_lemma => kernel_rfl) (by as_aux_lemma => kernel_rfl) (by as_aux_lemma => kernel_rfl) rfl (fun _ _ _ h => h) (Or.inl ⟨by rfl, ?_⟩) hS ?_
    rotate_left
    · intro w hSw; (try dsimp only at hSw); go_simp; try with_reducible rfl
    try simp only [Act.put, List.getElem_toArray, List.getElem_cons_succ, List.getElem_cons_zero, List.setIfInBounds_toArray, List.set_cons_zero, List.set_cons_succ]
    refine wpAnyT_take (i := 11) (v := ?_) rfl (by as_aux_lemma => kernel_rfl) (by as_aux_lemma => kernel_rfl) (by as_aux_lemma => kernel_rfl) (by as_aux_lemma => kernel_rfl) rfl (fun _ _ _ h => h) (Or.inl ⟨by rfl, ?_⟩) hS ?_
    rotate_left
    · intro w hSw; (try dsimp only at hSw); go_simp; try with_reducible rfl
    try simp only [Act.put, List.getElem_toArray, List.getElem_cons_succ, List.getElem_cons_zero, List.setIfInBounds_toArray, List.set_cons_zero, List.set_cons_succ]
    refine wpAnyT_one (i := 7) (by kernel_rfl) rfl rfl (fun K hK => ?_)
    go_simp
    refine (ringWithout_any A n c a y _ (HS.out.later (Below.refl _ _).drew (Nat.le_refl _)) hq).mono ?_; rintro e w3 ⟨B3, q3, r3, rfl, hs, hb⟩; have S3 := Lib.hid hs; have K3 := Lib.hid (below_call (Below.refl _ _).drew hb (Nat.le_refl _)); have HB3 := Lib.hid hb; clear hs
    refine hK.out _ _ ?_ (fun hS => ?_)
    · exact ⟨cell_later hb hS.1, cell_later hb hS.2.1, (by first | exact below_later hb hS.2.2 | exact grown_below hS.2.2 hb)⟩
    clear hK K
    try simp only [Act.put, List.getElem_toArray, List.getElem_cons_succ, List.getElem_cons_zero, List.setIfInBounds_toArray, List.set_cons_zero, List.set_cons_succ]
    refine wpAnyT_one (i := 13) (by kernel_rfl) rfl rfl (fun K hK => ?_)
    go_simp
    refine (ringWithout_any A' n' c' b y _ (HS'.out.later K3.out (Nat.le_refl _)) hq').mono ?_; rintro e w4 ⟨B4, q4, r4, rfl, hs, hb⟩; have S4 := Lib.hid hs; have K4 := Lib.hid (below_call K3.out hb K3.out.size); have HB4 := Lib.hid hb; clear hs
    refine hK.out _ _ ?_ (fun hS => ?_)
    · exact ⟨cell_later hb hS.1, cell_later hb hS.2.1, (by first | exact below_later hb hS.2.2 | exact grown_below hS.2.2 hb)⟩
    clear hK K
    try simp only [Act.put, List.getElem_toArray, List.getElem_cons_succ, List.getElem_cons_zero, List.setIfInBounds_toArray, List.set_cons_zero, List.set_cons_succ]
    refine wpAnyT_tail _ _ rfl rfl (by kernel_rfl) ?_
    have zd : w2.drew.heap.size = w2.heap.size := rfl
    have z3 := K3.out.size
    have z4 := HB4.out.size
    have z2 := B2.out.size
    have BB4 := Lib.hid (BB.out.later K4.out)
    have f0 := BB4.out.frozen 0
    have f1 := BB4.out.frozen 1
    have c0 := BB4.out.cell 0
    have c1 := BB4.out.cell 1
    have lt4 := BB4.out.lt
    have T3 := Lib.hid ((S3.out.below HB4.out (fun x hx => hx.2)).more (S' := fun x => (x < w4.heap.size ∧ ¬ X x) ∧ x ≠ g) (fun x hx => ⟨⟨Nat.lt_of_lt_of_le hx.2 z4, fun e => by have := hx.1; have := hX x e; omega⟩, fun e => by have := hx.1; omega⟩))
    have T4 := Lib.hid (S4.out.more (S' := fun x => (x < w4.heap.size ∧ ¬ X x) ∧ x ≠ g) (fun x hx => ⟨⟨hx.2, fun e => by have := hx.1; have := hX x e; omega⟩, fun e => by have := hx.1; omega⟩))
    clear hS hb S3 S4 BB HS HS'
    go_wp2_with fail
    go_ret
    refine ⟨rfl, ?_, grown_trans (below_call B2.out K4.out B2.out.size) (grown_grown (grown_set _ _ _ _) (grown_set _ _ _ _))⟩
    refine ⟨_, _, _, _, _, _, (BB4.out.set_ 0 _).set_ 1 _, ?_, ?_⟩
    · refine (T3.out.keep (fun k hk => ?_)).more (fun k hk => ⟨by simpa using hk.1, hk.2⟩)
      rw [Below.heap_setCell _ _ _ _ hk.2, Below.heap_setCell _ _ _ _ hk.2]
    · refine (T4.out.keep (fun k hk => ?_)).more (fun k hk => ⟨by simpa using hk.1, hk.2⟩)
      rw [Below.heap_setCell _ _ _ _ hk.2, Below.heap_setCell _ _ _ _ hk.2]
end Go.Proofs.Ytlbijkafcododaa
