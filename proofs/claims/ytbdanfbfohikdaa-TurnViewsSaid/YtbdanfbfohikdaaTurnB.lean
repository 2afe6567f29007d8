/-
  turn.made (layer 23): a tensor of pixels that stood elsewhere.
  Conditions: at most 16 rows and columns, 1024 numbers; what the function tells of each place is known ahead.
-/
import Derived.Test.YtbdanfbfohikdaaChecked
import Derived.Test.YtbdanfbfohikdaaTurnA
import Derived.Test.YtbdanfbfohikdaaShapeA
import Derived.Test.YtbdanfbfohikdaaOperX
import Derived.Test.YtbdanfbfohikdaaRows2
import Derived.Test.YtbdanfbfohikdaaHeadB
import Derived.Test.YtbdanfbfohikdaaQMid
import Derived.Test.YtbdanfbfohikdaaOne
import Derived.Deep.DeepCutAuto
import Derived.Deep.CutRange
import Derived.Deep.CutBlock
namespace Go.Proofs.Ytbdanfbfohikdaa
set_option linter.unusedVariables false
set_option linter.unusedSimpArgs false
open Go.RowKit Go.ChangeShapes Go.WideShapes
set_option maxRecDepth 100000
attribute [local irreducible] fl

theorem ei_i8 : EI Try.prog 24 37 (.int .i8 0) 1 1 := ⟨Try.underlying24, by kernel_rfl, rfl, by decide⟩
theorem Blk.grown0 {w w' : World} {g : Nat} {e : TypeId} {cs : Array Value} (h : Blk w g e cs) (gm : w.grownBy w' none) : Blk w' g e cs := ⟨(gm.block g h.lt (by simp)).trans h.heap⟩
theorem World.size_drew (w : World) : w.drew.heap.size = w.heap.size := rfl

set_option maxHeartbeats 8000000 in
theorem madeBy_any (H0 W0 H1 W1 C E cap bl off : Nat) (l : List Int) (fr fc fa fb : Nat → Nat) (p : Addr) (w : World) (hs : Sl (tInt .i8) w (blo w.heap.size) (some ⟨bl, off, none⟩) E cap l) (hm : E = H0 * W0 * C) (k1 : 1 ≤ H0 ∧ H0 ≤ 16) (k2 : 1 ≤ W0 ∧ W0 ≤ 16) (k3 : 1 ≤ H1 ∧ H1 ≤ 16) (k4 : 1 ≤ W1 ∧ W1 ≤ 16) (k5 : 1 ≤ C ∧ C ≤ 1024) (k6 : H1 * W1 = H0 * W0) (k7 : E ≤ 1024)
    (hp : ∀ i, i < H1 * W1 → fr i < H0 ∧ fc i < W0 ∧ Fl (fa i) (2 * (fc i : Int) - ((W0 : Int) - 1)) ∧ Fl (fb i) ((H0 : Int) - 1 - 2 * (fr i : Int)))
    (hv : ∀ i : Nat, i < H1 * W1 → ∀ w', Below w.heap.size w w' → Calls Try.prog 18 #[.complex .f64 (fl (2 * ((i : Int) % (W1 : Int)) - ((W1 : Int) - 1))) (fl ((H1 : Int) - 1 - 2 * ((i : Int) / (W1 : Int)))), .pointer (some p)] w' fun e w'' => e = .returned (.complex .f64 (fa i) (fb i)) ∧ w'' = w') :
    Calls Try.prog 17 #[.agg #[.int .i64 (H0 : Int), .int .i64 (W0 : Int), .int .i64 (C : Int), .slice (some ⟨bl, off, none⟩) E cap], .agg #[.int .i64 (H1 : Int), .int .i64 (W1 : Int), .int .i64 (C : Int)], .func (.func 18) #[] #[.pointer (some p)]] w fun e w' => ∃ A c, e = .returned (.agg #[.int .i64 (H1 : Int), .int .i64 (W1 : Int), .int .i64 (C : Int), .slice A E c]) ∧ Sl (tInt .i8) w' (bin w.heap.size w'.heap.size) A E c (pick l C (fun i => fr i * W0 + fc i) (H1 * W1)) ∧ Below w.heap.size w w' := by
  obtain ⟨a1, a2⟩ := k1
  obtain ⟨a3, a4⟩ := k2
  obtain ⟨a5, a6⟩ := k3
  obtain ⟨a7, a8⟩ := k4
  obtain ⟨a9, a10⟩ := k5
  have hn := hs.n_eq
  have LL := Lib.hid (show l.length = H0 * W0 * C by rw [hn, hm])
  have hE : H1 * W1 * C = E := by rw [k6, hm]
  have hel : elems (H1 : Int) (W1 : Int) (C : Int) = (E : Int) := by
    rw [elems_iff, if_pos ⟨by omega, by omega, by omega, by omega, by omega, by omega, by rw [← Int.natCast_mul, ← Int.natCast_mul, hE]; omega⟩, ← Int.natCast_mul, ← Int.natCast_mul, hE]
  have EL := Lib.hid (fun w => elems_any (H1 : Int) (C : Int) (W1 : Int) w (by rw [inK_i64]; omega) (by rw [inK_i64]; omega) (by rw [inK_i64]; omega))
  rw [hel] at EL
  obtain ⟨M, hM⟩ : ∃ M, H1 * W1 = M := ⟨_, rfl⟩
  have hMi : (H1 : Int) * (W1 : Int) = (M : Int) := by rw [← hM]; simp
  have hM2 : M ≤ 256 := by rw [← hM]; exact Nat.mul_le_mul a6 a8
  rw [hM] at hp hv k6 hE ⊢
  have HP := Lib.hid hp
  have HV := Lib.hid hv
  have HE := Lib.hid hE
  have K6 := Lib.hid k6
  have FR := Lib.hid (Far.refl w)
  obtain ⟨w1, hw_w1⟩ : ∃ nw_, w.alloc (.cells #[.int .i64 (H0 : Int), .int .i64 (W0 : Int), .int .i64 (C : Int), .slice (some ⟨bl, off, none⟩) E cap] 26) = nw_ := ⟨_, rfl⟩
  have k_w1 : Below w.heap.size w w1 := by rw [← hw_w1]; exact (Below.refl _ _).alloc (Nat.le_refl _) _
  replace FR := Lib.hid (FR.out.fut k_w1)
  have BT := Lib.hid (show Blk w1 w.heap.size 26 #[.int .i64 (H0 : Int), .int .i64 (W0 : Int), .int .i64 (C : Int), .slice (some ⟨bl, off, none⟩) E cap] by rw [← hw_w1]; exact Blk.now _ _ _ _ rfl)
  clear k_w1
  obtain ⟨w2, hw_w2⟩ : ∃ nw_, w1.alloc (.cells #[.int .i64 (H1 : Int), .int .i64 (W1 : Int), .int .i64 (C : Int)] 23) = nw_ := ⟨_, rfl⟩
  have k_w2 : Below w1.heap.size w1 w2 := by rw [← hw_w2]; exact (Below.refl _ _).alloc (Nat.le_refl _) _
  replace FR := Lib.hid (FR.out.fut k_w2)
  replace BT := Lib.hid (BT.out.fut k_w2)
  have BS := Lib.hid (show Blk w2 w1.heap.size 23 #[.int .i64 (H1 : Int), .int .i64 (W1 : Int), .int .i64 (C : Int)] by rw [← hw_w2]; exact Blk.now _ _ _ _ rfl)
  clear k_w2
  obtain ⟨w3, hw_w3⟩ : ∃ nw_, w2.alloc (.cells #[.int .i64 0, .int .i64 0, .int .i64 0, .slice none 0 0] 26) = nw_ := ⟨_, rfl⟩
  have k_w3 : Below w2.heap.size w2 w3 := by rw [← hw_w3]; exact (Below.refl _ _).alloc (Nat.le_refl _) _
  replace FR := Lib.hid (FR.out.fut k_w3)
  replace BT := Lib.hid (BT.out.fut k_w3)
  replace BS := Lib.hid (BS.out.fut k_w3)
  have BR := Lib.hid (show Blk w3 w2.heap.size 26 #[.int .i64 0, .int .i64 0, .int .i64 0, .slice none 0 0] by rw [← hw_w3]; exact Blk.now _ _ _ _ rfl)
  clear k_w3
  have H := Lib.hid (hs.later FR.out.out (Nat.le_refl _))
  have l01 : w.heap.size < w1.heap.size := by rw [← hw_w1]; simp
  have l12 : w1.heap.size < w2.heap.size := by rw [← hw_w2]; simp
  have l23 : w2.heap.size < w3.heap.size := by rw [← hw_w3]; simp
  have HS0 := Lib.hid hs
  clear hs hn hp hv hE hel k6 hM hm
  go_enter Try.func17, Try.ntmps17
  go_wp2_with fail
  clear hw_w1 hw_w2 hw_w3
  go_cut [7] (fun b wx => ∃ g q, b = .pointer (some ⟨g, 0, none⟩) ∧ Blk wx g 26 #[.int .i64 (H1 : Int), .int .i64 (W1 : Int), .int .i64 (C : Int), .slice (some ⟨q, 0, none⟩) 0 E] ∧ Own (tInt .i8) wx (fun _ => False) w3.heap.size 37 (.slice (some ⟨q, 0, none⟩) 0 E) 0 [] ∧ q ≠ g ∧ w3.heap.size ≤ g ∧ Below w3.heap.size w3 wx)
  case first =>
    have ltz := BS.out.lt
    refine wp_region_held_drew (S := fun w' => Blk w' w1.heap.size 23 #[.int .i64 (H1 : Int), .int .i64 (W1 : Int), .int .i64 (C : Int)] ∧ Below w3.heap.size w3 w') (by kernel_rfl) ?_ (fun hS => ?_)
    · exact ⟨BS.out.drew, (Below.refl _ _).drew⟩
    refine wpAnyH_take (i := 0) rfl (by as_aux_lemma => kernel_rfl) (by as_aux_lemma => kernel_rfl) (by as_aux_lemma => kernel_rfl) (fun _ _ _ h => h) (yieldsIf_load_blk (by rfl) 23 (.tmp 4) rfl w1.heap.size 0 rfl _ _ #[.int .i64 (H1 : Int), .int .i64 (W1 : Int), .int .i64 (C : Int)] _ (fun w hs => hs.1) Try.underlying23 rfl (by kernel_rfl) rfl) hS ?_
    try simp only [Act.put, List.getElem_toArray, List.getElem_cons_succ, List.getElem_cons_zero, List.setIfInBounds_toArray, List.set_cons_zero, List.set_cons_succ]
    refine wpAnyH_take (i := 1) rfl (by as_aux_lemma => kernel_rfl) (by as_aux_lemma => kernel_rfl) (by as_aux_lemma => kernel_rfl) (fun _ _ _ h => h) (yieldsIf_load_blk (by rfl) 23 (.tmp 4) rfl w1.heap.size 0 rfl _ _ #[.int .i64 (H1 : Int), .int .i64 (W1 : Int), .int .i64 (C : Int)] _ (fun w hs => hs.1) Try.underlying23 rfl (by kernel_rfl) rfl) hS ?_
    try simp only [Act.put, List.getElem_toArray, List.getElem_cons_succ, List.getElem_cons_zero, List.setIfInBounds_toArray, List.set_cons_zero, List.set_cons_succ]
    refine wpAnyH_ready (rs := [2, 5]) (by kernel_rfl) (by simp) ?_
    refine AllReadyH.cons rfl (fun K hK => ?_) (AllReadyH.cons rfl (fun K hK => ?_) AllReadyH.nil)
    · go_simp
      refine (EL.out _).mono ?_
      rintro e wa ⟨rfl, hb⟩
      refine hK.out _ _ ?_ (fun hS => ?_)
      · exact ⟨Blk.later hS.1 hb, below_later hb hS.2⟩
      clear hK K
      try simp only [Act.put, List.getElem_toArray, List.getElem_cons_succ, List.getElem_cons_zero, List.setIfInBounds_toArray, List.set_cons_zero, List.set_cons_succ]
      refine wpAnyH_ready (rs := [3, 5]) (by kernel_rfl) (by simp) ?_
      refine AllReadyH.cons rfl (fun K hK => ?_) (AllReadyH.cons rfl (fun K hK => ?_) AllReadyH.nil)
      · rw [if_pos (by rfl)]
        have zq : w3.heap.size ≤ wa.heap.size := hS.2.size
        refine oper_make0 (t := tInt .i8) (base := w3.heap.size) (.const (.int .i64 0)) (.tmp 14) rfl ei_i8 .i64 .i64 rfl rfl (by omega) (by unfold maxLen; omega) zq ?_
        intro wm own gm
        have OW := Lib.hid (show Own (tInt .i8) wm (fun _ => False) w3.heap.size 37 (.slice (some ⟨wa.heap.size, 0, none⟩) 0 E) 0 [] by first | exact own | simpa [World.size_alloc] using own)
        refine hK.out _ _ ⟨Blk.grown0 hS.1 gm, hS.2.grown gm zq (by simp)⟩ (fun hS => ?_)
        clear hK K own gm
        try simp only [Act.put, List.getElem_toArray, List.getElem_cons_succ, List.getElem_cons_zero, List.setIfInBounds_toArray, List.set_cons_zero, List.set_cons_succ]
        refine wpAnyH_take (i := 4) (v := ?_) rfl (by as_aux_lemma => kernel_rfl) (by as_aux_lemma => kernel_rfl) (by as_aux_lemma => kernel_rfl) (fun _ _ _ h => h) (Or.inl ⟨by rfl, ?_⟩) hS ?_
        rotate_left
        · intro w hSw; (try dsimp only at hSw); go_simp; try with_reducible rfl
        try simp only [Act.put, List.getElem_toArray, List.getElem_cons_succ, List.getElem_cons_zero, List.setIfInBounds_toArray, List.set_cons_zero, List.set_cons_succ]
        refine wpAnyH_ready (rs := [5]) (by kernel_rfl) (by simp) ?_
        refine AllReadyH.cons rfl (fun K hK => ?_) AllReadyH.nil
        go_simp
        have zg : w3.heap.size ≤ wm.heap.size := hS.2.size
        have hb : Below wm.heap.size wm (wm.alloc (.cells #[.int .i64 0, .int .i64 0, .int .i64 0, .slice none 0 0] 26)) := (Below.refl _ _).alloc (Nat.le_refl _) _
        have BZ := Lib.hid (Blk.now wm wm.heap.size 26 #[.int .i64 0, .int .i64 0, .int .i64 0, .slice none 0 0] rfl)
        have ltq : wa.heap.size < wm.heap.size := (OW.out.lt _ rfl).2
        replace OW := Lib.hid (OW.out.below hb (Nat.le_refl _) (fun _ h => h.elim))
        refine hK.out _ _ ?_ (fun hS => ?_)
        · exact ⟨Blk.later hS.1 hb, below_later hb hS.2⟩
        clear hK K
        try simp only [Act.put, List.getElem_toArray, List.getElem_cons_succ, List.getElem_cons_zero, List.setIfInBounds_toArray, List.set_cons_zero, List.set_cons_succ]
        refine wpAnyH_ready (rs := [6]) (by kernel_rfl) (by simp) ?_
        refine AllReadyH.cons rfl (fun K hK => ?_) AllReadyH.nil
        rw [if_pos (by rfl)]
        refine oper_store_blk 26 (.tmp 7) (.tmp 16) rfl wm.heap.size 0 #[.int .i64 (H1 : Int), .int .i64 (W1 : Int), .int .i64 (C : Int), .slice (some ⟨wa.heap.size, 0, none⟩) 0 E] rfl rfl _ #[.int .i64 0, .int .i64 0, .int .i64 0, .slice none 0 0] #[.int .i64 (H1 : Int), .int .i64 (W1 : Int), .int .i64 (C : Int), .slice (some ⟨wa.heap.size, 0, none⟩) 0 E] BZ.out (by simp) (by kernel_rfl) (by simp [Value.oneCell']) rfl ?_
        intro wc BX gc
        have hne : wa.heap.size ≠ wm.heap.size := by have := ltq; omega
        replace OW := Lib.hid (OW.out.flat gc (.inr (by first | (simp [Value.ownBlock]; done) | (simp [Value.ownBlock]; exact hne))) (fun _ h => h))
        refine hK.out _ _ ⟨hS.1.away gc (by have := l23; have := zg; simp only [World.size_drew] at *; omega), hS.2.grown gc hS.2.size (fun k h => by have := Option.some.inj h; have := zg; simp only [World.size_drew] at *; omega)⟩ (fun hS => ?_)
        clear hK K
        try simp only [Act.put, List.getElem_toArray, List.getElem_cons_succ, List.getElem_cons_zero, List.setIfInBounds_toArray, List.set_cons_zero, List.set_cons_succ]
        refine wpAnyH_done (by kernel_rfl) ?_ _
        have FZ := hS.2
        go_wp2_with fail
        go_meet
        case rel => exact ⟨_, _, rfl, BX, OW.out, hne, zg, FZ⟩
      · go_simp
        have zg : w3.heap.size ≤ wa.heap.size := hS.2.size
        have hb : Below wa.heap.size wa (wa.alloc (.cells #[.int .i64 0, .int .i64 0, .int .i64 0, .slice none 0 0] 26)) := (Below.refl _ _).alloc (Nat.le_refl _) _
        have BZ := Lib.hid (Blk.now wa wa.heap.size 26 #[.int .i64 0, .int .i64 0, .int .i64 0, .slice none 0 0] rfl)
        refine hK.out _ _ ?_ (fun hS => ?_)
        · exact ⟨Blk.later hS.1 hb, below_later hb hS.2⟩
        clear hK K
        try simp only [Act.put, List.getElem_toArray, List.getElem_cons_succ, List.getElem_cons_zero, List.setIfInBounds_toArray, List.set_cons_zero, List.set_cons_succ]
        refine wpAnyH_ready (rs := [3]) (by kernel_rfl) (by simp) ?_
        refine AllReadyH.cons rfl (fun K hK => ?_) AllReadyH.nil
        rw [if_pos (by rfl)]
        have zq : w3.heap.size ≤ (wa.alloc (.cells #[.int .i64 0, .int .i64 0, .int .i64 0, .slice none 0 0] 26)).heap.size := hS.2.size
        refine oper_make0 (t := tInt .i8) (base := w3.heap.size) (.const (.int .i64 0)) (.tmp 14) rfl ei_i8 .i64 .i64 rfl rfl (by omega) (by unfold maxLen; omega) zq ?_
        intro wm own gm
        have OW := Lib.hid (show Own (tInt .i8) wm (fun _ => False) w3.heap.size 37 (.slice (some ⟨(wa.heap.size + 1), 0, none⟩) 0 E) 0 [] by first | exact own | simpa [World.size_alloc] using own)
        replace BZ := Lib.hid (BZ.out.grown0 gm)
        refine hK.out _ _ ⟨Blk.grown0 hS.1 gm, hS.2.grown gm zq (by simp)⟩ (fun hS => ?_)
        clear hK K own gm
        try simp only [Act.put, List.getElem_toArray, List.getElem_cons_succ, List.getElem_cons_zero, List.setIfInBounds_toArray, List.set_cons_zero, List.set_cons_succ]
        refine wpAnyH_take (i := 4) (v := ?_) rfl (by as_aux_lemma => kernel_rfl) (by as_aux_lemma => kernel_rfl) (by as_aux_lemma => kernel_rfl) (fun _ _ _ h => h) (Or.inl ⟨by rfl, ?_⟩) hS ?_
        rotate_left
        · intro w hSw; (try dsimp only at hSw); go_simp; try with_reducible rfl
        try simp only [Act.put, List.getElem_toArray, List.getElem_cons_succ, List.getElem_cons_zero, List.setIfInBounds_toArray, List.set_cons_zero, List.set_cons_succ]
        refine wpAnyH_ready (rs := [6]) (by kernel_rfl) (by simp) ?_
        refine AllReadyH.cons rfl (fun K hK => ?_) AllReadyH.nil
        rw [if_pos (by rfl)]
        refine oper_store_blk 26 (.tmp 7) (.tmp 16) rfl wa.heap.size 0 #[.int .i64 (H1 : Int), .int .i64 (W1 : Int), .int .i64 (C : Int), .slice (some ⟨(wa.heap.size + 1), 0, none⟩) 0 E] rfl rfl _ #[.int .i64 0, .int .i64 0, .int .i64 0, .slice none 0 0] #[.int .i64 (H1 : Int), .int .i64 (W1 : Int), .int .i64 (C : Int), .slice (some ⟨(wa.heap.size + 1), 0, none⟩) 0 E] BZ.out (by simp) (by kernel_rfl) (by simp [Value.oneCell']) rfl ?_
        intro wc BX gc
        have hne : (wa.heap.size + 1) ≠ wa.heap.size := by omega
        replace OW := Lib.hid (OW.out.flat gc (.inr (by first | (simp [Value.ownBlock]; done) | (simp [Value.ownBlock]; exact hne))) (fun _ h => h))
        refine hK.out _ _ ⟨hS.1.away gc (by have := l23; have := zg; simp only [World.size_drew] at *; omega), hS.2.grown gc hS.2.size (fun k h => by have := Option.some.inj h; have := zg; simp only [World.size_drew] at *; omega)⟩ (fun hS => ?_)
        clear hK K
        try simp only [Act.put, List.getElem_toArray, List.getElem_cons_succ, List.getElem_cons_zero, List.setIfInBounds_toArray, List.set_cons_zero, List.set_cons_succ]
        refine wpAnyH_done (by kernel_rfl) ?_ _
        have FZ := hS.2
        go_wp2_with fail
        go_meet
        case rel => exact ⟨_, _, rfl, BX, OW.out, hne, zg, FZ⟩
    · go_simp
      have zg : w3.heap.size ≤ w3.heap.size := hS.2.size
      have hb : Below w3.drew.heap.size w3.drew (w3.drew.alloc (.cells #[.int .i64 0, .int .i64 0, .int .i64 0, .slice none 0 0] 26)) := (Below.refl _ _).alloc (Nat.le_refl _) _
      have BZ := Lib.hid (Blk.now w3.drew w3.heap.size 26 #[.int .i64 0, .int .i64 0, .int .i64 0, .slice none 0 0] rfl)
      refine hK.out _ _ ?_ (fun hS => ?_)
      · exact ⟨Blk.later hS.1 hb, below_later hb hS.2⟩
      clear hK K
      try simp only [Act.put, List.getElem_toArray, List.getElem_cons_succ, List.getElem_cons_zero, List.setIfInBounds_toArray, List.set_cons_zero, List.set_cons_succ]
      refine wpAnyH_ready (rs := [2]) (by kernel_rfl) (by simp) ?_
      refine AllReadyH.cons rfl (fun K hK => ?_) AllReadyH.nil
      go_simp
      refine (EL.out _).mono ?_
      rintro e wa ⟨rfl, hb⟩
      replace BZ := Lib.hid (BZ.out.later hb)
      have zwa := BZ.out.lt
      refine hK.out _ _ ?_ (fun hS => ?_)
      · exact ⟨Blk.later hS.1 hb, below_later hb hS.2⟩
      clear hK K
      try simp only [Act.put, List.getElem_toArray, List.getElem_cons_succ, List.getElem_cons_zero, List.setIfInBounds_toArray, List.set_cons_zero, List.set_cons_succ]
      refine wpAnyH_ready (rs := [3]) (by kernel_rfl) (by simp) ?_
      refine AllReadyH.cons rfl (fun K hK => ?_) AllReadyH.nil
      rw [if_pos (by rfl)]
      have zq : w3.heap.size ≤ wa.heap.size := hS.2.size
      refine oper_make0 (t := tInt .i8) (base := w3.heap.size) (.const (.int .i64 0)) (.tmp 14) rfl ei_i8 .i64 .i64 rfl rfl (by omega) (by unfold maxLen; omega) zq ?_
      intro wm own gm
      have OW := Lib.hid (show Own (tInt .i8) wm (fun _ => False) w3.heap.size 37 (.slice (some ⟨wa.heap.size, 0, none⟩) 0 E) 0 [] by first | exact own | simpa [World.size_alloc] using own)
      replace BZ := Lib.hid (BZ.out.grown0 gm)
      refine hK.out _ _ ⟨Blk.grown0 hS.1 gm, hS.2.grown gm zq (by simp)⟩ (fun hS => ?_)
      clear hK K own gm
      try simp only [Act.put, List.getElem_toArray, List.getElem_cons_succ, List.getElem_cons_zero, List.setIfInBounds_toArray, List.set_cons_zero, List.set_cons_succ]
      refine wpAnyH_take (i := 4) (v := ?_) rfl (by as_aux_lemma => kernel_rfl) (by as_aux_lemma => kernel_rfl) (by as_aux_lemma => kernel_rfl) (fun _ _ _ h => h) (Or.inl ⟨by rfl, ?_⟩) hS ?_
      rotate_left
      · intro w hSw; (try dsimp only at hSw); go_simp; try with_reducible rfl
      try simp only [Act.put, List.getElem_toArray, List.getElem_cons_succ, List.getElem_cons_zero, List.setIfInBounds_toArray, List.set_cons_zero, List.set_cons_succ]
      refine wpAnyH_ready (rs := [6]) (by kernel_rfl) (by simp) ?_
      refine AllReadyH.cons rfl (fun K hK => ?_) AllReadyH.nil
      rw [if_pos (by rfl)]
      refine oper_store_blk 26 (.tmp 7) (.tmp 16) rfl w3.heap.size 0 #[.int .i64 (H1 : Int), .int .i64 (W1 : Int), .int .i64 (C : Int), .slice (some ⟨wa.heap.size, 0, none⟩) 0 E] rfl rfl _ #[.int .i64 0, .int .i64 0, .int .i64 0, .slice none 0 0] #[.int .i64 (H1 : Int), .int .i64 (W1 : Int), .int .i64 (C : Int), .slice (some ⟨wa.heap.size, 0, none⟩) 0 E] BZ.out (by simp) (by kernel_rfl) (by simp [Value.oneCell']) rfl ?_
      intro wc BX gc
      have hne : wa.heap.size ≠ w3.heap.size := by have := zwa; omega
      replace OW := Lib.hid (OW.out.flat gc (.inr (by first | (simp [Value.ownBlock]; done) | (simp [Value.ownBlock]; exact hne))) (fun _ h => h))
      refine hK.out _ _ ⟨hS.1.away gc (by have := l23; have := zg; simp only [World.size_drew] at *; omega), hS.2.grown gc hS.2.size (fun k h => by have := Option.some.inj h; have := zg; simp only [World.size_drew] at *; omega)⟩ (fun hS => ?_)
      clear hK K
      try simp only [Act.put, List.getElem_toArray, List.getElem_cons_succ, List.getElem_cons_zero, List.setIfInBounds_toArray, List.set_cons_zero, List.set_cons_succ]
      refine wpAnyH_done (by kernel_rfl) ?_ _
      have FZ := hS.2
      go_wp2_with fail
      go_meet
      case rel => exact ⟨_, _, rfl, BX, OW.out, hne, zg, FZ⟩
  case rest =>
    obtain ⟨g, q, rfl, bg, own, hqg, zg, b4⟩ := hcut
    obtain ⟨w4, rfl⟩ : ∃ x, x = wc := ⟨_, rfl⟩
    have BG := Lib.hid bg
    have OW := Lib.hid own
    replace FR := Lib.hid (FR.out.fut b4)
    replace BT := Lib.hid (BT.out.fut b4)
    replace BS := Lib.hid (BS.out.fut b4)
    replace BR := Lib.hid (BR.out.fut b4)
    clear b4
    have l03 : w.heap.size ≤ w3.heap.size := by omega
    have s0 := BS.out.cell 0
    have s1 := BS.out.cell 1
    clear bg own EL
    go_wp2_with fail
    clear s0 s1
    go_loopw [22] (fun i wr => ∃ (k : Nat) (u : Value), k ≤ M ∧ i = .int .i64 k ∧ Blk wr g 26 #[.int .i64 (H1 : Int), .int .i64 (W1 : Int), .int .i64 (C : Int), u] ∧ Own (tInt .i8) wr (fun _ => False) w3.heap.size 37 u (k * C) (pick l C (fun i => fr i * W0 + fc i) k) ∧ u.ownBlock ≠ some g ∧ Below w3.heap.size w4 wr) (fun i _ => M - (intOf i).toNat)
    case atStart => exact ⟨0, _, Nat.zero_le _, rfl, BG.out, by rw [Nat.zero_mul]; exact OW.out, by simpa [Value.ownBlock] using hqg, Below.refl _ _⟩
    case round =>
      clear OW BG hqg
      obtain ⟨k, u, hk, rfl, bg, own, hne, hb⟩ := hrel
      have BG := Lib.hid bg
      have OW := Lib.hid own
      have NE := Lib.hid hne
      have HB := Lib.hid hb
      have FW := Lib.hid (FR.out.out.trans (hb.mono l03))
      clear bg own hne hb
      by_cases hlt : k < M
      · have p1 : (k : Int) < (M : Int) := by omega
        obtain ⟨hr1, hc1, fA, fB⟩ := HP.out k hlt
        have hv := HV.out k hlt
        obtain ⟨r, hr⟩ : ∃ x, fr k = x := ⟨_, rfl⟩
        obtain ⟨c, hc⟩ : ∃ x, fc k = x := ⟨_, rfl⟩
        obtain ⟨a, ha⟩ : ∃ x, fa k = x := ⟨_, rfl⟩
        obtain ⟨b, hbb⟩ : ∃ x, fb k = x := ⟨_, rfl⟩
        have PN := Lib.hid (show pick l C (fun i => fr i * W0 + fc i) (k + 1) = pick l C (fun i => fr i * W0 + fc i) k ++ pix l C (r * W0 + c) by rw [← hr, ← hc]; rfl)
        rw [hr] at hr1 fB
        rw [hc] at hc1 fA
        rw [ha] at fA hv
        rw [hbb] at fB hv
        have hdm : (k : Int) / (W1 : Int) = ((k / W1 : Nat) : Int) := by simp
        have hmm : (k : Int) % (W1 : Int) = ((k % W1 : Nat) : Int) := by simp
        have hM3 : H1 * W1 = M := by have := hMi; exact_mod_cast this
        have hd1 : k / W1 < H1 := Nat.div_lt_of_lt_mul (by rw [Nat.mul_comm, hM3]; exact hlt)
        have hm1 : k % W1 < W1 := Nat.mod_lt _ (by omega)
        obtain ⟨kd, hkd⟩ : ∃ x, k / W1 = x := ⟨_, rfl⟩
        obtain ⟨km, hkm⟩ : ∃ x, k % W1 = x := ⟨_, rfl⟩
        rw [hkd] at hdm hd1
        rw [hkm] at hmm hm1
        rw [hdm, hmm] at hv
        have E1 := Lib.hid (fun x : Ext wr => calls_ext x (middle_any (H1 : Int) (W1 : Int) (C : Int) (kd : Int) (km : Int) x.1 (by omega) (by omega) (by omega) (by omega)))
        obtain ⟨ma, hma⟩ : ∃ x, fl (2 * (km : Int) - ((W1 : Int) - 1)) = x := ⟨_, rfl⟩
        obtain ⟨mb, hmb⟩ : ∃ x, fl ((H1 : Int) - 1 - 2 * (kd : Int)) = x := ⟨_, rfl⟩
        rw [hma, hmb] at E1 hv
        have E2 := Lib.hid (fun x : Ext wr => calls_ext x ((hv x.1 (below_later x.2 FW.out)).mono fun e w' hh => ⟨hh.1, by rw [hh.2]; exact Below.refl _ _⟩))
        have E3 := Lib.hid (fun x : Ext wr => calls_ext x (place_any (H0 : Int) (W0 : Int) (C : Int) r c a b x.1 (by omega) (by omega) (by omega) (by omega) fA fB))
        have BTr := Lib.hid (BT.out.below HB.out (by omega))
        have BSr := Lib.hid (BS.out.below HB.out (by omega))
        have cT : ∀ (x : Ext wr) (i : Nat), x.1.cell? ⟨w.heap.size, i, none⟩ = (#[.int .i64 (H0 : Int), .int .i64 (W0 : Int), .int .i64 (C : Int), .slice (some ⟨bl, off, none⟩) E cap] : Array Value)[i]? := fun x i => (BTr.out.ext x).cell i
        have cS : ∀ (x : Ext wr) (i : Nat), x.1.cell? ⟨w1.heap.size, i, none⟩ = (#[.int .i64 (H1 : Int), .int .i64 (W1 : Int), .int .i64 (C : Int)] : Array Value)[i]? := fun x i => (BSr.out.ext x).cell i
        have d0 : (0 : Int) < (W1 : Int) := by omega
        clear hv fA fB hr hc ha hbb hM3 hkd hkm hma hmb
        go_wp2_with fail
        refine wp_region_ext wr (by kernel_rfl) (by kernel_rfl) (Below.refl _ _) ?_
        iterate 12 (go_big_quiet_step (fail))
        go_big_quiet_step (exact E1.out _)
        go_big_quiet_step (exact E2.out _)
        go_big_quiet_step (exact E3.out _)
        repeat (go_big_quiet_step (fail))
        refine wpQuiet_nil ?_
        rintro wb ⟨⟨_, hba⟩, rfl⟩
        have zr : w3.heap.size ≤ wr.heap.size := by have := BG.out.lt; omega
        have HBb := Lib.hid (below_call HB.out hba zr)
        have BTb := Lib.hid (BTr.out.fut hba)
        have BSb := Lib.hid (BSr.out.fut hba)
        have BGb := Lib.hid (BG.out.fut hba)
        have OWb := Lib.hid (OW.out.below hba (Nat.le_refl _) (fun _ h => h.elim))
        have FWb := Lib.hid (below_later hba FW.out)
        have zb : w3.heap.size ≤ wb.heap.size := Nat.le_trans zr hba.size
        obtain ⟨rx, hrx⟩ : ∃ x, r * W0 = x := ⟨_, rfl⟩
        have hri : (r : Int) * (W0 : Int) = (rx : Int) := by rw [← hrx, Int.natCast_mul]
        have hlM : rx + c < M := by rw [← hrx, K6.out]; exact at_lt hr1 hc1
        obtain ⟨ax, hax⟩ : ∃ x, (rx + c) * C = x := ⟨_, rfl⟩
        have hai : ((rx : Int) + (c : Int)) * (C : Int) = (ax : Int) := by rw [← hax, Int.natCast_mul, Int.natCast_add]
        have haE : ax + C ≤ E := by
          rw [← HE.out, ← hax, ← Nat.succ_mul]
          exact Nat.mul_le_mul_right _ hlM
        have SUB := Lib.hid ((HS0.out.below FWb.out (fun _ h => h)).sub ax C ax (cap - ax) (by simp [tInt]) haE (by have := HS0.out.cap_le; omega) (by omega))
        have PX := Lib.hid (show (l.drop ax).take C = pix l C (r * W0 + c) by unfold pix; rw [hrx, hax])
        rw [PX.out] at SUB
        have hkC : k * C + C ≤ E := by rw [← HE.out, ← Nat.succ_mul]; exact Nat.mul_le_mul_right _ hlt
        have b1 := BTb.out.cell 1
        have b2 := BSb.out.cell 2
        clear hrx hax hr1 hc1 hba cT cS E1 E2 E3 BTr BSr BG OW FW HB hdm hmm hd1 hm1 PX
        go_wp2_with fail
        clear b1 b2
        have ew : IntKind.i64.wrap ((ax : Int) + (C : Int)) = (ax : Int) + (C : Int) := IntWalk.i64_in _ (by omega)
        have et : ((ax : Int) + (C : Int)).toNat = ax + C := by omega
        have hcp := HS0.out.cap_le
        have ne0 := Lib.hid (show some g ≠ u.ownBlock from fun e => NE.out e.symm)
        have ne1 := Lib.hid (show some w.heap.size ≠ u.ownBlock from fun e => by have := (OWb.out.lt _ e.symm).1; omega)
        have ne2 := Lib.hid (show some w1.heap.size ≠ u.ownBlock from fun e => by have := (OWb.out.lt _ e.symm).1; omega)
        have OD := Lib.hid (OWb.out.heap (w' := wb.drew) rfl)
        have SD := Lib.hid (SUB.out.keep (w' := wb.drew) (fun _ _ => rfl))
        refine wp_region_T (fun w' => w'.cell? ⟨g, 3, none⟩ = some u ∧ w'.cell? ⟨w.heap.size, 3, none⟩ = some (.slice (some ⟨bl, off, none⟩) E cap) ∧ w'.cell? ⟨w1.heap.size, 2, none⟩ = some (.int .i64 (C : Int)) ∧ Below w3.heap.size w4 w') 11 (by kernel_rfl) ?_ (fun hS => ?_)
        · exact ⟨BGb.out.drew.cell 3, BTb.out.drew.cell 3, BSb.out.drew.cell 2, HBb.out.drew⟩
        refine wpAnyT_take (i := 0) (v := ?_) rfl (by as_aux_lemma => kernel_rfl) (by as_aux_lemma => kernel_rfl) (by as_aux_lemma => kernel_rfl) (by as_aux_lemma => kernel_rfl) rfl (fun _ _ _ h => h) (Or.inl ⟨by rfl, ?_⟩) hS ?_
        rotate_left
        · intro w hSw; (try dsimp only at hSw); go_simp; try with_reducible rfl
        try simp only [Act.put, List.getElem_toArray, List.getElem_cons_succ, List.getElem_cons_zero, List.setIfInBounds_toArray, List.set_cons_zero, List.set_cons_succ]
        refine wpAnyT_take (i := 1) (v := ?_) rfl (by as_aux_lemma => kernel_rfl) (by as_aux_lemma => kernel_rfl) (by as_aux_lemma => kernel_rfl) (by as_aux_lemma => kernel_rfl) rfl (fun _ _ _ h => h) (Or.inl ⟨by rfl, ?_⟩) hS ?_
        rotate_left
        · intro w hSw; (try dsimp only at hSw); go_simp; try with_reducible rfl
        try simp only [Act.put, List.getElem_toArray, List.getElem_cons_succ, List.getElem_cons_zero, List.setIfInBounds_toArray, List.set_cons_zero, List.set_cons_succ]
        refine wpAnyT_take (i := 2) (v := ?_) rfl (by as_aux_lemma => kernel_rfl) (by as_aux_lemma => kernel_rfl) (by as_aux_lemma => kernel_rfl) (by as_aux_lemma => kernel_rfl) rfl (fun _ _ _ h => h) (Or.inl ⟨by rfl, ?_⟩) hS ?_
        rotate_left
        · intro w hSw; (try dsimp only at hSw); go_simp; try with_reducible rfl
        try simp only [Act.put, List.getElem_toArray, List.getElem_cons_succ, List.getElem_cons_zero, List.setIfInBounds_toArray, List.set_cons_zero, List.set_cons_succ]
        refine wpAnyT_take (i := 3) (v := ?_) rfl (by as_aux_lemma => kernel_rfl) (by as_aux_lemma => kernel_rfl) (by as_aux_lemma => kernel_rfl) (by as_aux_lemma => kernel_rfl) rfl (fun _ _ _ h => h) (Or.inl ⟨by rfl, ?_⟩) hS ?_
        rotate_left
        · intro w hSw; (try dsimp only at hSw); go_simp; try with_reducible rfl
        try simp only [Act.put, List.getElem_toArray, List.getElem_cons_succ, List.getElem_cons_zero, List.setIfInBounds_toArray, List.set_cons_zero, List.set_cons_succ]
        refine wpAnyT_take (i := 4) (v := ?_) rfl (by as_aux_lemma => kernel_rfl) (by as_aux_lemma => kernel_rfl) (by as_aux_lemma => kernel_rfl) (by as_aux_lemma => kernel_rfl) rfl (fun _ _ _ h => h) (Or.inl ⟨by rfl, ?_⟩) hS ?_
        rotate_left
        · intro w hSw; (try dsimp only at hSw); go_simp; try with_reducible rfl
        try simp only [Act.put, List.getElem_toArray, List.getElem_cons_succ, List.getElem_cons_zero, List.setIfInBounds_toArray, List.set_cons_zero, List.set_cons_succ]
        refine wpAnyT_take (i := 5) (v := ?_) rfl (by as_aux_lemma => kernel_rfl) (by as_aux_lemma => kernel_rfl) (by as_aux_lemma => kernel_rfl) (by as_aux_lemma => kernel_rfl) rfl (fun _ _ _ h => h) (Or.inl ⟨by rfl, ?_⟩) hS ?_
        rotate_left
        · intro w hSw; (try dsimp only at hSw); go_simp; try with_reducible rfl
        try simp only [Act.put, List.getElem_toArray, List.getElem_cons_succ, List.getElem_cons_zero, List.setIfInBounds_toArray, List.set_cons_zero, List.set_cons_succ]
        refine wpAnyT_take (i := 6) (v := ?_) rfl (by as_aux_lemma => kernel_rfl) (by as_aux_lemma => kernel_rfl) (by as_aux_lemma => kernel_rfl) (by as_aux_lemma => kernel_rfl) rfl (fun _ _ _ h => h) (Or.inl ⟨by rfl, ?_⟩) hS ?_
        rotate_left
        · intro w hSw; (try dsimp only at hSw); go_simp; try with_reducible rfl
        try simp only [Act.put, List.getElem_toArray, List.getElem_cons_succ, List.getElem_cons_zero, List.setIfInBounds_toArray, List.set_cons_zero, List.set_cons_succ]
        refine wpAnyT_take (i := 7) (v := ?_) rfl (by as_aux_lemma => kernel_rfl) (by as_aux_lemma => kernel_rfl) (by as_aux_lemma => kernel_rfl) (by as_aux_lemma => kernel_rfl) rfl (fun _ _ _ h => h) (Or.inl ⟨by rfl, ?_⟩) hS ?_
        rotate_left
        · intro w hSw; (try dsimp only at hSw); go_simp; try with_reducible rfl
        try simp only [Act.put, List.getElem_toArray, List.getElem_cons_succ, List.getElem_cons_zero, List.setIfInBounds_toArray, List.set_cons_zero, List.set_cons_succ]
        refine wpAnyT_take (i := 8) (v := ?_) rfl (by as_aux_lemma => kernel_rfl) (by as_aux_lemma => kernel_rfl) (by as_aux_lemma => kernel_rfl) (by as_aux_lemma => kernel_rfl) rfl (fun _ _ _ h => h) (Or.inl ⟨by rfl, ?_⟩) hS ?_
        rotate_left
        · intro w hSw; (try dsimp only at hSw); go_simp; try with_reducible rfl
        try simp only [Act.put, List.getElem_toArray, List.getElem_cons_succ, List.getElem_cons_zero, List.setIfInBounds_toArray, List.set_cons_zero, List.set_cons_succ]
        refine wpAnyT_take (i := 9) rfl (by as_aux_lemma => kernel_rfl) (by as_aux_lemma => kernel_rfl) (by as_aux_lemma => kernel_rfl) (by as_aux_lemma => kernel_rfl) rfl (fun _ _ _ h => h) (show YieldsIf _ _ _ _ (.slice (some ⟨bl, off + ax, none⟩) C (cap - ax)) _ from Or.inl ⟨by rfl, fun w hSw => by (try dsimp only at hSw); go_simp; rw [if_pos ⟨by omega, by omega⟩, if_neg (by omega)]⟩) hS ?_
        try simp only [Act.put, List.getElem_toArray, List.getElem_cons_succ, List.getElem_cons_zero, List.setIfInBounds_toArray, List.set_cons_zero, List.set_cons_succ]
        refine wpAnyT_one (i := 10) (by kernel_rfl) rfl rfl (fun K hK => ?_)
        (rw [if_pos (by rfl)]; refine oper_extend (base := w3.heap.size) (.tmp 54) (.tmp 62) rfl ei_i8 rfl OD.out rfl SD.out (by unfold maxLen; omega) (by omega) zb ?_; intro u' w7 own7 g7 at7; refine hK.out _ _ ⟨cell_grown g7 hS.1 ne0.out, cell_grown g7 hS.2.1 ne1.out, cell_grown g7 hS.2.2.1 ne2.out, hS.2.2.2.grown g7 zb (fun j hj => (OD.out.lt j hj).1)⟩ (fun hS => ?_))
        clear hK K
        try simp only [Act.put, List.getElem_toArray, List.getElem_cons_succ, List.getElem_cons_zero, List.setIfInBounds_toArray, List.set_cons_zero, List.set_cons_succ]
        refine wpAnyT_tail _ _ rfl rfl (by kernel_rfl) ?_
        have B7 := Lib.hid (show Blk w7 g 26 #[.int .i64 (H1 : Int), .int .i64 (W1 : Int), .int .i64 (C : Int), u] from ⟨(g7.block g BGb.out.lt ne0.out).trans BGb.out.heap⟩)
        have H7 := Lib.hid hS.2.2.2
        have O7 := Lib.hid own7
        have N7 := Lib.hid (show u'.ownBlock ≠ some g by
          rcases at7 with e | e
          · rw [e]; exact NE.out
          · rw [e]; intro h; have h1 : wb.heap.size = g := Option.some.inj h; have := BGb.out.lt; omega)
        obtain ⟨A7, c7, rfl, _⟩ := O7.out.sl (S' := fun _ => True) (by decide) (fun _ _ _ => trivial) (fun _ _ => trivial)
        have f3 := B7.out.frozen 3
        have c3 := B7.out.cell 3
        have l7 := B7.out.lt
        clear hS own7 at7 g7 OD SD
        go_wp2_with fail
        have gs : w7.grownBy (w7.setCell ⟨g, 3, none⟩ (.slice A7 (k * C + C) c7)) (some g) := ⟨rfl, rfl, rfl, by simp, fun j hj hne => Below.heap_setCell _ _ _ _ (fun e => hne (by rw [e]))⟩
        refine ⟨⟨k + 1, _, by omega, by go_num, B7.out.set_ 3 (.slice A7 (k * C + C) c7), ?_, N7.out, H7.out.setCell zg _⟩, by simp [intOf]; omega⟩
        rw [Nat.add_mul, Nat.one_mul, PN.out]
        exact O7.out.flat gs (.inr N7.out) (fun _ h => h)
      · obtain rfl : k = M := by omega
        have BRr := Lib.hid (BR.out.below HB.out (by omega))
        rw [HE.out] at OW
        obtain ⟨A9, c9, rfl, s9⟩ := OW.out.sl (S' := bin w3.heap.size wr.heap.size) (by decide) (fun b h1 h2 => ⟨h1, h2⟩) (fun _ h => h.elim)
        have S9 := Lib.hid s9
        have g2 : w2.heap.size < g := by omega
        clear OW s9 hlt hk NE
        go_wp2_with (first
          | (refine wpList_load_row rfl 26 (.tmp 7) rfl g rfl _ _ (0, 0) _ BG.out.heap Try.underlying26 rfl (by kernel_rfl) ?_)
          | (refine wpList_store_all rfl 26 (.tmp 6) (.tmp 66) rfl w2.heap.size #[.int .i64 (H1 : Int), .int .i64 (W1 : Int), .int .i64 (C : Int), .slice A9 E c9] rfl rfl _ _ BRr.out rfl (by kernel_rfl) (by simp [Value.oneCell']) ?_; intro w7 BQ gq; have BQ := Lib.hid BQ; have gq := Lib.hid gq))
        have BF := FW.out.grown gq.out FW.out.size (fun j hj => by have := Option.some.inj hj; omega)
        refine ret_cell rfl BQ.out rfl Try.underlying26 (by kernel_rfl) rfl ?_
        have zq := gq.out.size
        exact ⟨A9, c9, rfl, (S9.out.keep fun b hb => gq.out.block b hb.2 (by have := hb.1; simp; omega)).more fun b hb => ⟨by have := hb.1; omega, by have := hb.2; omega⟩, BF⟩

set_option maxHeartbeats 8000000 in
theorem madeOver_any (H0 W0 H1 W1 C E cap bl off : Nat) (l : List Int) (fr fc fa fb : Nat → Nat) (w : World) (hs : Sl (tInt .i8) w (blo w.heap.size) (some ⟨bl, off, none⟩) E cap l) (hm : E = H0 * W0 * C) (k1 : 1 ≤ H0 ∧ H0 ≤ 16) (k2 : 1 ≤ W0 ∧ W0 ≤ 16) (k3 : 1 ≤ H1 ∧ H1 ≤ 16) (k4 : 1 ≤ W1 ∧ W1 ≤ 16) (k5 : 1 ≤ C ∧ C ≤ 1024) (k6 : H1 * W1 = H0 * W0) (k7 : E ≤ 1024)
    (hp : ∀ i, i < H1 * W1 → fr i < H0 ∧ fc i < W0 ∧ Fl (fa i) (2 * (fc i : Int) - ((W0 : Int) - 1)) ∧ Fl (fb i) ((H0 : Int) - 1 - 2 * (fr i : Int)))
    (hv : ∀ i : Nat, i < H1 * W1 → ∀ w', Below w.heap.size w w' → Calls Try.prog 19 #[.complex .f64 (fl (2 * ((i : Int) % (W1 : Int)) - ((W1 : Int) - 1))) (fl ((H1 : Int) - 1 - 2 * ((i : Int) / (W1 : Int))))] w' fun e w'' => e = .returned (.complex .f64 (fa i) (fb i)) ∧ w'' = w') :
    Calls Try.prog 17 #[.agg #[.int .i64 (H0 : Int), .int .i64 (W0 : Int), .int .i64 (C : Int), .slice (some ⟨bl, off, none⟩) E cap], .agg #[.int .i64 (H1 : Int), .int .i64 (W1 : Int), .int .i64 (C : Int)], .func (.func 19) #[] #[]] w fun e w' => ∃ A c, e = .returned (.agg #[.int .i64 (H1 : Int), .int .i64 (W1 : Int), .int .i64 (C : Int), .slice A E c]) ∧ Sl (tInt .i8) w' (bin w.heap.size w'.heap.size) A E c (pick l C (fun i => fr i * W0 + fc i) (H1 * W1)) ∧ Below w.heap.size w w' := by
  obtain ⟨a1, a2⟩ := k1
  obtain ⟨a3, a4⟩ := k2
  obtain ⟨a5, a6⟩ := k3
  obtain ⟨a7, a8⟩ := k4
  obtain ⟨a9, a10⟩ := k5
  have hn := hs.n_eq
  have LL := Lib.hid (show l.length = H0 * W0 * C by rw [hn, hm])
  have hE : H1 * W1 * C = E := by rw [k6, hm]
  have hel : elems (H1 : Int) (W1 : Int) (C : Int) = (E : Int) := by
    rw [elems_iff, if_pos ⟨by omega, by omega, by omega, by omega, by omega, by omega, by rw [← Int.natCast_mul, ← Int.natCast_mul, hE]; omega⟩, ← Int.natCast_mul, ← Int.natCast_mul, hE]
  have EL := Lib.hid (fun w => elems_any (H1 : Int) (C : Int) (W1 : Int) w (by rw [inK_i64]; omega) (by rw [inK_i64]; omega) (by rw [inK_i64]; omega))
  rw [hel] at EL
  obtain ⟨M, hM⟩ : ∃ M, H1 * W1 = M := ⟨_, rfl⟩
  have hMi : (H1 : Int) * (W1 : Int) = (M : Int) := by rw [← hM]; simp
  have hM2 : M ≤ 256 := by rw [← hM]; exact Nat.mul_le_mul a6 a8
  rw [hM] at hp hv k6 hE ⊢
  have HP := Lib.hid hp
  have HV := Lib.hid hv
  have HE := Lib.hid hE
  have K6 := Lib.hid k6
  have FR := Lib.hid (Far.refl w)
  obtain ⟨w1, hw_w1⟩ : ∃ nw_, w.alloc (.cells #[.int .i64 (H0 : Int), .int .i64 (W0 : Int), .int .i64 (C : Int), .slice (some ⟨bl, off, none⟩) E cap] 26) = nw_ := ⟨_, rfl⟩
  have k_w1 : Below w.heap.size w w1 := by rw [← hw_w1]; exact (Below.refl _ _).alloc (Nat.le_refl _) _
  replace FR := Lib.hid (FR.out.fut k_w1)
  have BT := Lib.hid (show Blk w1 w.heap.size 26 #[.int .i64 (H0 : Int), .int .i64 (W0 : Int), .int .i64 (C : Int), .slice (some ⟨bl, off, none⟩) E cap] by rw [← hw_w1]; exact Blk.now _ _ _ _ rfl)
  clear k_w1
  obtain ⟨w2, hw_w2⟩ : ∃ nw_, w1.alloc (.cells #[.int .i64 (H1 : Int), .int .i64 (W1 : Int), .int .i64 (C : Int)] 23) = nw_ := ⟨_, rfl⟩
  have k_w2 : Below w1.heap.size w1 w2 := by rw [← hw_w2]; exact (Below.refl _ _).alloc (Nat.le_refl _) _
  replace FR := Lib.hid (FR.out.fut k_w2)
  replace BT := Lib.hid (BT.out.fut k_w2)
  have BS := Lib.hid (show Blk w2 w1.heap.size 23 #[.int .i64 (H1 : Int), .int .i64 (W1 : Int), .int .i64 (C : Int)] by rw [← hw_w2]; exact Blk.now _ _ _ _ rfl)
  clear k_w2
  obtain ⟨w3, hw_w3⟩ : ∃ nw_, w2.alloc (.cells #[.int .i64 0, .int .i64 0, .int .i64 0, .slice none 0 0] 26) = nw_ := ⟨_, rfl⟩
  have k_w3 : Below w2.heap.size w2 w3 := by rw [← hw_w3]; exact (Below.refl _ _).alloc (Nat.le_refl _) _
  replace FR := Lib.hid (FR.out.fut k_w3)
  replace BT := Lib.hid (BT.out.fut k_w3)
  replace BS := Lib.hid (BS.out.fut k_w3)
  have BR := Lib.hid (show Blk w3 w2.heap.size 26 #[.int .i64 0, .int .i64 0, .int .i64 0, .slice none 0 0] by rw [← hw_w3]; exact Blk.now _ _ _ _ rfl)
  clear k_w3
  have H := Lib.hid (hs.later FR.out.out (Nat.le_refl _))
  have l01 : w.heap.size < w1.heap.size := by rw [← hw_w1]; simp
  have l12 : w1.heap.size < w2.heap.size := by rw [← hw_w2]; simp
  have l23 : w2.heap.size < w3.heap.size := by rw [← hw_w3]; simp
  have HS0 := Lib.hid hs
  clear hs hn hp hv hE hel k6 hM hm
  go_enter Try.func17, Try.ntmps17
  go_wp2_with fail
  clear hw_w1 hw_w2 hw_w3
  go_cut [7] (fun b wx => ∃ g q, b = .pointer (some ⟨g, 0, none⟩) ∧ Blk wx g 26 #[.int .i64 (H1 : Int), .int .i64 (W1 : Int), .int .i64 (C : Int), .slice (some ⟨q, 0, none⟩) 0 E] ∧ Own (tInt .i8) wx (fun _ => False) w3.heap.size 37 (.slice (some ⟨q, 0, none⟩) 0 E) 0 [] ∧ q ≠ g ∧ w3.heap.size ≤ g ∧ Below w3.heap.size w3 wx)
  case first =>
    have ltz := BS.out.lt
    refine wp_region_held_drew (S := fun w' => Blk w' w1.heap.size 23 #[.int .i64 (H1 : Int), .int .i64 (W1 : Int), .int .i64 (C : Int)] ∧ Below w3.heap.size w3 w') (by kernel_rfl) ?_ (fun hS => ?_)
    · exact ⟨BS.out.drew, (Below.refl _ _).drew⟩
    refine wpAnyH_take (i := 0) rfl (by as_aux_lemma => kernel_rfl) (by as_aux_lemma => kernel_rfl) (by as_aux_lemma => kernel_rfl) (fun _ _ _ h => h) (yieldsIf_load_blk (by rfl) 23 (.tmp 4) rfl w1.heap.size 0 rfl _ _ #[.int .i64 (H1 : Int), .int .i64 (W1 : Int), .int .i64 (C : Int)] _ (fun w hs => hs.1) Try.underlying23 rfl (by kernel_rfl) rfl) hS ?_
    try simp only [Act.put, List.getElem_toArray, List.getElem_cons_succ, List.getElem_cons_zero, List.setIfInBounds_toArray, List.set_cons_zero, List.set_cons_succ]
    refine wpAnyH_take (i := 1) rfl (by as_aux_lemma => kernel_rfl) (by as_aux_lemma => kernel_rfl) (by as_aux_lemma => kernel_rfl) (fun _ _ _ h => h) (yieldsIf_load_blk (by rfl) 23 (.tmp 4) rfl w1.heap.size 0 rfl _ _ #[.int .i64 (H1 : Int), .int .i64 (W1 : Int), .int .i64 (C : Int)] _ (fun w hs => hs.1) Try.underlying23 rfl (by kernel_rfl) rfl) hS ?_
    try simp only [Act.put, List.getElem_toArray, List.getElem_cons_succ, List.getElem_cons_zero, List.setIfInBounds_toArray, List.set_cons_zero, List.set_cons_succ]
    refine wpAnyH_ready (rs := [2, 5]) (by kernel_rfl) (by simp) ?_
    refine AllReadyH.cons rfl (fun K hK => ?_) (AllReadyH.cons rfl (fun K hK => ?_) AllReadyH.nil)
    · go_simp
      refine (EL.out _).mono ?_
      rintro e wa ⟨rfl, hb⟩
      refine hK.out _ _ ?_ (fun hS => ?_)
      · exact ⟨Blk.later hS.1 hb, below_later hb hS.2⟩
      clear hK K
      try simp only [Act.put, List.getElem_toArray, List.getElem_cons_succ, List.getElem_cons_zero, List.setIfInBounds_toArray, List.set_cons_zero, List.set_cons_succ]
      refine wpAnyH_ready (rs := [3, 5]) (by kernel_rfl) (by simp) ?_
      refine AllReadyH.cons rfl (fun K hK => ?_) (AllReadyH.cons rfl (fun K hK => ?_) AllReadyH.nil)
      · rw [if_pos (by rfl)]
        have zq : w3.heap.size ≤ wa.heap.size := hS.2.size
        refine oper_make0 (t := tInt .i8) (base := w3.heap.size) (.const (.int .i64 0)) (.tmp 14) rfl ei_i8 .i64 .i64 rfl rfl (by omega) (by unfold maxLen; omega) zq ?_
        intro wm own gm
        have OW := Lib.hid (show Own (tInt .i8) wm (fun _ => False) w3.heap.size 37 (.slice (some ⟨wa.heap.size, 0, none⟩) 0 E) 0 [] by first | exact own | simpa [World.size_alloc] using own)
        refine hK.out _ _ ⟨Blk.grown0 hS.1 gm, hS.2.grown gm zq (by simp)⟩ (fun hS => ?_)
        clear hK K own gm
        try simp only [Act.put, List.getElem_toArray, List.getElem_cons_succ, List.getElem_cons_zero, List.setIfInBounds_toArray, List.set_cons_zero, List.set_cons_succ]
        refine wpAnyH_take (i := 4) (v := ?_) rfl (by as_aux_lemma => kernel_rfl) (by as_aux_lemma => kernel_rfl) (by as_aux_lemma => kernel_rfl) (fun _ _ _ h => h) (Or.inl ⟨by rfl, ?_⟩) hS ?_
        rotate_left
        · intro w hSw; (try dsimp only at hSw); go_simp; try with_reducible rfl
        try simp only [Act.put, List.getElem_toArray, List.getElem_cons_succ, List.getElem_cons_zero, List.setIfInBounds_toArray, List.set_cons_zero, List.set_cons_succ]
        refine wpAnyH_ready (rs := [5]) (by kernel_rfl) (by simp) ?_
        refine AllReadyH.cons rfl (fun K hK => ?_) AllReadyH.nil
        go_simp
        have zg : w3.heap.size ≤ wm.heap.size := hS.2.size
        have hb : Below wm.heap.size wm (wm.alloc (.cells #[.int .i64 0, .int .i64 0, .int .i64 0, .slice none 0 0] 26)) := (Below.refl _ _).alloc (Nat.le_refl _) _
        have BZ := Lib.hid (Blk.now wm wm.heap.size 26 #[.int .i64 0, .int .i64 0, .int .i64 0, .slice none 0 0] rfl)
        have ltq : wa.heap.size < wm.heap.size := (OW.out.lt _ rfl).2
        replace OW := Lib.hid (OW.out.below hb (Nat.le_refl _) (fun _ h => h.elim))
        refine hK.out _ _ ?_ (fun hS => ?_)
        · exact ⟨Blk.later hS.1 hb, below_later hb hS.2⟩
        clear hK K
        try simp only [Act.put, List.getElem_toArray, List.getElem_cons_succ, List.getElem_cons_zero, List.setIfInBounds_toArray, List.set_cons_zero, List.set_cons_succ]
        refine wpAnyH_ready (rs := [6]) (by kernel_rfl) (by simp) ?_
        refine AllReadyH.cons rfl (fun K hK => ?_) AllReadyH.nil
        rw [if_pos (by rfl)]
        refine oper_store_blk 26 (.tmp 7) (.tmp 16) rfl wm.heap.size 0 #[.int .i64 (H1 : Int), .int .i64 (W1 : Int), .int .i64 (C : Int), .slice (some ⟨wa.heap.size, 0, none⟩) 0 E] rfl rfl _ #[.int .i64 0, .int .i64 0, .int .i64 0, .slice none 0 0] #[.int .i64 (H1 : Int), .int .i64 (W1 : Int), .int .i64 (C : Int), .slice (some ⟨wa.heap.size, 0, none⟩) 0 E] BZ.out (by simp) (by kernel_rfl) (by simp [Value.oneCell']) rfl ?_
        intro wc BX gc
        have hne : wa.heap.size ≠ wm.heap.size := by have := ltq; omega
        replace OW := Lib.hid (OW.out.flat gc (.inr (by first | (simp [Value.ownBlock]; done) | (simp [Value.ownBlock]; exact hne))) (fun _ h => h))
        refine hK.out _ _ ⟨hS.1.away gc (by have := l23; have := zg; simp only [World.size_drew] at *; omega), hS.2.grown gc hS.2.size (fun k h => by have := Option.some.inj h; have := zg; simp only [World.size_drew] at *; omega)⟩ (fun hS => ?_)
        clear hK K
        try simp only [Act.put, List.getElem_toArray, List.getElem_cons_succ, List.getElem_cons_zero, List.setIfInBounds_toArray, List.set_cons_zero, List.set_cons_succ]
        refine wpAnyH_done (by kernel_rfl) ?_ _
        have FZ := hS.2
        go_wp2_with fail
        go_meet
        case rel => exact ⟨_, _, rfl, BX, OW.out, hne, zg, FZ⟩
      · go_simp
        have zg : w3.heap.size ≤ wa.heap.size := hS.2.size
        have hb : Below wa.heap.size wa (wa.alloc (.cells #[.int .i64 0, .int .i64 0, .int .i64 0, .slice none 0 0] 26)) := (Below.refl _ _).alloc (Nat.le_refl _) _
        have BZ := Lib.hid (Blk.now wa wa.heap.size 26 #[.int .i64 0, .int .i64 0, .int .i64 0, .slice none 0 0] rfl)
        refine hK.out _ _ ?_ (fun hS => ?_)
        · exact ⟨Blk.later hS.1 hb, below_later hb hS.2⟩
        clear hK K
        try simp only [Act.put, List.getElem_toArray, List.getElem_cons_succ, List.getElem_cons_zero, List.setIfInBounds_toArray, List.set_cons_zero, List.set_cons_succ]
        refine wpAnyH_ready (rs := [3]) (by kernel_rfl) (by simp) ?_
        refine AllReadyH.cons rfl (fun K hK => ?_) AllReadyH.nil
        rw [if_pos (by rfl)]
        have zq : w3.heap.size ≤ (wa.alloc (.cells #[.int .i64 0, .int .i64 0, .int .i64 0, .slice none 0 0] 26)).heap.size := hS.2.size
        refine oper_make0 (t := tInt .i8) (base := w3.heap.size) (.const (.int .i64 0)) (.tmp 14) rfl ei_i8 .i64 .i64 rfl rfl (by omega) (by unfold maxLen; omega) zq ?_
        intro wm own gm
        have OW := Lib.hid (show Own (tInt .i8) wm (fun _ => False) w3.heap.size 37 (.slice (some ⟨(wa.heap.size + 1), 0, none⟩) 0 E) 0 [] by first | exact own | simpa [World.size_alloc] using own)
        replace BZ := Lib.hid (BZ.out.grown0 gm)
        refine hK.out _ _ ⟨Blk.grown0 hS.1 gm, hS.2.grown gm zq (by simp)⟩ (fun hS => ?_)
        clear hK K own gm
        try simp only [Act.put, List.getElem_toArray, List.getElem_cons_succ, List.getElem_cons_zero, List.setIfInBounds_toArray, List.set_cons_zero, List.set_cons_succ]
        refine wpAnyH_take (i := 4) (v := ?_) rfl (by as_aux_lemma => kernel_rfl) (by as_aux_lemma => kernel_rfl) (by as_aux_lemma => kernel_rfl) (fun _ _ _ h => h) (Or.inl ⟨by rfl, ?_⟩) hS ?_
        rotate_left
        · intro w hSw; (try dsimp only at hSw); go_simp; try with_reducible rfl
        try simp only [Act.put, List.getElem_toArray, List.getElem_cons_succ, List.getElem_cons_zero, List.setIfInBounds_toArray, List.set_cons_zero, List.set_cons_succ]
        refine wpAnyH_ready (rs := [6]) (by kernel_rfl) (by simp) ?_
        refine AllReadyH.cons rfl (fun K hK => ?_) AllReadyH.nil
        rw [if_pos (by rfl)]
        refine oper_store_blk 26 (.tmp 7) (.tmp 16) rfl wa.heap.size 0 #[.int .i64 (H1 : Int), .int .i64 (W1 : Int), .int .i64 (C : Int), .slice (some ⟨(wa.heap.size + 1), 0, none⟩) 0 E] rfl rfl _ #[.int .i64 0, .int .i64 0, .int .i64 0, .slice none 0 0] #[.int .i64 (H1 : Int), .int .i64 (W1 : Int), .int .i64 (C : Int), .slice (some ⟨(wa.heap.size + 1), 0, none⟩) 0 E] BZ.out (by simp) (by kernel_rfl) (by simp [Value.oneCell']) rfl ?_
        intro wc BX gc
        have hne : (wa.heap.size + 1) ≠ wa.heap.size := by omega
        replace OW := Lib.hid (OW.out.flat gc (.inr (by first | (simp [Value.ownBlock]; done) | (simp [Value.ownBlock]; exact hne))) (fun _ h => h))
        refine hK.out _ _ ⟨hS.1.away gc (by have := l23; have := zg; simp only [World.size_drew] at *; omega), hS.2.grown gc hS.2.size (fun k h => by have := Option.some.inj h; have := zg; simp only [World.size_drew] at *; omega)⟩ (fun hS => ?_)
        clear hK K
        try simp only [Act.put, List.getElem_toArray, List.getElem_cons_succ, List.getElem_cons_zero, List.setIfInBounds_toArray, List.set_cons_zero, List.set_cons_succ]
        refine wpAnyH_done (by kernel_rfl) ?_ _
        have FZ := hS.2
        go_wp2_with fail
        go_meet
        case rel => exact ⟨_, _, rfl, BX, OW.out, hne, zg, FZ⟩
    · go_simp
      have zg : w3.heap.size ≤ w3.heap.size := hS.2.size
      have hb : Below w3.drew.heap.size w3.drew (w3.drew.alloc (.cells #[.int .i64 0, .int .i64 0, .int .i64 0, .slice none 0 0] 26)) := (Below.refl _ _).alloc (Nat.le_refl _) _
      have BZ := Lib.hid (Blk.now w3.drew w3.heap.size 26 #[.int .i64 0, .int .i64 0, .int .i64 0, .slice none 0 0] rfl)
      refine hK.out _ _ ?_ (fun hS => ?_)
      · exact ⟨Blk.later hS.1 hb, below_later hb hS.2⟩
      clear hK K
      try simp only [Act.put, List.getElem_toArray, List.getElem_cons_succ, List.getElem_cons_zero, List.setIfInBounds_toArray, List.set_cons_zero, List.set_cons_succ]
      refine wpAnyH_ready (rs := [2]) (by kernel_rfl) (by simp) ?_
      refine AllReadyH.cons rfl (fun K hK => ?_) AllReadyH.nil
      go_simp
      refine (EL.out _).mono ?_
      rintro e wa ⟨rfl, hb⟩
      replace BZ := Lib.hid (BZ.out.later hb)
      have zwa := BZ.out.lt
      refine hK.out _ _ ?_ (fun hS => ?_)
      · exact ⟨Blk.later hS.1 hb, below_later hb hS.2⟩
      clear hK K
      try simp only [Act.put, List.getElem_toArray, List.getElem_cons_succ, List.getElem_cons_zero, List.setIfInBounds_toArray, List.set_cons_zero, List.set_cons_succ]
      refine wpAnyH_ready (rs := [3]) (by kernel_rfl) (by simp) ?_
      refine AllReadyH.cons rfl (fun K hK => ?_) AllReadyH.nil
      rw [if_pos (by rfl)]
      have zq : w3.heap.size ≤ wa.heap.size := hS.2.size
      refine oper_make0 (t := tInt .i8) (base := w3.heap.size) (.const (.int .i64 0)) (.tmp 14) rfl ei_i8 .i64 .i64 rfl rfl (by omega) (by unfold maxLen; omega) zq ?_
      intro wm own gm
      have OW := Lib.hid (show Own (tInt .i8) wm (fun _ => False) w3.heap.size 37 (.slice (some ⟨wa.heap.size, 0, none⟩) 0 E) 0 [] by first | exact own | simpa [World.size_alloc] using own)
      replace BZ := Lib.hid (BZ.out.grown0 gm)
      refine hK.out _ _ ⟨Blk.grown0 hS.1 gm, hS.2.grown gm zq (by simp)⟩ (fun hS => ?_)
      clear hK K own gm
      try simp only [Act.put, List.getElem_toArray, List.getElem_cons_succ, List.getElem_cons_zero, List.setIfInBounds_toArray, List.set_cons_zero, List.set_cons_succ]
      refine wpAnyH_take (i := 4) (v := ?_) rfl (by as_aux_lemma => kernel_rfl) (by as_aux_lemma => kernel_rfl) (by as_aux_lemma => kernel_rfl) (fun _ _ _ h => h) (Or.inl ⟨by rfl, ?_⟩) hS ?_
      rotate_left
      · intro w hSw; (try dsimp only at hSw); go_simp; try with_reducible rfl
      try simp only [Act.put, List.getElem_toArray, List.getElem_cons_succ, List.getElem_cons_zero, List.setIfInBounds_toArray, List.set_cons_zero, List.set_cons_succ]
      refine wpAnyH_ready (rs := [6]) (by kernel_rfl) (by simp) ?_
      refine AllReadyH.cons rfl (fun K hK => ?_) AllReadyH.nil
      rw [if_pos (by rfl)]
      refine oper_store_blk 26 (.tmp 7) (.tmp 16) rfl w3.heap.size 0 #[.int .i64 (H1 : Int), .int .i64 (W1 : Int), .int .i64 (C : Int), .slice (some ⟨wa.heap.size, 0, none⟩) 0 E] rfl rfl _ #[.int .i64 0, .int .i64 0, .int .i64 0, .slice none 0 0] #[.int .i64 (H1 : Int), .int .i64 (W1 : Int), .int .i64 (C : Int), .slice (some ⟨wa.heap.size, 0, none⟩) 0 E] BZ.out (by simp) (by kernel_rfl) (by simp [Value.oneCell']) rfl ?_
      intro wc BX gc
      have hne : wa.heap.size ≠ w3.heap.size := by have := zwa; omega
      replace OW := Lib.hid (OW.out.flat gc (.inr (by first | (simp [Value.ownBlock]; done) | (simp [Value.ownBlock]; exact hne))) (fun _ h => h))
      refine hK.out _ _ ⟨hS.1.away gc (by have := l23; have := zg; simp only [World.size_drew] at *; omega), hS.2.grown gc hS.2.size (fun k h => by have := Option.some.inj h; have := zg; simp only [World.size_drew] at *; omega)⟩ (fun hS => ?_)
      clear hK K
      try simp only [Act.put, List.getElem_toArray, List.getElem_cons_succ, List.getElem_cons_zero, List.setIfInBounds_toArray, List.set_cons_zero, List.set_cons_succ]
      refine wpAnyH_done (by kernel_rfl) ?_ _
      have FZ := hS.2
      go_wp2_with fail
      go_meet
      case rel => exact ⟨_, _, rfl, BX, OW.out, hne, zg, FZ⟩
  case rest =>
    obtain ⟨g, q, rfl, bg, own, hqg, zg, b4⟩ := hcut
    obtain ⟨w4, rfl⟩ : ∃ x, x = wc := ⟨_, rfl⟩
    have BG := Lib.hid bg
    have OW := Lib.hid own
    replace FR := Lib.hid (FR.out.fut b4)
    replace BT := Lib.hid (BT.out.fut b4)
    replace BS := Lib.hid (BS.out.fut b4)
    replace BR := Lib.hid (BR.out.fut b4)
    clear b4
    have l03 : w.heap.size ≤ w3.heap.size := by omega
    have s0 := BS.out.cell 0
    have s1 := BS.out.cell 1
    clear bg own EL
    go_wp2_with fail
    clear s0 s1
    go_loopw [22] (fun i wr => ∃ (k : Nat) (u : Value), k ≤ M ∧ i = .int .i64 k ∧ Blk wr g 26 #[.int .i64 (H1 : Int), .int .i64 (W1 : Int), .int .i64 (C : Int), u] ∧ Own (tInt .i8) wr (fun _ => False) w3.heap.size 37 u (k * C) (pick l C (fun i => fr i * W0 + fc i) k) ∧ u.ownBlock ≠ some g ∧ Below w3.heap.size w4 wr) (fun i _ => M - (intOf i).toNat)
    case atStart => exact ⟨0, _, Nat.zero_le _, rfl, BG.out, by rw [Nat.zero_mul]; exact OW.out, by simpa [Value.ownBlock] using hqg, Below.refl _ _⟩
    case round =>
      clear OW BG hqg
      obtain ⟨k, u, hk, rfl, bg, own, hne, hb⟩ := hrel
      have BG := Lib.hid bg
      have OW := Lib.hid own
      have NE := Lib.hid hne
      have HB := Lib.hid hb
      have FW := Lib.hid (FR.out.out.trans (hb.mono l03))
      clear bg own hne hb
      by_cases hlt : k < M
      · have p1 : (k : Int) < (M : Int) := by omega
        obtain ⟨hr1, hc1, fA, fB⟩ := HP.out k hlt
        have hv := HV.out k hlt
        obtain ⟨r, hr⟩ : ∃ x, fr k = x := ⟨_, rfl⟩
        obtain ⟨c, hc⟩ : ∃ x, fc k = x := ⟨_, rfl⟩
        obtain ⟨a, ha⟩ : ∃ x, fa k = x := ⟨_, rfl⟩
        obtain ⟨b, hbb⟩ : ∃ x, fb k = x := ⟨_, rfl⟩
        have PN := Lib.hid (show pick l C (fun i => fr i * W0 + fc i) (k + 1) = pick l C (fun i => fr i * W0 + fc i) k ++ pix l C (r * W0 + c) by rw [← hr, ← hc]; rfl)
        rw [hr] at hr1 fB
        rw [hc] at hc1 fA
        rw [ha] at fA hv
        rw [hbb] at fB hv
        have hdm : (k : Int) / (W1 : Int) = ((k / W1 : Nat) : Int) := by simp
        have hmm : (k : Int) % (W1 : Int) = ((k % W1 : Nat) : Int) := by simp
        have hM3 : H1 * W1 = M := by have := hMi; exact_mod_cast this
        have hd1 : k / W1 < H1 := Nat.div_lt_of_lt_mul (by rw [Nat.mul_comm, hM3]; exact hlt)
        have hm1 : k % W1 < W1 := Nat.mod_lt _ (by omega)
        obtain ⟨kd, hkd⟩ : ∃ x, k / W1 = x := ⟨_, rfl⟩
        obtain ⟨km, hkm⟩ : ∃ x, k % W1 = x := ⟨_, rfl⟩
        rw [hkd] at hdm hd1
        rw [hkm] at hmm hm1
        rw [hdm, hmm] at hv
        have E1 := Lib.hid (fun x : Ext wr => calls_ext x (middle_any (H1 : Int) (W1 : Int) (C : Int) (kd : Int) (km : Int) x.1 (by omega) (by omega) (by omega) (by omega)))
        obtain ⟨ma, hma⟩ : ∃ x, fl (2 * (km : Int) - ((W1 : Int) - 1)) = x := ⟨_, rfl⟩
        obtain ⟨mb, hmb⟩ : ∃ x, fl ((H1 : Int) - 1 - 2 * (kd : Int)) = x := ⟨_, rfl⟩
        rw [hma, hmb] at E1 hv
        have E2 := Lib.hid (fun x : Ext wr => calls_ext x ((hv x.1 (below_later x.2 FW.out)).mono fun e w' hh => ⟨hh.1, by rw [hh.2]; exact Below.refl _ _⟩))
        have E3 := Lib.hid (fun x : Ext wr => calls_ext x (place_any (H0 : Int) (W0 : Int) (C : Int) r c a b x.1 (by omega) (by omega) (by omega) (by omega) fA fB))
        have BTr := Lib.hid (BT.out.below HB.out (by omega))
        have BSr := Lib.hid (BS.out.below HB.out (by omega))
        have cT : ∀ (x : Ext wr) (i : Nat), x.1.cell? ⟨w.heap.size, i, none⟩ = (#[.int .i64 (H0 : Int), .int .i64 (W0 : Int), .int .i64 (C : Int), .slice (some ⟨bl, off, none⟩) E cap] : Array Value)[i]? := fun x i => (BTr.out.ext x).cell i
        have cS : ∀ (x : Ext wr) (i : Nat), x.1.cell? ⟨w1.heap.size, i, none⟩ = (#[.int .i64 (H1 : Int), .int .i64 (W1 : Int), .int .i64 (C : Int)] : Array Value)[i]? := fun x i => (BSr.out.ext x).cell i
        have d0 : (0 : Int) < (W1 : Int) := by omega
        clear hv fA fB hr hc ha hbb hM3 hkd hkm hma hmb
        go_wp2_with fail
        refine wp_region_ext wr (by kernel_rfl) (by kernel_rfl) (Below.refl _ _) ?_
        iterate 12 (go_big_quiet_step (fail))
        go_big_quiet_step (exact E1.out _)
        go_big_quiet_step (exact E2.out _)
        go_big_quiet_step (exact E3.out _)
        repeat (go_big_quiet_step (fail))
        refine wpQuiet_nil ?_
        rintro wb ⟨⟨_, hba⟩, rfl⟩
        have zr : w3.heap.size ≤ wr.heap.size := by have := BG.out.lt; omega
        have HBb := Lib.hid (below_call HB.out hba zr)
        have BTb := Lib.hid (BTr.out.fut hba)
        have BSb := Lib.hid (BSr.out.fut hba)
        have BGb := Lib.hid (BG.out.fut hba)
        have OWb := Lib.hid (OW.out.below hba (Nat.le_refl _) (fun _ h => h.elim))
        have FWb := Lib.hid (below_later hba FW.out)
        have zb : w3.heap.size ≤ wb.heap.size := Nat.le_trans zr hba.size
        obtain ⟨rx, hrx⟩ : ∃ x, r * W0 = x := ⟨_, rfl⟩
        have hri : (r : Int) * (W0 : Int) = (rx : Int) := by rw [← hrx, Int.natCast_mul]
        have hlM : rx + c < M := by rw [← hrx, K6.out]; exact at_lt hr1 hc1
        obtain ⟨ax, hax⟩ : ∃ x, (rx + c) * C = x := ⟨_, rfl⟩
        have hai : ((rx : Int) + (c : Int)) * (C : Int) = (ax : Int) := by rw [← hax, Int.natCast_mul, Int.natCast_add]
        have haE : ax + C ≤ E := by
          rw [← HE.out, ← hax, ← Nat.succ_mul]
          exact Nat.mul_le_mul_right _ hlM
        have SUB := Lib.hid ((HS0.out.below FWb.out (fun _ h => h)).sub ax C ax (cap - ax) (by simp [tInt]) haE (by have := HS0.out.cap_le; omega) (by omega))
        have PX := Lib.hid (show (l.drop ax).take C = pix l C (r * W0 + c) by unfold pix; rw [hrx, hax])
        rw [PX.out] at SUB
        have hkC : k * C + C ≤ E := by rw [← HE.out, ← Nat.succ_mul]; exact Nat.mul_le_mul_right _ hlt
        have b1 := BTb.out.cell 1
        have b2 := BSb.out.cell 2
        clear hrx hax hr1 hc1 hba cT cS E1 E2 E3 BTr BSr BG OW FW HB hdm hmm hd1 hm1 PX
        go_wp2_with fail
        clear b1 b2
        have ew : IntKind.i64.wrap ((ax : Int) + (C : Int)) = (ax : Int) + (C : Int) := IntWalk.i64_in _ (by omega)
        have et : ((ax : Int) + (C : Int)).toNat = ax + C := by omega
        have hcp := HS0.out.cap_le
        have ne0 := Lib.hid (show some g ≠ u.ownBlock from fun e => NE.out e.symm)
        have ne1 := Lib.hid (show some w.heap.size ≠ u.ownBlock from fun e => by have := (OWb.out.lt _ e.symm).1; omega)
        have ne2 := Lib.hid (show some w1.heap.size ≠ u.ownBlock from fun e => by have := (OWb.out.lt _ e.symm).1; omega)
        have OD := Lib.hid (OWb.out.heap (w' := wb.drew) rfl)
        have SD := Lib.hid (SUB.out.keep (w' := wb.drew) (fun _ _ => rfl))
        refine wp_region_T (fun w' => w'.cell? ⟨g, 3, none⟩ = some u ∧ w'.cell? ⟨w.heap.size, 3, none⟩ = some (.slice (some ⟨bl, off, none⟩) E cap) ∧ w'.cell? ⟨w1.heap.size, 2, none⟩ = some (.int .i64 (C : Int)) ∧ Below w3.heap.size w4 w') 11 (by kernel_rfl) ?_ (fun hS => ?_)
        · exact ⟨BGb.out.drew.cell 3, BTb.out.drew.cell 3, BSb.out.drew.cell 2, HBb.out.drew⟩
        refine wpAnyT_take (i := 0) (v := ?_) rfl (by as_aux_lemma => kernel_rfl) (by as_aux_lemma => kernel_rfl) (by as_aux_lemma => kernel_rfl) (by as_aux_lemma => kernel_rfl) rfl (fun _ _ _ h => h) (Or.inl ⟨by rfl, ?_⟩) hS ?_
        rotate_left
        · intro w hSw; (try dsimp only at hSw); go_simp; try with_reducible rfl
        try simp only [Act.put, List.getElem_toArray, List.getElem_cons_succ, List.getElem_cons_zero, List.setIfInBounds_toArray, List.set_cons_zero, List.set_cons_succ]
        refine wpAnyT_take (i := 1) (v := ?_) rfl (by as_aux_lemma => kernel_rfl) (by as_aux_lemma => kernel_rfl) (by as_aux_lemma => kernel_rfl) (by as_aux_lemma => kernel_rfl) rfl (fun _ _ _ h => h) (Or.inl ⟨by rfl, ?_⟩) hS ?_
        rotate_left
        · intro w hSw; (try dsimp only at hSw); go_simp; try with_reducible rfl
        try simp only [Act.put, List.getElem_toArray, List.getElem_cons_succ, List.getElem_cons_zero, List.setIfInBounds_toArray, List.set_cons_zero, List.set_cons_succ]
        refine wpAnyT_take (i := 2) (v := ?_) rfl (by as_aux_lemma => kernel_rfl) (by as_aux_lemma => kernel_rfl) (by as_aux_lemma => kernel_rfl) (by as_aux_lemma => kernel_rfl) rfl (fun _ _ _ h => h) (Or.inl ⟨by rfl, ?_⟩) hS ?_
        rotate_left
        · intro w hSw; (try dsimp only at hSw); go_simp; try with_reducible rfl
        try simp only [Act.put, List.getElem_toArray, List.getElem_cons_succ, List.getElem_cons_zero, List.setIfInBounds_toArray, List.set_cons_zero, List.set_cons_succ]
        refine wpAnyT_take (i := 3) (v := ?_) rfl (by as_aux_lemma => kernel_rfl) (by as_aux_lemma => kernel_rfl) (by as_aux_lemma => kernel_rfl) (by as_aux_lemma => kernel_rfl) rfl (fun _ _ _ h => h) (Or.inl ⟨by rfl, ?_⟩) hS ?_
        rotate_left
        · intro w hSw; (try dsimp only at hSw); go_simp; try with_reducible rfl
        try simp only [Act.put, List.getElem_toArray, List.getElem_cons_succ, List.getElem_cons_zero, List.setIfInBounds_toArray, List.set_cons_zero, List.set_cons_succ]
        refine wpAnyT_take (i := 4) (v := ?_) rfl (by as_aux_lemma => kernel_rfl) (by as_aux_lemma => kernel_rfl) (by as_aux_lemma => kernel_rfl) (by as_aux_lemma => kernel_rfl) rfl (fun _ _ _ h => h) (Or.inl ⟨by rfl, ?_⟩) hS ?_
        rotate_left
        · intro w hSw; (try dsimp only at hSw); go_simp; try with_reducible rfl
        try simp only [Act.put, List.getElem_toArray, List.getElem_cons_succ, List.getElem_cons_zero, List.setIfInBounds_toArray, List.set_cons_zero, List.set_cons_succ]
        refine wpAnyT_take (i := 5) (v := ?_) rfl (by as_aux_lemma => kernel_rfl) (by as_aux_lemma => kernel_rfl) (by as_aux_lemma => kernel_rfl) (by as_aux_lemma => kernel_rfl) rfl (fun _ _ _ h => h) (Or.inl ⟨by rfl, ?_⟩) hS ?_
        rotate_left
        · intro w hSw; (try dsimp only at hSw); go_simp; try with_reducible rfl
        try simp only [Act.put, List.getElem_toArray, List.getElem_cons_succ, List.getElem_cons_zero, List.setIfInBounds_toArray, List.set_cons_zero, List.set_cons_succ]
        refine wpAnyT_take (i := 6) (v := ?_) rfl (by as_aux_lemma => kernel_rfl) (by as_aux_lemma => kernel_rfl) (by as_aux_lemma => kernel_rfl) (by as_aux_lemma => kernel_rfl) rfl (fun _ _ _ h => h) (Or.inl ⟨by rfl, ?_⟩) hS ?_
        rotate_left
        · intro w hSw; (try dsimp only at hSw); go_simp; try with_reducible rfl
        try simp only [Act.put, List.getElem_toArray, List.getElem_cons_succ, List.getElem_cons_zero, List.setIfInBounds_toArray, List.set_cons_zero, List.set_cons_succ]
        refine wpAnyT_take (i := 7) (v := ?_) rfl (by as_aux_lemma => kernel_rfl) (by as_aux_lemma => kernel_rfl) (by as_aux_lemma => kernel_rfl) (by as_aux_lemma => kernel_rfl) rfl (fun _ _ _ h => h) (Or.inl ⟨by rfl, ?_⟩) hS ?_
        rotate_left
        · intro w hSw; (try dsimp only at hSw); go_simp; try with_reducible rfl
        try simp only [Act.put, List.getElem_toArray, List.getElem_cons_succ, List.getElem_cons_zero, List.setIfInBounds_toArray, List.set_cons_zero, List.set_cons_succ]
        refine wpAnyT_take (i := 8) (v := ?_) rfl (by as_aux_lemma => kernel_rfl) (by as_aux_lemma => kernel_rfl) (by as_aux_lemma => kernel_rfl) (by as_aux_lemma => kernel_rfl) rfl (fun _ _ _ h => h) (Or.inl ⟨by rfl, ?_⟩) hS ?_
        rotate_left
        · intro w hSw; (try dsimp only at hSw); go_simp; try with_reducible rfl
        try simp only [Act.put, List.getElem_toArray, List.getElem_cons_succ, List.getElem_cons_zero, List.setIfInBounds_toArray, List.set_cons_zero, List.set_cons_succ]
        refine wpAnyT_take (i := 9) rfl (by as_aux_lemma => kernel_rfl) (by as_aux_lemma => kernel_rfl) (by as_aux_lemma => kernel_rfl) (by as_aux_lemma => kernel_rfl) rfl (fun _ _ _ h => h) (show YieldsIf _ _ _ _ (.slice (some ⟨bl, off + ax, none⟩) C (cap - ax)) _ from Or.inl ⟨by rfl, fun w hSw => by (try dsimp only at hSw); go_simp; rw [if_pos ⟨by omega, by omega⟩, if_neg (by omega)]⟩) hS ?_
        try simp only [Act.put, List.getElem_toArray, List.getElem_cons_succ, List.getElem_cons_zero, List.setIfInBounds_toArray, List.set_cons_zero, List.set_cons_succ]
        refine wpAnyT_one (i := 10) (by kernel_rfl) rfl rfl (fun K hK => ?_)
        (rw [if_pos (by rfl)]; refine oper_extend (base := w3.heap.size) (.tmp 54) (.tmp 62) rfl ei_i8 rfl OD.out rfl SD.out (by unfold maxLen; omega) (by omega) zb ?_; intro u' w7 own7 g7 at7; refine hK.out _ _ ⟨cell_grown g7 hS.1 ne0.out, cell_grown g7 hS.2.1 ne1.out, cell_grown g7 hS.2.2.1 ne2.out, hS.2.2.2.grown g7 zb (fun j hj => (OD.out.lt j hj).1)⟩ (fun hS => ?_))
        clear hK K
        try simp only [Act.put, List.getElem_toArray, List.getElem_cons_succ, List.getElem_cons_zero, List.setIfInBounds_toArray, List.set_cons_zero, List.set_cons_succ]
        refine wpAnyT_tail _ _ rfl rfl (by kernel_rfl) ?_
        have B7 := Lib.hid (show Blk w7 g 26 #[.int .i64 (H1 : Int), .int .i64 (W1 : Int), .int .i64 (C : Int), u] from ⟨(g7.block g BGb.out.lt ne0.out).trans BGb.out.heap⟩)
        have H7 := Lib.hid hS.2.2.2
        have O7 := Lib.hid own7
        have N7 := Lib.hid (show u'.ownBlock ≠ some g by
          rcases at7 with e | e
          · rw [e]; exact NE.out
          · rw [e]; intro h; have h1 : wb.heap.size = g := Option.some.inj h; have := BGb.out.lt; omega)
        obtain ⟨A7, c7, rfl, _⟩ := O7.out.sl (S' := fun _ => True) (by decide) (fun _ _ _ => trivial) (fun _ _ => trivial)
        have f3 := B7.out.frozen 3
        have c3 := B7.out.cell 3
        have l7 := B7.out.lt
        clear hS own7 at7 g7 OD SD
        go_wp2_with fail
        have gs : w7.grownBy (w7.setCell ⟨g, 3, none⟩ (.slice A7 (k * C + C) c7)) (some g) := ⟨rfl, rfl, rfl, by simp, fun j hj hne => Below.heap_setCell _ _ _ _ (fun e => hne (by rw [e]))⟩
        refine ⟨⟨k + 1, _, by omega, by go_num, B7.out.set_ 3 (.slice A7 (k * C + C) c7), ?_, N7.out, H7.out.setCell zg _⟩, by simp [intOf]; omega⟩
        rw [Nat.add_mul, Nat.one_mul, PN.out]
        exact O7.out.flat gs (.inr N7.out) (fun _ h => h)
      · obtain rfl : k = M := by omega
        have BRr := Lib.hid (BR.out.below HB.out (by omega))
        rw [HE.out] at OW
        obtain ⟨A9, c9, rfl, s9⟩ := OW.out.sl (S' := bin w3.heap.size wr.heap.size) (by decide) (fun b h1 h2 => ⟨h1, h2⟩) (fun _ h => h.elim)
        have S9 := Lib.hid s9
        have g2 : w2.heap.size < g := by omega
        clear OW s9 hlt hk NE
        go_wp2_with (first
          | (refine wpList_load_row rfl 26 (.tmp 7) rfl g rfl _ _ (0, 0) _ BG.out.heap Try.underlying26 rfl (by kernel_rfl) ?_)
          | (refine wpList_store_all rfl 26 (.tmp 6) (.tmp 66) rfl w2.heap.size #[.int .i64 (H1 : Int), .int .i64 (W1 : Int), .int .i64 (C : Int), .slice A9 E c9] rfl rfl _ _ BRr.out rfl (by kernel_rfl) (by simp [Value.oneCell']) ?_; intro w7 BQ gq; have BQ := Lib.hid BQ; have gq := Lib.hid gq))
        have BF := FW.out.grown gq.out FW.out.size (fun j hj => by have := Option.some.inj hj; omega)
        refine ret_cell rfl BQ.out rfl Try.underlying26 (by kernel_rfl) rfl ?_
        have zq := gq.out.size
        exact ⟨A9, c9, rfl, (S9.out.keep fun b hb => gq.out.block b hb.2 (by have := hb.1; simp; omega)).more fun b hb => ⟨by have := hb.1; omega, by have := hb.2; omega⟩, BF⟩

end Go.Proofs.Ytbdanfbfohikdaa
