/-
  The document's Get, Once, Over, By (layers 5, 23): tensors turned by quarters, turned over.
  Conditions: a right tensor.
-/
import Derived.Test.YtbdanfbfohikdaaChecked
import Derived.Test.YtbdanfbfohikdaaTurnC
namespace Go.Proofs.Ytbdanfbfohikdaa
set_option linter.unusedVariables false
set_option linter.unusedSimpArgs false
open Go.RowKit Go.ChangeShapes Go.WideShapes
set_option maxRecDepth 100000

theorem get_any (H W C E cap bl off : Nat) (l : List Int) (x y z rx ax : Int) (i : Nat) (w : World) (hs : Sl (tInt .i8) w (blo w.heap.size) (some ⟨bl, off, none⟩) E cap l) (h1 : x * (W : Int) = rx) (h2 : (rx + y) * (C : Int) = ax) (h3 : ax + z = (i : Int)) (hi : i < E) (hE : E ≤ 1024)
    (b1 : 0 ≤ rx ∧ rx ≤ 1024) (b2 : 0 ≤ ax ∧ ax ≤ 1024) (b3 : 0 ≤ z ∧ z ≤ 1024) (b4 : 0 ≤ y ∧ y ≤ 1024) :
    Calls Try.prog 22 #[.agg #[.int .i64 (H : Int), .int .i64 (W : Int), .int .i64 (C : Int), .slice (some ⟨bl, off, none⟩) E cap], .int .i64 x, .int .i64 y, .int .i64 z] w fun e w' => e = .returned (.int .i8 (l.getD i 0)) ∧ Below w.heap.size w w' := by
  have FR := Lib.hid (Far.refl w)
  obtain ⟨w1, hw_w1⟩ : ∃ nw_, w.alloc (.cells #[.int .i64 (H : Int), .int .i64 (W : Int), .int .i64 (C : Int), .slice (some ⟨bl, off, none⟩) E cap] 26) = nw_ := ⟨_, rfl⟩
  have k_w1 : Below w.heap.size w w1 := by rw [← hw_w1]; exact (Below.refl _ _).alloc (Nat.le_refl _) _
  replace FR := Lib.hid (FR.out.fut k_w1)
  have BT := Lib.hid (show Blk w1 w.heap.size 26 #[.int .i64 (H : Int), .int .i64 (W : Int), .int .i64 (C : Int), .slice (some ⟨bl, off, none⟩) E cap] by rw [← hw_w1]; exact Blk.now _ _ _ _ rfl)
  clear k_w1
  obtain ⟨b, o, hA, _, _, ci, _⟩ := (hs.later FR.out.out (Nat.le_refl _)).int_at i hi
  cases hA
  have t1 := BT.out.cell 1
  have t2 := BT.out.cell 2
  have t3 := BT.out.cell 3
  obtain ⟨c1, c2⟩ := b1
  obtain ⟨c3, c4⟩ := b2
  obtain ⟨c5, c6⟩ := b3
  obtain ⟨c7, c8⟩ := b4
  have p1 : (i : Int) < (E : Int) := by omega
  obtain ⟨v, hv⟩ : ∃ v, l.getD i 0 = v := ⟨_, rfl⟩
  rw [hv] at ci ⊢
  clear hs hv
  go_enter Try.func22, Try.ntmps22
  go_wp2_with fail
  go_ret
  exact ⟨rfl, FR.out.out⟩

/-- A tensor is handed back, its numbers in new memory. -/
def RetP (p : Pic) (w : World) (e : Ending) (w' : World) : Prop :=
  ∃ A n c, e = .returned (.agg #[.int .i64 (p.H : Int), .int .i64 (p.W : Int), .int .i64 (p.C : Int), .slice A n c]) ∧ Sl (tInt .i8) w' (bin w.heap.size w'.heap.size) A n c p.l ∧ Below w.heap.size w w'
theorem pix_at {l : List Int} {C p : Nat} (k : Nat) (hk : k < C) (h : p * C + C ≤ l.length) : (pix l C p)[k]? = some (l.getD (p * C + k) 0) := by
  unfold pix
  rw [List.getElem?_take, if_pos hk, List.getElem?_drop, List.getD_eq_getElem?_getD, List.getElem?_eq_getElem (by omega)]
  rfl
theorem qOnce_at {H W a b : Nat} (hb : b < H) : qOnce H W (a * H + b) = b * W + (W - 1 - a) := by unfold qOnce; rw [at_mod hb, at_div hb]
theorem qOver_at {H W a b : Nat} (hb : b < W) : qOver H W (a * W + b) = a * W + (W - 1 - b) := by unfold qOver; rw [at_mod hb, at_div hb]
theorem grown_set (w : World) (g i : Nat) (v : Value) : w.grownBy (w.setCell ⟨g, i, none⟩ v) (some g) := ⟨rfl, rfl, rfl, by simp, fun j hj hne => Below.heap_setCell _ _ _ _ (fun e => hne (by rw [e]))⟩

set_option maxHeartbeats 8000000 in
theorem ronce_any (p : Pic) (hp : p.Right) (A : Option Addr) (cap : Nat) (w : World) (hs : Sl (tInt .i8) w (blo w.heap.size) A p.l.length cap p.l) :
    Calls Try.prog 21 #[.agg #[.int .i64 (p.H : Int), .int .i64 (p.W : Int), .int .i64 (p.C : Int), .slice A p.l.length cap]] w (RetP (once p) w) := by
  obtain ⟨bl, off, rfl, _, _, _, _⟩ := hs.int_at 0 hp.pos
  have pok := hp.ok
  have pf := hp.few
  have ph := hp.h
  have pw := hp.w
  have pc := hp.c
  obtain ⟨H, W, C, l⟩ := p
  unfold Pic.ok at pok
  simp only at *
  obtain ⟨E, hE⟩ : ∃ E, l.length = E := ⟨_, rfl⟩
  rw [hE] at pok pf hs ⊢
  obtain ⟨a1, a2⟩ := ph
  obtain ⟨a3, a4⟩ := pw
  obtain ⟨a5, a6⟩ := pc
  have FR := Lib.hid (Far.refl w)
  obtain ⟨w1, hw_w1⟩ : ∃ nw_, w.alloc (.cells #[.int .i64 (H : Int), .int .i64 (W : Int), .int .i64 (C : Int), .slice (some ⟨bl, off, none⟩) E cap] 26) = nw_ := ⟨_, rfl⟩
  have k_w1 : Below w.heap.size w w1 := by rw [← hw_w1]; exact (Below.refl _ _).alloc (Nat.le_refl _) _
  replace FR := Lib.hid (FR.out.fut k_w1)
  have BT := Lib.hid (show Blk w1 w.heap.size 26 #[.int .i64 (H : Int), .int .i64 (W : Int), .int .i64 (C : Int), .slice (some ⟨bl, off, none⟩) E cap] by rw [← hw_w1]; exact Blk.now _ _ _ _ rfl)
  clear k_w1
  obtain ⟨w2, hw_w2⟩ : ∃ nw_, w1.alloc (.cells #[.int .i64 0, .int .i64 0, .int .i64 0, .slice none 0 0] 26) = nw_ := ⟨_, rfl⟩
  have k_w2 : Below w1.heap.size w1 w2 := by rw [← hw_w2]; exact (Below.refl _ _).alloc (Nat.le_refl _) _
  replace FR := Lib.hid (FR.out.fut k_w2)
  replace BT := Lib.hid (BT.out.fut k_w2)
  have BR := Lib.hid (show Blk w2 w1.heap.size 26 #[.int .i64 0, .int .i64 0, .int .i64 0, .slice none 0 0] by rw [← hw_w2]; exact Blk.now _ _ _ _ rfl)
  clear k_w2
  have t0 := BT.out.cell 0
  have t1 := BT.out.cell 1
  have t2 := BT.out.cell 2
  have OL := Lib.hid (Old.mk (w0 := w) (hs.below FR.out.out (fun _ h => h)) FR.out.out.size)
  have l01 : w.heap.size < w1.heap.size := by rw [← hw_w1]; simp
  have l12 : w1.heap.size < w2.heap.size := by rw [← hw_w2]; simp
  have PK := Lib.hid (show H * W * C = E by rw [← pok])
  have HL := Lib.hid hE
  clear hs hp pok hE
  go_enter Try.func21, Try.ntmps21
  go_wp2_with (first
    | (refine wpList_load_blk rfl 23 (.tmp 7) rfl w.heap.size 0 rfl _ _ #[.int .i64 (H : Int), .int .i64 (W : Int), .int .i64 (C : Int)] _ BT.out Try.underlying23 rfl (by kernel_rfl) rfl ?_)
    | (refine wpList_store_all rfl 26 (.tmp 3) (.tmp 17) rfl w2.heap.size #[.int .i64 (W : Int), .int .i64 (H : Int), .int .i64 (C : Int), .slice none 0 0] rfl rfl _ _ (Blk.now _ _ _ _ rfl) rfl (by kernel_rfl) (by simp [Value.oneCell']) ?_; intro w3 bg gg; have k3 : Below w2.heap.size w2 w3 := ((Below.refl _ _).alloc (Nat.le_refl _) _).grown gg (by simp) (fun k h => by have := Option.some.inj h; omega)))
  have BG := Lib.hid bg
  have K3 := Lib.hid k3
  clear hw_w1 hw_w2 t0 t1 t2 bg gg
  clear k3
  go_loopw [4] (fun i wr => ∃ (a : Nat) (u : Value), a ≤ W ∧ i = .int .i64 a ∧ Blk wr w2.heap.size 26 #[.int .i64 (W : Int), .int .i64 (H : Int), .int .i64 (C : Int), u] ∧ Own (tInt .i8) wr (fun _ => False) (w2.heap.size + 1) 37 u (a * H * C) (pick l C (qOnce H W) (a * H)) ∧ u.ownBlock ≠ some w2.heap.size ∧ Below w2.heap.size w2 wr) (fun i _ => W - (intOf i).toNat)
  case atStart => exact ⟨0, _, Nat.zero_le _, rfl, BG.out, by simpa [pick] using Own.nil _ _ _ _ _, by simp [Value.ownBlock], K3.out⟩
  case round =>
    obtain ⟨a, u, ha, rfl, bg, own, hne, hb⟩ := hrel
    have B1 := Lib.hid bg
    have O1 := Lib.hid own
    have N1 := Lib.hid hne
    have H1 := Lib.hid hb
    clear bg own hne hb BG
    by_cases hla : a < W
    · have p1 : (a : Int) < (W : Int) := by omega
      have g0 := B1.out.cell 0
      go_wp2_with fail
      clear g0
      go_loopw [5] (fun i wr => ∃ (b : Nat) (u : Value), b ≤ H ∧ i = .int .i64 b ∧ Blk wr w2.heap.size 26 #[.int .i64 (W : Int), .int .i64 (H : Int), .int .i64 (C : Int), u] ∧ Own (tInt .i8) wr (fun _ => False) (w2.heap.size + 1) 37 u ((a * H + b) * C) (pick l C (qOnce H W) (a * H + b)) ∧ u.ownBlock ≠ some w2.heap.size ∧ Below w2.heap.size w2 wr) (fun i _ => H - (intOf i).toNat)
      case atStart => exact ⟨0, u, Nat.zero_le _, rfl, B1.out, O1.out, N1.out, H1.out⟩
      case round =>
        obtain ⟨b, u2, hbm, rfl, bg, own, hne, hb⟩ := hrel
        have B2 := Lib.hid bg
        have O2 := Lib.hid own
        have N2 := Lib.hid hne
        have H2 := Lib.hid hb
        clear bg own hne hb B1 O1 N1 H1
        by_cases hlb : b < H
        · have p2 : (b : Int) < (H : Int) := by omega
          have g1 := B2.out.cell 1
          have hpp := at_lt hla hlb
          obtain ⟨pp, hpe⟩ : ∃ x, a * H + b = x := ⟨_, rfl⟩
          rw [hpe] at O2 hpp
          have PE := Lib.hid hpe
          have QP := Lib.hid (show (qOnce H W) pp = b * W + (W - 1 - a) by rw [← hpe]; exact qOnce_at hlb)
          have XL := at_lt (W := W) (show b < H by omega) (show W - 1 - a < W by omega)
          obtain ⟨rx, hrx⟩ : ∃ r, b * W = r := ⟨_, rfl⟩
          rw [hrx] at QP XL
          have hri : (b : Int) * (W : Int) = (rx : Int) := by rw [← hrx, Int.natCast_mul]
          obtain ⟨ax, hax⟩ : ∃ x, (rx + (W - 1 - a)) * C = x := ⟨_, rfl⟩
          have hai : ((rx : Int) + ((W : Int) - 1 - (a : Int))) * (C : Int) = (ax : Int) := by
            rw [← hax, Int.natCast_mul, Int.natCast_add, show ((W - 1 - a : Nat) : Int) = (W : Int) - 1 - (a : Int) by omega]
          have haE : ax + C ≤ E := by
            rw [← PK.out, ← hax, ← Nat.succ_mul]
            exact Nat.mul_le_mul_right _ XL
          have hpE : pp * C + C ≤ E := by
            rw [← PK.out, ← Nat.succ_mul]
            exact Nat.mul_le_mul_right _ (by rw [Nat.mul_comm H W]; exact hpp)
          have hrxE : rx ≤ 1024 := by have : rx * 1 ≤ rx * C := Nat.mul_le_mul_left _ a5; have h2 : rx * C ≤ (rx + (W - 1 - a)) * C := Nat.mul_le_mul_right _ (by omega); omega
          have PX := Lib.hid (fun k hk => pix_at (l := l) (C := C) (p := (qOnce H W) pp) k hk (by rw [QP.out, HL.out, hax]; exact haE))
          rw [QP.out, hax] at PX
          clear hpe hrx hax XL
          go_wp2_with fail
          clear g1
          go_loopw [6] (fun i wr => ∃ (c : Nat) (u : Value), c ≤ C ∧ i = .int .i64 c ∧ Blk wr w2.heap.size 26 #[.int .i64 (W : Int), .int .i64 (H : Int), .int .i64 (C : Int), u] ∧ Own (tInt .i8) wr (fun _ => False) (w2.heap.size + 1) 37 u (pp * C + c) (pick l C (qOnce H W) pp ++ (pix l C ((qOnce H W) pp)).take c) ∧ u.ownBlock ≠ some w2.heap.size ∧ Below w2.heap.size w2 wr) (fun i _ => C - (intOf i).toNat)
          case atStart => exact ⟨0, u2, Nat.zero_le _, rfl, B2.out, by simpa using O2.out, N2.out, H2.out⟩
          case round =>
            obtain ⟨c, u3, hcm, rfl, bg, own, hne, hb⟩ := hrel
            have B3 := Lib.hid bg
            have O3 := Lib.hid own
            have N3 := Lib.hid hne
            have H3 := Lib.hid hb
            clear bg own hne hb B2 O2 N2 H2
            by_cases hlc : c < C
            · have p3 : (c : Int) < (C : Int) := by omega
              have g2 := B3.out.cell 2
              have px := take_snoc _ c _ (PX.out c hlc)
              obtain ⟨v, hv⟩ : ∃ v, l.getD (ax + c) 0 = v := ⟨_, rfl⟩
              rw [hv] at px
              have PY := Lib.hid px
              have zr : w2.heap.size + 1 ≤ wr.heap.size := B3.out.lt
              have BTr := Lib.hid (BT.out.below H3.out (by omega))
              have OLr := Lib.hid ((OL.out.out.below H3.out (fun b hb => by have : b < w.heap.size := hb; omega)).more (blo_more (Nat.le_trans FR.out.out.size H3.out.size)))
              have VK := Lib.hid (OLr.out.allK (ax + c))
              rw [hv] at VK
              have GA := Lib.hid (fun w' (hb : Below wr.heap.size wr w') => get_any H W C E cap bl off l (b : Int) ((W : Int) - 1 - (a : Int)) (c : Int) (rx : Int) (ax : Int) (ax + c) w' (OLr.out.later hb (Nat.le_refl _)) hri hai (by simp) (by omega) pf (by omega) (by omega) (by omega) (by omega))
              rw [hv] at GA
              have OD := Lib.hid (O3.out.heap (w' := wr.drew) rfl)
              clear px hv
              go_wp2_with fail
              clear g2
              have ew1 : IntKind.i64.wrap ((W : Int) - 1) = (W : Int) - 1 := IntWalk.i64_in _ (by omega)
              have ew2 : IntKind.i64.wrap ((W : Int) - 1 - (a : Int)) = (W : Int) - 1 - (a : Int) := IntWalk.i64_in _ (by omega)
              refine wp_region_T (fun w' => w'.cell? ⟨w2.heap.size, 3, none⟩ = some u3 ∧ w'.cell? ⟨w.heap.size, 1, none⟩ = some (.int .i64 (W : Int)) ∧ Blk w' w.heap.size 26 #[.int .i64 (H : Int), .int .i64 (W : Int), .int .i64 (C : Int), .slice (some ⟨bl, off, none⟩) E cap] ∧ Below w2.heap.size w2 w') 14 (by kernel_rfl) ?_ (fun hS => ?_)
              · exact ⟨B3.out.drew.cell 3, BTr.out.drew.cell 1, BTr.out.drew, H3.out.drew⟩
              refine wpAnyT_take (i := 0) (v := ?_) rfl (by as_aux_lemma => kernel_rfl) (by as_aux_lemma => kernel_rfl) (by as_aux_lemma => kernel_rfl) (by as_aux_lemma => kernel_rfl) rfl (fun _ _ _ h => h) (Or.inl ⟨by rfl, ?_⟩) hS ?_
              rotate_left
              · intro w hSw; (try dsimp only at hSw); go_simp; try with_reducible rfl
              try simp only [Act.put, List.getElem_toArray, List.getElem_cons_succ, List.getElem_cons_zero, List.setIfInBounds_toArray, List.set_cons_zero, List.set_cons_succ]
              refine wpAnyT_take (i := 1) (v := ?_) rfl (by as_aux_lemma => kernel_rfl) (by as_aux_lemma => kernel_rfl) (by as_aux_lemma => kernel_rfl) (by as_aux_lemma => kernel_rfl) rfl (fun _ _ _ h => h) (Or.inl ⟨by rfl, ?_⟩) hS ?_
              rotate_left
              · intro w hSw; (try dsimp only at hSw); go_simp; try with_reducible rfl
              try simp only [Act.put, List.getElem_toArray, List.getElem_cons_succ, List.getElem_cons_zero, List.setIfInBounds_toArray, List.set_cons_zero, List.set_cons_succ]
              refine wpAnyT_take (i := 2) rfl (by as_aux_lemma => kernel_rfl) (by as_aux_lemma => kernel_rfl) (by as_aux_lemma => kernel_rfl) (by as_aux_lemma => kernel_rfl) rfl (fun _ _ _ h => h) (yieldsIf_load_blk (by rfl) 26 (.tmp 1) rfl w.heap.size 0 rfl _ _ #[.int .i64 (H : Int), .int .i64 (W : Int), .int .i64 (C : Int), .slice (some ⟨bl, off, none⟩) E cap] _ (fun w hs => hs.2.2.1) Try.underlying26 rfl (by kernel_rfl) rfl) hS ?_
              try simp only [Act.put, List.getElem_toArray, List.getElem_cons_succ, List.getElem_cons_zero, List.setIfInBounds_toArray, List.set_cons_zero, List.set_cons_succ]
              refine wpAnyT_take (i := 3) (v := ?_) rfl (by as_aux_lemma => kernel_rfl) (by as_aux_lemma => kernel_rfl) (by as_aux_lemma => kernel_rfl) (by as_aux_lemma => kernel_rfl) rfl (fun _ _ _ h => h) (Or.inl ⟨by rfl, ?_⟩) hS ?_
              rotate_left
              · intro w hSw; (try dsimp only at hSw); go_simp; try with_reducible rfl
              try simp only [Act.put, List.getElem_toArray, List.getElem_cons_succ, List.getElem_cons_zero, List.setIfInBounds_toArray, List.set_cons_zero, List.set_cons_succ]
              refine wpAnyT_take (i := 4) (v := ?_) rfl (by as_aux_lemma => kernel_rfl) (by as_aux_lemma => kernel_rfl) (by as_aux_lemma => kernel_rfl) (by as_aux_lemma => kernel_rfl) rfl (fun _ _ _ h => h) (Or.inl ⟨by rfl, ?_⟩) hS ?_
              rotate_left
              · intro w hSw; (try dsimp only at hSw); go_simp; try with_reducible rfl
              try simp only [Act.put, List.getElem_toArray, List.getElem_cons_succ, List.getElem_cons_zero, List.setIfInBounds_toArray, List.set_cons_zero, List.set_cons_succ]
              refine wpAnyT_take (i := 5) (v := ?_) rfl (by as_aux_lemma => kernel_rfl) (by as_aux_lemma => kernel_rfl) (by as_aux_lemma => kernel_rfl) (by as_aux_lemma => kernel_rfl) rfl (fun _ _ _ h => h) (Or.inl ⟨by rfl, ?_⟩) hS ?_
              rotate_left
              · intro w hSw; (try dsimp only at hSw); go_simp; try with_reducible rfl
              try simp only [Act.put, List.getElem_toArray, List.getElem_cons_succ, List.getElem_cons_zero, List.setIfInBounds_toArray, List.set_cons_zero, List.set_cons_succ]
              refine wpAnyT_take (i := 6) (v := ?_) rfl (by as_aux_lemma => kernel_rfl) (by as_aux_lemma => kernel_rfl) (by as_aux_lemma => kernel_rfl) (by as_aux_lemma => kernel_rfl) rfl (fun _ _ _ h => h) (Or.inl ⟨by rfl, ?_⟩) hS ?_
              rotate_left
              · intro w hSw; (try dsimp only at hSw); go_simp; try with_reducible rfl
              try simp only [Act.put, List.getElem_toArray, List.getElem_cons_succ, List.getElem_cons_zero, List.setIfInBounds_toArray, List.set_cons_zero, List.set_cons_succ]
              refine wpAnyT_take (i := 7) (v := ?_) rfl (by as_aux_lemma => kernel_rfl) (by as_aux_lemma => kernel_rfl) (by as_aux_lemma => kernel_rfl) (by as_aux_lemma => kernel_rfl) rfl (fun _ _ _ h => h) (Or.inl ⟨by rfl, ?_⟩) hS ?_
              rotate_left
              · intro w hSw; (try dsimp only at hSw); go_simp; try with_reducible rfl
              try simp only [Act.put, List.getElem_toArray, List.getElem_cons_succ, List.getElem_cons_zero, List.setIfInBounds_toArray, List.set_cons_zero, List.set_cons_succ]
              refine wpAnyT_take (i := 8) (v := ?_) rfl (by as_aux_lemma => kernel_rfl) (by as_aux_lemma => kernel_rfl) (by as_aux_lemma => kernel_rfl) (by as_aux_lemma => kernel_rfl) rfl (fun _ _ _ h => h) (Or.inl ⟨by rfl, ?_⟩) hS ?_
              rotate_left
              · intro w hSw; (try dsimp only at hSw); go_simp; try with_reducible rfl
              try simp only [Act.put, List.getElem_toArray, List.getElem_cons_succ, List.getElem_cons_zero, List.setIfInBounds_toArray, List.set_cons_zero, List.set_cons_succ]
              refine wpAnyT_take (i := 9) (v := ?_) rfl (by as_aux_lemma => kernel_rfl) (by as_aux_lemma => kernel_rfl) (by as_aux_lemma => kernel_rfl) (by as_aux_lemma => kernel_rfl) rfl (fun _ _ _ h => h) (Or.inl ⟨by rfl, ?_⟩) hS ?_
              rotate_left
              · intro w hSw; (try dsimp only at hSw); go_simp; try with_reducible rfl
              try simp only [Act.put, List.getElem_toArray, List.getElem_cons_succ, List.getElem_cons_zero, List.setIfInBounds_toArray, List.set_cons_zero, List.set_cons_succ]
              refine wpAnyT_take (i := 10) (v := ?_) rfl (by as_aux_lemma => kernel_rfl) (by as_aux_lemma => kernel_rfl) (by as_aux_lemma => kernel_rfl) (by as_aux_lemma => kernel_rfl) rfl (fun _ _ _ h => h) (Or.inl ⟨by rfl, ?_⟩) hS ?_
              rotate_left
              · intro w hSw; (try dsimp only at hSw); go_simp; try with_reducible rfl
              try simp only [Act.put, List.getElem_toArray, List.getElem_cons_succ, List.getElem_cons_zero, List.setIfInBounds_toArray, List.set_cons_zero, List.set_cons_succ]
              refine wpAnyT_one (i := 11) (by kernel_rfl) rfl rfl (fun K hK => ?_)
              go_simp
              refine (GA.out _ (Below.refl _ _).drew).mono ?_; rintro e wa ⟨rfl, hb⟩; have OA := Lib.hid (OD.out.below hb (Nat.le_refl _) (fun _ h => h.elim)); have za : w2.heap.size + 1 ≤ wa.heap.size := Nat.le_trans zr hb.size; have BA := Lib.hid (B3.out.drew.later hb); have TA := Lib.hid (BTr.out.drew.later hb); have HA := Lib.hid (below_call H3.out.drew hb H3.out.size)
              refine hK.out _ _ ?_ (fun hS => ?_)
              · exact ⟨(by first | exact cell_later hb hS.1 | exact Blk.later hS.1 hb), (by first | exact cell_later hb hS.2.1 | exact Blk.later hS.2.1 hb), (by first | exact cell_later hb hS.2.2.1 | exact Blk.later hS.2.2.1 hb), (by first | exact below_later hb hS.2.2.2 | exact grown_below hS.2.2.2 hb)⟩
              clear hK K
              try simp only [Act.put, List.getElem_toArray, List.getElem_cons_succ, List.getElem_cons_zero, List.setIfInBounds_toArray, List.set_cons_zero, List.set_cons_succ]
              refine wpAnyT_one (i := 12) (by kernel_rfl) rfl rfl (fun K hK => ?_)
              go_simp
              have hb : Below wa.heap.size wa (wa.alloc (.cells #[.int .i8 v] 37)) := (Below.refl _ _).alloc (Nat.le_refl _) _
              refine hK.out _ _ ?_ (fun hS => ?_)
              · exact ⟨(by first | exact cell_later hb hS.1 | exact Blk.later hS.1 hb), (by first | exact cell_later hb hS.2.1 | exact Blk.later hS.2.1 hb), (by first | exact cell_later hb hS.2.2.1 | exact Blk.later hS.2.2.1 hb), (by first | exact below_later hb hS.2.2.2 | exact grown_below hS.2.2.2 hb)⟩
              clear hK K
              try simp only [Act.put, List.getElem_toArray, List.getElem_cons_succ, List.getElem_cons_zero, List.setIfInBounds_toArray, List.set_cons_zero, List.set_cons_succ]
              refine wpAnyT_one (i := 13) (by kernel_rfl) rfl rfl (fun K hK => ?_)
              (rw [if_pos (by rfl)]; refine oper_push (W := wa) (cs := #[.int .i8 v]) (E := 37) (t := tInt .i8) (.tmp 40) (.tmp 51) rfl ei_i8 rfl OA.out 1 rfl v ⟨rfl, VK.out⟩ (by unfold maxLen; omega) (by omega) za (fun _ h => h.elim) ?_; intro u' w7 own7 g7 at7; have B7 := Lib.hid (show Blk w7 w2.heap.size 26 #[.int .i64 (W : Int), .int .i64 (H : Int), .int .i64 (C : Int), u3] from ⟨(g7.block _ BA.out.lt (fun e => N3.out e.symm)).trans BA.out.heap⟩); have T7 := Lib.hid (show Blk w7 w.heap.size 26 #[.int .i64 (H : Int), .int .i64 (W : Int), .int .i64 (C : Int), .slice (some ⟨bl, off, none⟩) E cap] from ⟨(g7.block _ TA.out.lt (fun e => by have := (OA.out.lt _ e.symm).1; omega)).trans TA.out.heap⟩); refine hK.out _ _ ⟨B7.out.cell 3, T7.out.cell 1, T7.out, HA.out.grown g7 HA.out.size (fun j hj => Nat.le_trans (Nat.le_succ _) (OA.out.lt j hj).1)⟩ (fun hS => ?_))
              clear hK K
              try simp only [Act.put, List.getElem_toArray, List.getElem_cons_succ, List.getElem_cons_zero, List.setIfInBounds_toArray, List.set_cons_zero, List.set_cons_succ]
              refine wpAnyT_tail _ _ rfl rfl (by kernel_rfl) ?_
              have FZ := hS.2.2.2
              have N7 : u'.ownBlock ≠ some w2.heap.size := by
                rcases at7 with e | e
                · rw [e]; exact N3.out
                · rw [e]; intro h; have := Option.some.inj h; omega
              have O7 := Lib.hid own7
              obtain ⟨A7, c7, rfl, _⟩ := O7.out.sl (S' := fun _ => True) (by decide) (fun _ _ _ => trivial) (fun _ _ => trivial)
              have f3 := B7.out.frozen 3
              have c3 := B7.out.cell 3
              have l7 := B7.out.lt
              have NN := Lib.hid N7
              have ZF := Lib.hid FZ
              clear hS own7 at7 g7 OD ew1 ew2 N7 FZ GA VK hb
              go_wp2_with fail
              refine ⟨⟨c + 1, _, by omega, by go_num, B7.out.set_ 3 (.slice A7 (pp * C + c + 1) c7), ?_, NN.out, ZF.out.setCell (Nat.le_refl _) _⟩, by simp [intOf]; omega⟩
              rw [QP.out] at O7 ⊢
              rw [PY.out, ← List.append_assoc]
              exact O7.out.flat (grown_set _ _ _ _) (.inr NN.out) (fun _ h => h)
            · obtain rfl : C = c := by omega
              have g2 := B3.out.cell 2
              have hall : (pix l C ((qOnce H W) pp)).take C = pix l C ((qOnce H W) pp) := List.take_of_length_le (by unfold pix; rw [List.length_take]; omega)
              rw [hall] at O3
              have hpk : pick l C (qOnce H W) (pp + 1) = pick l C (qOnce H W) pp ++ pix l C ((qOnce H W) pp) := rfl
              rw [← hpk] at O3
              have OO := Lib.hid (show Own (tInt .i8) wr (fun _ => False) (w2.heap.size + 1) 37 u3 ((a * H + (b + 1)) * C) (pick l C (qOnce H W) (a * H + (b + 1))) by rw [← Nat.add_assoc, PE.out, Nat.succ_mul]; exact O3.out)
              clear hlc hcm hall hpk
              go_wp2_with fail
              exact ⟨⟨b + 1, u3, by omega, by go_num, B3.out, OO.out, N3.out, H3.out⟩, by simp [intOf]; omega⟩
        · obtain rfl : H = b := by omega
          have g1 := B2.out.cell 1
          have OO := Lib.hid (show Own (tInt .i8) wr (fun _ => False) (w2.heap.size + 1) 37 u2 ((a + 1) * H * C) (pick l C (qOnce H W) ((a + 1) * H)) by rw [Nat.succ_mul]; exact O2.out)
          clear hlb hbm
          go_wp2_with fail
          exact ⟨⟨a + 1, u2, by omega, by go_num, B2.out, OO.out, N2.out, H2.out⟩, by simp [intOf]; omega⟩
    · obtain rfl : W = a := by omega
      have g0 := B1.out.cell 0
      have hEE : W * H * C = E := by rw [← PK.out, Nat.mul_comm H W]
      rw [hEE] at O1
      have BRr := Lib.hid (BR.out.below H1.out (by omega))
      have FRr := Lib.hid (FR.out.out.trans (H1.out.mono FR.out.out.size))
      obtain ⟨A9, c9, rfl, s9⟩ := O1.out.sl (S' := bin (w2.heap.size + 1) wr.heap.size) (by decide) (fun b h1 h2 => ⟨h1, h2⟩) (fun _ h => h.elim)
      have S9 := Lib.hid s9
      clear O1 s9 hla ha N1 hEE
      go_wp2_with (first
        | (refine wpList_load_row rfl 26 (.tmp 3) rfl w2.heap.size rfl _ _ (0, 0) _ B1.out.heap Try.underlying26 rfl (by kernel_rfl) ?_)
        | (refine wpList_store_all rfl 26 (.tmp 2) (.tmp 54) rfl w1.heap.size #[.int .i64 (W : Int), .int .i64 (H : Int), .int .i64 (C : Int), .slice A9 E c9] rfl rfl _ _ BRr.out rfl (by kernel_rfl) (by simp [Value.oneCell']) ?_; intro w8 BQ gq; have BQ := Lib.hid BQ; have gq := Lib.hid gq))
      have BF := FRr.out.grown gq.out FRr.out.size (fun j hj => by have := Option.some.inj hj; omega)
      refine ret_cell rfl BQ.out rfl Try.underlying26 (by kernel_rfl) rfl ?_
      have zq := gq.out.size
      refine ⟨A9, E, c9, rfl, ?_, BF⟩
      exact (S9.out.keep fun b hb => gq.out.block b hb.2 (by have := hb.1; simp; omega)).more fun b hb => ⟨by have := hb.1; omega, by have := hb.2; omega⟩

set_option maxHeartbeats 8000000 in
theorem rover_any (p : Pic) (hp : p.Right) (A : Option Addr) (cap : Nat) (w : World) (hs : Sl (tInt .i8) w (blo w.heap.size) A p.l.length cap p.l) :
    Calls Try.prog 12 #[.agg #[.int .i64 (p.H : Int), .int .i64 (p.W : Int), .int .i64 (p.C : Int), .slice A p.l.length cap]] w (RetP (over p) w) := by
  obtain ⟨bl, off, rfl, _, _, _, _⟩ := hs.int_at 0 hp.pos
  have pok := hp.ok
  have pf := hp.few
  have ph := hp.h
  have pw := hp.w
  have pc := hp.c
  obtain ⟨H, W, C, l⟩ := p
  unfold Pic.ok at pok
  simp only at *
  obtain ⟨E, hE⟩ : ∃ E, l.length = E := ⟨_, rfl⟩
  rw [hE] at pok pf hs ⊢
  obtain ⟨a1, a2⟩ := ph
  obtain ⟨a3, a4⟩ := pw
  obtain ⟨a5, a6⟩ := pc
  have FR := Lib.hid (Far.refl w)
  obtain ⟨w1, hw_w1⟩ : ∃ nw_, w.alloc (.cells #[.int .i64 (H : Int), .int .i64 (W : Int), .int .i64 (C : Int), .slice (some ⟨bl, off, none⟩) E cap] 26) = nw_ := ⟨_, rfl⟩
  have k_w1 : Below w.heap.size w w1 := by rw [← hw_w1]; exact (Below.refl _ _).alloc (Nat.le_refl _) _
  replace FR := Lib.hid (FR.out.fut k_w1)
  have BT := Lib.hid (show Blk w1 w.heap.size 26 #[.int .i64 (H : Int), .int .i64 (W : Int), .int .i64 (C : Int), .slice (some ⟨bl, off, none⟩) E cap] by rw [← hw_w1]; exact Blk.now _ _ _ _ rfl)
  clear k_w1
  obtain ⟨w2, hw_w2⟩ : ∃ nw_, w1.alloc (.cells #[.int .i64 0, .int .i64 0, .int .i64 0, .slice none 0 0] 26) = nw_ := ⟨_, rfl⟩
  have k_w2 : Below w1.heap.size w1 w2 := by rw [← hw_w2]; exact (Below.refl _ _).alloc (Nat.le_refl _) _
  replace FR := Lib.hid (FR.out.fut k_w2)
  replace BT := Lib.hid (BT.out.fut k_w2)
  have BR := Lib.hid (show Blk w2 w1.heap.size 26 #[.int .i64 0, .int .i64 0, .int .i64 0, .slice none 0 0] by rw [← hw_w2]; exact Blk.now _ _ _ _ rfl)
  clear k_w2
  have t0 := BT.out.cell 0
  have t1 := BT.out.cell 1
  have t2 := BT.out.cell 2
  have OL := Lib.hid (Old.mk (w0 := w) (hs.below FR.out.out (fun _ h => h)) FR.out.out.size)
  have l01 : w.heap.size < w1.heap.size := by rw [← hw_w1]; simp
  have l12 : w1.heap.size < w2.heap.size := by rw [← hw_w2]; simp
  have PK := Lib.hid (show H * W * C = E by rw [← pok])
  have HL := Lib.hid hE
  clear hs hp pok hE
  go_enter Try.func12, Try.ntmps12
  go_wp2_with (first
    | (refine wpList_load_blk rfl 23 (.tmp 7) rfl w.heap.size 0 rfl _ _ #[.int .i64 (H : Int), .int .i64 (W : Int), .int .i64 (C : Int)] _ BT.out Try.underlying23 rfl (by kernel_rfl) rfl ?_)
    | (refine wpList_store_all rfl 26 (.tmp 3) (.tmp 9) rfl w2.heap.size #[.int .i64 (H : Int), .int .i64 (W : Int), .int .i64 (C : Int), .slice none 0 0] rfl rfl _ _ (Blk.now _ _ _ _ rfl) rfl (by kernel_rfl) (by simp [Value.oneCell']) ?_; intro w3 bg gg; have k3 : Below w2.heap.size w2 w3 := ((Below.refl _ _).alloc (Nat.le_refl _) _).grown gg (by simp) (fun k h => by have := Option.some.inj h; omega)))
  have BG := Lib.hid bg
  have K3 := Lib.hid k3
  clear hw_w1 hw_w2 t0 t1 t2 bg gg
  clear k3
  go_loopw [4] (fun i wr => ∃ (a : Nat) (u : Value), a ≤ H ∧ i = .int .i64 a ∧ Blk wr w2.heap.size 26 #[.int .i64 (H : Int), .int .i64 (W : Int), .int .i64 (C : Int), u] ∧ Own (tInt .i8) wr (fun _ => False) (w2.heap.size + 1) 37 u (a * W * C) (pick l C (qOver H W) (a * W)) ∧ u.ownBlock ≠ some w2.heap.size ∧ Below w2.heap.size w2 wr) (fun i _ => H - (intOf i).toNat)
  case atStart => exact ⟨0, _, Nat.zero_le _, rfl, BG.out, by simpa [pick] using Own.nil _ _ _ _ _, by simp [Value.ownBlock], K3.out⟩
  case round =>
    obtain ⟨a, u, ha, rfl, bg, own, hne, hb⟩ := hrel
    have B1 := Lib.hid bg
    have O1 := Lib.hid own
    have N1 := Lib.hid hne
    have H1 := Lib.hid hb
    clear bg own hne hb BG
    by_cases hla : a < H
    · have p1 : (a : Int) < (H : Int) := by omega
      have g0 := B1.out.cell 0
      go_wp2_with fail
      clear g0
      go_loopw [5] (fun i wr => ∃ (b : Nat) (u : Value), b ≤ W ∧ i = .int .i64 b ∧ Blk wr w2.heap.size 26 #[.int .i64 (H : Int), .int .i64 (W : Int), .int .i64 (C : Int), u] ∧ Own (tInt .i8) wr (fun _ => False) (w2.heap.size + 1) 37 u ((a * W + b) * C) (pick l C (qOver H W) (a * W + b)) ∧ u.ownBlock ≠ some w2.heap.size ∧ Below w2.heap.size w2 wr) (fun i _ => W - (intOf i).toNat)
      case atStart => exact ⟨0, u, Nat.zero_le _, rfl, B1.out, O1.out, N1.out, H1.out⟩
      case round =>
        obtain ⟨b, u2, hbm, rfl, bg, own, hne, hb⟩ := hrel
        have B2 := Lib.hid bg
        have O2 := Lib.hid own
        have N2 := Lib.hid hne
        have H2 := Lib.hid hb
        clear bg own hne hb B1 O1 N1 H1
        by_cases hlb : b < W
        · have p2 : (b : Int) < (W : Int) := by omega
          have g1 := B2.out.cell 1
          have hpp := at_lt hla hlb
          obtain ⟨pp, hpe⟩ : ∃ x, a * W + b = x := ⟨_, rfl⟩
          rw [hpe] at O2 hpp
          have PE := Lib.hid hpe
          have QP := Lib.hid (show (qOver H W) pp = a * W + (W - 1 - b) by rw [← hpe]; exact qOver_at hlb)
          have XL := at_lt (W := W) (show a < H by omega) (show W - 1 - b < W by omega)
          obtain ⟨rx, hrx⟩ : ∃ r, a * W = r := ⟨_, rfl⟩
          rw [hrx] at QP XL
          have hri : (a : Int) * (W : Int) = (rx : Int) := by rw [← hrx, Int.natCast_mul]
          obtain ⟨ax, hax⟩ : ∃ x, (rx + (W - 1 - b)) * C = x := ⟨_, rfl⟩
          have hai : ((rx : Int) + ((W : Int) - 1 - (b : Int))) * (C : Int) = (ax : Int) := by
            rw [← hax, Int.natCast_mul, Int.natCast_add, show ((W - 1 - b : Nat) : Int) = (W : Int) - 1 - (b : Int) by omega]
          have haE : ax + C ≤ E := by
            rw [← PK.out, ← hax, ← Nat.succ_mul]
            exact Nat.mul_le_mul_right _ XL
          have hpE : pp * C + C ≤ E := by
            rw [← PK.out, ← Nat.succ_mul]
            exact Nat.mul_le_mul_right _ (by rw [show H * W = H * W from rfl]; exact hpp)
          have hrxE : rx ≤ 1024 := by have : rx * 1 ≤ rx * C := Nat.mul_le_mul_left _ a5; have h2 : rx * C ≤ (rx + (W - 1 - b)) * C := Nat.mul_le_mul_right _ (by omega); omega
          have PX := Lib.hid (fun k hk => pix_at (l := l) (C := C) (p := (qOver H W) pp) k hk (by rw [QP.out, HL.out, hax]; exact haE))
          rw [QP.out, hax] at PX
          clear hpe hrx hax XL
          go_wp2_with fail
          clear g1
          go_loopw [6] (fun i wr => ∃ (c : Nat) (u : Value), c ≤ C ∧ i = .int .i64 c ∧ Blk wr w2.heap.size 26 #[.int .i64 (H : Int), .int .i64 (W : Int), .int .i64 (C : Int), u] ∧ Own (tInt .i8) wr (fun _ => False) (w2.heap.size + 1) 37 u (pp * C + c) (pick l C (qOver H W) pp ++ (pix l C ((qOver H W) pp)).take c) ∧ u.ownBlock ≠ some w2.heap.size ∧ Below w2.heap.size w2 wr) (fun i _ => C - (intOf i).toNat)
          case atStart => exact ⟨0, u2, Nat.zero_le _, rfl, B2.out, by simpa using O2.out, N2.out, H2.out⟩
          case round =>
            obtain ⟨c, u3, hcm, rfl, bg, own, hne, hb⟩ := hrel
            have B3 := Lib.hid bg
            have O3 := Lib.hid own
            have N3 := Lib.hid hne
            have H3 := Lib.hid hb
            clear bg own hne hb B2 O2 N2 H2
            by_cases hlc : c < C
            · have p3 : (c : Int) < (C : Int) := by omega
              have g2 := B3.out.cell 2
              have px := take_snoc _ c _ (PX.out c hlc)
              obtain ⟨v, hv⟩ : ∃ v, l.getD (ax + c) 0 = v := ⟨_, rfl⟩
              rw [hv] at px
              have PY := Lib.hid px
              have zr : w2.heap.size + 1 ≤ wr.heap.size := B3.out.lt
              have BTr := Lib.hid (BT.out.below H3.out (by omega))
              have OLr := Lib.hid ((OL.out.out.below H3.out (fun b hb => by have : b < w.heap.size := hb; omega)).more (blo_more (Nat.le_trans FR.out.out.size H3.out.size)))
              have VK := Lib.hid (OLr.out.allK (ax + c))
              rw [hv] at VK
              have GA := Lib.hid (fun w' (hb : Below wr.heap.size wr w') => get_any H W C E cap bl off l (a : Int) ((W : Int) - 1 - (b : Int)) (c : Int) (rx : Int) (ax : Int) (ax + c) w' (OLr.out.later hb (Nat.le_refl _)) hri hai (by simp) (by omega) pf (by omega) (by omega) (by omega) (by omega))
              rw [hv] at GA
              have OD := Lib.hid (O3.out.heap (w' := wr.drew) rfl)
              clear px hv
              go_wp2_with fail
              clear g2
              have ew1 : IntKind.i64.wrap ((W : Int) - 1) = (W : Int) - 1 := IntWalk.i64_in _ (by omega)
              have ew2 : IntKind.i64.wrap ((W : Int) - 1 - (b : Int)) = (W : Int) - 1 - (b : Int) := IntWalk.i64_in _ (by omega)
              refine wp_region_T (fun w' => w'.cell? ⟨w2.heap.size, 3, none⟩ = some u3 ∧ w'.cell? ⟨w.heap.size, 1, none⟩ = some (.int .i64 (W : Int)) ∧ Blk w' w.heap.size 26 #[.int .i64 (H : Int), .int .i64 (W : Int), .int .i64 (C : Int), .slice (some ⟨bl, off, none⟩) E cap] ∧ Below w2.heap.size w2 w') 14 (by kernel_rfl) ?_ (fun hS => ?_)
              · exact ⟨B3.out.drew.cell 3, BTr.out.drew.cell 1, BTr.out.drew, H3.out.drew⟩
              refine wpAnyT_take (i := 0) (v := ?_) rfl (by as_aux_lemma => kernel_rfl) (by as_aux_lemma => kernel_rfl) (by as_aux_lemma => kernel_rfl) (by as_aux_lemma => kernel_rfl) rfl (fun _ _ _ h => h) (Or.inl ⟨by rfl, ?_⟩) hS ?_
              rotate_left
              · intro w hSw; (try dsimp only at hSw); go_simp; try with_reducible rfl
              try simp only [Act.put, List.getElem_toArray, List.getElem_cons_succ, List.getElem_cons_zero, List.setIfInBounds_toArray, List.set_cons_zero, List.set_cons_succ]
              refine wpAnyT_take (i := 1) (v := ?_) rfl (by as_aux_lemma => kernel_rfl) (by as_aux_lemma => kernel_rfl) (by as_aux_lemma => kernel_rfl) (by as_aux_lemma => kernel_rfl) rfl (fun _ _ _ h => h) (Or.inl ⟨by rfl, ?_⟩) hS ?_
              rotate_left
              · intro w hSw; (try dsimp only at hSw); go_simp; try with_reducible rfl
              try simp only [Act.put, List.getElem_toArray, List.getElem_cons_succ, List.getElem_cons_zero, List.setIfInBounds_toArray, List.set_cons_zero, List.set_cons_succ]
              refine wpAnyT_take (i := 2) rfl (by as_aux_lemma => kernel_rfl) (by as_aux_lemma => kernel_rfl) (by as_aux_lemma => kernel_rfl) (by as_aux_lemma => kernel_rfl) rfl (fun _ _ _ h => h) (yieldsIf_load_blk (by rfl) 26 (.tmp 1) rfl w.heap.size 0 rfl _ _ #[.int .i64 (H : Int), .int .i64 (W : Int), .int .i64 (C : Int), .slice (some ⟨bl, off, none⟩) E cap] _ (fun w hs => hs.2.2.1) Try.underlying26 rfl (by kernel_rfl) rfl) hS ?_
              try simp only [Act.put, List.getElem_toArray, List.getElem_cons_succ, List.getElem_cons_zero, List.setIfInBounds_toArray, List.set_cons_zero, List.set_cons_succ]
              refine wpAnyT_take (i := 3) (v := ?_) rfl (by as_aux_lemma => kernel_rfl) (by as_aux_lemma => kernel_rfl) (by as_aux_lemma => kernel_rfl) (by as_aux_lemma => kernel_rfl) rfl (fun _ _ _ h => h) (Or.inl ⟨by rfl, ?_⟩) hS ?_
              rotate_left
              · intro w hSw; (try dsimp only at hSw); go_simp; try with_reducible rfl
              try simp only [Act.put, List.getElem_toArray, List.getElem_cons_succ, List.getElem_cons_zero, List.setIfInBounds_toArray, List.set_cons_zero, List.set_cons_succ]
              refine wpAnyT_take (i := 4) (v := ?_) rfl (by as_aux_lemma => kernel_rfl) (by as_aux_lemma => kernel_rfl) (by as_aux_lemma => kernel_rfl) (by as_aux_lemma => kernel_rfl) rfl (fun _ _ _ h => h) (Or.inl ⟨by rfl, ?_⟩) hS ?_
              rotate_left
              · intro w hSw; (try dsimp only at hSw); go_simp; try with_reducible rfl
              try simp only [Act.put, List.getElem_toArray, List.getElem_cons_succ, List.getElem_cons_zero, List.setIfInBounds_toArray, List.set_cons_zero, List.set_cons_succ]
              refine wpAnyT_take (i := 5) (v := ?_) rfl (by as_aux_lemma => kernel_rfl) (by as_aux_lemma => kernel_rfl) (by as_aux_lemma => kernel_rfl) (by as_aux_lemma => kernel_rfl) rfl (fun _ _ _ h => h) (Or.inl ⟨by rfl, ?_⟩) hS ?_
              rotate_left
              · intro w hSw; (try dsimp only at hSw); go_simp; try with_reducible rfl
              try simp only [Act.put, List.getElem_toArray, List.getElem_cons_succ, List.getElem_cons_zero, List.setIfInBounds_toArray, List.set_cons_zero, List.set_cons_succ]
              refine wpAnyT_take (i := 6) (v := ?_) rfl (by as_aux_lemma => kernel_rfl) (by as_aux_lemma => kernel_rfl) (by as_aux_lemma => kernel_rfl) (by as_aux_lemma => kernel_rfl) rfl (fun _ _ _ h => h) (Or.inl ⟨by rfl, ?_⟩) hS ?_
              rotate_left
              · intro w hSw; (try dsimp only at hSw); go_simp; try with_reducible rfl
              try simp only [Act.put, List.getElem_toArray, List.getElem_cons_succ, List.getElem_cons_zero, List.setIfInBounds_toArray, List.set_cons_zero, List.set_cons_succ]
              refine wpAnyT_take (i := 7) (v := ?_) rfl (by as_aux_lemma => kernel_rfl) (by as_aux_lemma => kernel_rfl) (by as_aux_lemma => kernel_rfl) (by as_aux_lemma => kernel_rfl) rfl (fun _ _ _ h => h) (Or.inl ⟨by rfl, ?_⟩) hS ?_
              rotate_left
              · intro w hSw; (try dsimp only at hSw); go_simp; try with_reducible rfl
              try simp only [Act.put, List.getElem_toArray, List.getElem_cons_succ, List.getElem_cons_zero, List.setIfInBounds_toArray, List.set_cons_zero, List.set_cons_succ]
              refine wpAnyT_take (i := 8) (v := ?_) rfl (by as_aux_lemma => kernel_rfl) (by as_aux_lemma => kernel_rfl) (by as_aux_lemma => kernel_rfl) (by as_aux_lemma => kernel_rfl) rfl (fun _ _ _ h => h) (Or.inl ⟨by rfl, ?_⟩) hS ?_
              rotate_left
              · intro w hSw; (try dsimp only at hSw); go_simp; try with_reducible rfl
              try simp only [Act.put, List.getElem_toArray, List.getElem_cons_succ, List.getElem_cons_zero, List.setIfInBounds_toArray, List.set_cons_zero, List.set_cons_succ]
              refine wpAnyT_take (i := 9) (v := ?_) rfl (by as_aux_lemma => kernel_rfl) (by as_aux_lemma => kernel_rfl) (by as_aux_lemma => kernel_rfl) (by as_aux_lemma => kernel_rfl) rfl (fun _ _ _ h => h) (Or.inl ⟨by rfl, ?_⟩) hS ?_
              rotate_left
              · intro w hSw; (try dsimp only at hSw); go_simp; try with_reducible rfl
              try simp only [Act.put, List.getElem_toArray, List.getElem_cons_succ, List.getElem_cons_zero, List.setIfInBounds_toArray, List.set_cons_zero, List.set_cons_succ]
              refine wpAnyT_take (i := 10) (v := ?_) rfl (by as_aux_lemma => kernel_rfl) (by as_aux_lemma => kernel_rfl) (by as_aux_lemma => kernel_rfl) (by as_aux_lemma => kernel_rfl) rfl (fun _ _ _ h => h) (Or.inl ⟨by rfl, ?_⟩) hS ?_
              rotate_left
              · intro w hSw; (try dsimp only at hSw); go_simp; try with_reducible rfl
              try simp only [Act.put, List.getElem_toArray, List.getElem_cons_succ, List.getElem_cons_zero, List.setIfInBounds_toArray, List.set_cons_zero, List.set_cons_succ]
              refine wpAnyT_one (i := 11) (by kernel_rfl) rfl rfl (fun K hK => ?_)
              go_simp
              refine (GA.out _ (Below.refl _ _).drew).mono ?_; rintro e wa ⟨rfl, hb⟩; have OA := Lib.hid (OD.out.below hb (Nat.le_refl _) (fun _ h => h.elim)); have za : w2.heap.size + 1 ≤ wa.heap.size := Nat.le_trans zr hb.size; have BA := Lib.hid (B3.out.drew.later hb); have TA := Lib.hid (BTr.out.drew.later hb); have HA := Lib.hid (below_call H3.out.drew hb H3.out.size)
              refine hK.out _ _ ?_ (fun hS => ?_)
              · exact ⟨(by first | exact cell_later hb hS.1 | exact Blk.later hS.1 hb), (by first | exact cell_later hb hS.2.1 | exact Blk.later hS.2.1 hb), (by first | exact cell_later hb hS.2.2.1 | exact Blk.later hS.2.2.1 hb), (by first | exact below_later hb hS.2.2.2 | exact grown_below hS.2.2.2 hb)⟩
              clear hK K
              try simp only [Act.put, List.getElem_toArray, List.getElem_cons_succ, List.getElem_cons_zero, List.setIfInBounds_toArray, List.set_cons_zero, List.set_cons_succ]
              refine wpAnyT_one (i := 12) (by kernel_rfl) rfl rfl (fun K hK => ?_)
              go_simp
              have hb : Below wa.heap.size wa (wa.alloc (.cells #[.int .i8 v] 37)) := (Below.refl _ _).alloc (Nat.le_refl _) _
              refine hK.out _ _ ?_ (fun hS => ?_)
              · exact ⟨(by first | exact cell_later hb hS.1 | exact Blk.later hS.1 hb), (by first | exact cell_later hb hS.2.1 | exact Blk.later hS.2.1 hb), (by first | exact cell_later hb hS.2.2.1 | exact Blk.later hS.2.2.1 hb), (by first | exact below_later hb hS.2.2.2 | exact grown_below hS.2.2.2 hb)⟩
              clear hK K
              try simp only [Act.put, List.getElem_toArray, List.getElem_cons_succ, List.getElem_cons_zero, List.setIfInBounds_toArray, List.set_cons_zero, List.set_cons_succ]
              refine wpAnyT_one (i := 13) (by kernel_rfl) rfl rfl (fun K hK => ?_)
              (rw [if_pos (by rfl)]; refine oper_push (W := wa) (cs := #[.int .i8 v]) (E := 37) (t := tInt .i8) (.tmp 32) (.tmp 43) rfl ei_i8 rfl OA.out 1 rfl v ⟨rfl, VK.out⟩ (by unfold maxLen; omega) (by omega) za (fun _ h => h.elim) ?_; intro u' w7 own7 g7 at7; have B7 := Lib.hid (show Blk w7 w2.heap.size 26 #[.int .i64 (H : Int), .int .i64 (W : Int), .int .i64 (C : Int), u3] from ⟨(g7.block _ BA.out.lt (fun e => N3.out e.symm)).trans BA.out.heap⟩); have T7 := Lib.hid (show Blk w7 w.heap.size 26 #[.int .i64 (H : Int), .int .i64 (W : Int), .int .i64 (C : Int), .slice (some ⟨bl, off, none⟩) E cap] from ⟨(g7.block _ TA.out.lt (fun e => by have := (OA.out.lt _ e.symm).1; omega)).trans TA.out.heap⟩); refine hK.out _ _ ⟨B7.out.cell 3, T7.out.cell 1, T7.out, HA.out.grown g7 HA.out.size (fun j hj => Nat.le_trans (Nat.le_succ _) (OA.out.lt j hj).1)⟩ (fun hS => ?_))
              clear hK K
              try simp only [Act.put, List.getElem_toArray, List.getElem_cons_succ, List.getElem_cons_zero, List.setIfInBounds_toArray, List.set_cons_zero, List.set_cons_succ]
              refine wpAnyT_tail _ _ rfl rfl (by kernel_rfl) ?_
              have FZ := hS.2.2.2
              have N7 : u'.ownBlock ≠ some w2.heap.size := by
                rcases at7 with e | e
                · rw [e]; exact N3.out
                · rw [e]; intro h; have := Option.some.inj h; omega
              have O7 := Lib.hid own7
              obtain ⟨A7, c7, rfl, _⟩ := O7.out.sl (S' := fun _ => True) (by decide) (fun _ _ _ => trivial) (fun _ _ => trivial)
              have f3 := B7.out.frozen 3
              have c3 := B7.out.cell 3
              have l7 := B7.out.lt
              have NN := Lib.hid N7
              have ZF := Lib.hid FZ
              clear hS own7 at7 g7 OD ew1 ew2 N7 FZ GA VK hb
              go_wp2_with fail
              refine ⟨⟨c + 1, _, by omega, by go_num, B7.out.set_ 3 (.slice A7 (pp * C + c + 1) c7), ?_, NN.out, ZF.out.setCell (Nat.le_refl _) _⟩, by simp [intOf]; omega⟩
              rw [QP.out] at O7 ⊢
              rw [PY.out, ← List.append_assoc]
              exact O7.out.flat (grown_set _ _ _ _) (.inr NN.out) (fun _ h => h)
            · obtain rfl : C = c := by omega
              have g2 := B3.out.cell 2
              have hall : (pix l C ((qOver H W) pp)).take C = pix l C ((qOver H W) pp) := List.take_of_length_le (by unfold pix; rw [List.length_take]; omega)
              rw [hall] at O3
              have hpk : pick l C (qOver H W) (pp + 1) = pick l C (qOver H W) pp ++ pix l C ((qOver H W) pp) := rfl
              rw [← hpk] at O3
              have OO := Lib.hid (show Own (tInt .i8) wr (fun _ => False) (w2.heap.size + 1) 37 u3 ((a * W + (b + 1)) * C) (pick l C (qOver H W) (a * W + (b + 1))) by rw [← Nat.add_assoc, PE.out, Nat.succ_mul]; exact O3.out)
              clear hlc hcm hall hpk
              go_wp2_with fail
              exact ⟨⟨b + 1, u3, by omega, by go_num, B3.out, OO.out, N3.out, H3.out⟩, by simp [intOf]; omega⟩
        · obtain rfl : W = b := by omega
          have g1 := B2.out.cell 1
          have OO := Lib.hid (show Own (tInt .i8) wr (fun _ => False) (w2.heap.size + 1) 37 u2 ((a + 1) * W * C) (pick l C (qOver H W) ((a + 1) * W)) by rw [Nat.succ_mul]; exact O2.out)
          clear hlb hbm
          go_wp2_with fail
          exact ⟨⟨a + 1, u2, by omega, by go_num, B2.out, OO.out, N2.out, H2.out⟩, by simp [intOf]; omega⟩
    · obtain rfl : H = a := by omega
      have g0 := B1.out.cell 0
      have hEE : H * W * C = E := by rw [← PK.out, show H * W = H * W from rfl]
      rw [hEE] at O1
      have BRr := Lib.hid (BR.out.below H1.out (by omega))
      have FRr := Lib.hid (FR.out.out.trans (H1.out.mono FR.out.out.size))
      obtain ⟨A9, c9, rfl, s9⟩ := O1.out.sl (S' := bin (w2.heap.size + 1) wr.heap.size) (by decide) (fun b h1 h2 => ⟨h1, h2⟩) (fun _ h => h.elim)
      have S9 := Lib.hid s9
      clear O1 s9 hla ha N1 hEE
      go_wp2_with (first
        | (refine wpList_load_row rfl 26 (.tmp 3) rfl w2.heap.size rfl _ _ (0, 0) _ B1.out.heap Try.underlying26 rfl (by kernel_rfl) ?_)
        | (refine wpList_store_all rfl 26 (.tmp 2) (.tmp 46) rfl w1.heap.size #[.int .i64 (H : Int), .int .i64 (W : Int), .int .i64 (C : Int), .slice A9 E c9] rfl rfl _ _ BRr.out rfl (by kernel_rfl) (by simp [Value.oneCell']) ?_; intro w8 BQ gq; have BQ := Lib.hid BQ; have gq := Lib.hid gq))
      have BF := FRr.out.grown gq.out FRr.out.size (fun j hj => by have := Option.some.inj hj; omega)
      refine ret_cell rfl BQ.out rfl Try.underlying26 (by kernel_rfl) rfl ?_
      have zq := gq.out.size
      refine ⟨A9, E, c9, rfl, ?_, BF⟩
      exact (S9.out.keep fun b hb => gq.out.block b hb.2 (by have := hb.1; simp; omega)).more fun b hb => ⟨by have := hb.1; omega, by have := hb.2; omega⟩

end Go.Proofs.Ytbdanfbfohikdaa
