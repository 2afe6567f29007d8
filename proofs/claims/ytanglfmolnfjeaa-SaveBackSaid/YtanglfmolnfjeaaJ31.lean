/-
  A point's bytes (layer 37): save.Put.
  Conditions: at most 100000 numbers a tensor.
-/
import Derived.Test.YtanglfmolnfjeaaChecked
import Derived.Test.YtanglfmolnfjeaaJ21
import Derived.Test.YtanglfmolnfjeaaJ24
import Derived.Test.YtanglfmolnfjeaaJ25
import Derived.Test.YtanglfmolnfjeaaJ30
import Derived.Test.YtanglfmolnfjeaaJ14
import Derived.Test.YtanglfmolnfjeaaJ06
import Derived.Deep.DeepCutAuto
import Derived.Deep.CutRange
import Derived.Deep.CutBlock
namespace Go.Proofs.Ytanglfmolnfjeaa
set_option linter.unusedVariables false
set_option linter.unusedSimpArgs false
open Go.RowKit Go.ChangeShapes Go.WideShapes
set_option maxRecDepth 100000
set_option maxHeartbeats 4000000

def rightT (t : Tensor) : Bool := decide (0 < elems t.h t.v t.c ∧ elems t.h t.v t.c = t.data.length)
def inV (v m : Int) : Bool := decide (0 ≤ v ∧ v ≤ m)
/-- A point's bytes ahead of their sum. -/
def bodyV (p : Pt) : List Int := (numbersV [p.model, p.block, p.spent] ++ laidV p.input) ++ (if likeT p.input p.value = true then numbersV [0] else numbersV [1] ++ laidV p.value)
/-- Bytes with their sum behind. -/
def sealV (b : List Int) : List Int := b ++ put32V (crcV b).toNat
/-- A point's bytes, or why there are none. -/
def putV (p : Pt) : List Int × Int :=
  if inV p.model 3 = true ∧ inV p.block 6 = true ∧ inV p.spent 1099511627776 = true then (if rightT p.input = true ∧ rightT p.value = true then (sealV (bodyV p), 0) else ([], 5)) else ([], 3)
/-- A row in new memory and an error. -/
structure RetB (w : World) (r : List Int × Int) (e : Ending) (w' : World) : Prop where
  out : ∃ A n c, e = .returned (.tuple #[.slice A n c, .int .i64 r.2]) ∧ Sl (tInt .u8) w' (bin w.heap.size w'.heap.size) A n c r.1
  far : Below w.heap.size w w'
theorem RetB.none {w w' : World} {e : Int} (h : Below w.heap.size w w') : RetB w ([], e) (.returned (.tuple #[.slice Option.none 0 0, .int .i64 e])) w' := ⟨⟨Option.none, 0, 0, rfl, Sl.nil _ _ _⟩, h⟩

theorem rightT_spec {t : Tensor} (h : rightT t = true) : 0 < t.data.length ∧ t.data.length ≤ 1024 ∧ 0 ≤ t.h ∧ 0 ≤ t.v ∧ 0 ≤ t.c := by
  unfold rightT at h
  obtain ⟨h1, h2⟩ := of_decide_eq_true h
  have hr := elems_range t.h t.v t.c
  have he := elems_iff t.h t.v t.c
  split at he
  · rename_i q
    obtain ⟨q1, q2, q3, q4, q5, q6, _⟩ := q
    exact ⟨by omega, by omega, by omega, by omega, by omega⟩
  · omega
theorem numbers_lit (l : List Int) (hl : l.length ≤ 1000) (hk : ∀ x ∈ l, InK .i64 x ∧ 0 ≤ x) (W : World) (g n : Nat) (cs : Array Value) (hc : cs.toList = l.map (Value.int .i64)) (hn : n = l.length) (hb : W.heap[g]? = some (.cells cs 3 (0, 0))) :
    Calls Try.prog 17 #[.slice (some ⟨g, 0, none⟩) n n] W (RetOwn W (numbersV l)) := by
  have hg : g < W.heap.size := (Array.getElem?_eq_some_iff.1 hb).1
  subst hn
  refine numbers_any (some ⟨g, 0, none⟩) _ _ l W (Sl.lit l hb hc (fun x hx => (hk x hx).1) hg rfl rfl (by unfold maxLen; omega)) hl (fun i hi => ?_)
  have : l.getD i 0 = l[i] := by rw [List.getD_eq_getElem?_getD, List.getElem?_eq_getElem hi]; rfl
  rw [this]
  exact (hk _ (List.getElem_mem hi)).2
theorem in_spec {v m : Int} (h : inV v m = true) : 0 ≤ v ∧ v ≤ m := of_decide_eq_true h

theorem savePut_any (p : Pt) (A B : Option Addr) (n c m d : Nat) (w : World) (hs : Sl (tInt .i8) w (blo w.heap.size) A n c p.input.data) (hs' : Sl (tInt .i8) w (blo w.heap.size) B m d p.value.data) (hp : PtIn p) :
    Calls Try.prog 6 #[.agg (ptCells p A n c B m d)] w (RetB w (putV p)) := by
  have i1 := hp.model
  have i2 := hp.block
  have i3 := hp.spent
  have i4 := hp.input
  have i5 := hp.value
  have IN1 := Lib.hid (fun w => savein_any p.model 3 w i1)
  have IN2 := Lib.hid (fun w => savein_any p.block 6 w i2)
  have IN3 := Lib.hid (fun w => savein_any p.spent 1099511627776 w i3)
  have RI := Lib.hid (fun w => tensorRight_any p.input.h p.input.v p.input.c A n c w i4.h i4.v i4.c (Nat.le_trans hs.cap_le hs.max_le))
  have RV := Lib.hid (fun w => tensorRight_any p.value.h p.value.v p.value.c B m d w i5.h i5.v i5.c (Nat.le_trans hs'.cap_le hs'.max_le))
  have PV := Lib.hid (show putV p = if inV p.model 3 = true ∧ inV p.block 6 = true ∧ inV p.spent 1099511627776 = true then (if rightT p.input = true ∧ rightT p.value = true then (sealV (bodyV p), 0) else ([], 5)) else ([], 3) from rfl)
  have b1 := Lib.hid (show inV p.model 3 = decide (0 ≤ p.model ∧ p.model ≤ 3) from rfl)
  have b2 := Lib.hid (show inV p.block 6 = decide (0 ≤ p.block ∧ p.block ≤ 6) from rfl)
  have b3 := Lib.hid (show inV p.spent 1099511627776 = decide (0 ≤ p.spent ∧ p.spent ≤ 1099511627776) from rfl)
  have b4 := Lib.hid (show rightT p.input = decide (0 < elems p.input.h p.input.v p.input.c ∧ elems p.input.h p.input.v p.input.c = n) by rw [← hs.n_eq]; rfl)
  have b5 := Lib.hid (show rightT p.value = decide (0 < elems p.value.h p.value.v p.value.c ∧ elems p.value.h p.value.v p.value.c = m) by rw [← hs'.n_eq]; rfl)
  rw [← b1.out] at IN1
  rw [← b2.out] at IN2
  rw [← b3.out] at IN3
  rw [← b4.out] at RI
  rw [← b5.out] at RV
  have H := Lib.hid hs
  have H' := Lib.hid hs'
  clear b1 b2 b3 b4 b5 hs hs'
  obtain ⟨x1, hx1⟩ : ∃ x, inV p.model 3 = x := ⟨_, rfl⟩
  obtain ⟨x2, hx2⟩ : ∃ x, inV p.block 6 = x := ⟨_, rfl⟩
  obtain ⟨x3, hx3⟩ : ∃ x, inV p.spent 1099511627776 = x := ⟨_, rfl⟩
  obtain ⟨x4, hx4⟩ : ∃ x, rightT p.input = x := ⟨_, rfl⟩
  obtain ⟨x5, hx5⟩ : ∃ x, rightT p.value = x := ⟨_, rfl⟩
  rw [hx1] at IN1 PV
  rw [hx2] at IN2 PV
  rw [hx3] at IN3 PV
  rw [hx4] at RI PV
  rw [hx5] at RV PV
  obtain ⟨r, hr⟩ : ∃ r, putV p = r := ⟨_, rfl⟩
  rw [hr] at PV ⊢
  have X1 := Lib.hid hx1
  have X2 := Lib.hid hx2
  have X3 := Lib.hid hx3
  have X4 := Lib.hid hx4
  have X5 := Lib.hid hx5
  have IP := Lib.hid hp
  clear i1 i2 i3 i4 i5
  clear hr hx1 hx2 hx3 hx4 hx5 hp
  unfold ptCells
  go_enter Try.func6, Try.ntmps6
  go_wp2_with fail
  obtain ⟨w1, hw1⟩ : ∃ x, w.alloc (.cells #[.int .i64 p.model, .int .i64 p.block, .int .i64 p.spent, .int .i64 p.input.h, .int .i64 p.input.v, .int .i64 p.input.c, .slice A n c, .int .i64 p.value.h, .int .i64 p.value.v, .int .i64 p.value.c, .slice B m d] 28) = x := ⟨_, rfl⟩
  have BB := Lib.hid (show Blk w1 w.heap.size 28 #[.int .i64 p.model, .int .i64 p.block, .int .i64 p.spent, .int .i64 p.input.h, .int .i64 p.input.v, .int .i64 p.input.c, .slice A n c, .int .i64 p.value.h, .int .i64 p.value.v, .int .i64 p.value.c, .slice B m d] by rw [← hw1]; exact Blk.now _ _ _ _ rfl)
  have FR := Lib.hid (show Far w w1 by rw [← hw1]; exact ⟨(Below.refl _ _).alloc (Nat.le_refl _) _⟩)
  rw [hw1]
  clear hw1
  have cA := fun i => BB.out.cell i
  refine (IN1.out _).mono ?_
  rintro e w' ⟨rfl, rfl⟩
  cases x1 with
  | false =>
    rw [if_neg (by simp)] at PV
    go_wp2_with fail
    go_ret2
    rw [PV.out]
    exact RetB.none FR.out.out
  | true =>
  go_wp2_with fail
  refine (IN2.out _).mono ?_
  rintro e w' ⟨rfl, rfl⟩
  cases x2 with
  | false =>
    rw [if_neg (by simp)] at PV
    go_wp2_with fail
    go_ret2
    rw [PV.out]
    exact RetB.none FR.out.out
  | true =>
  go_wp2_with fail
  refine (IN3.out _).mono ?_
  rintro e w' ⟨rfl, rfl⟩
  cases x3 with
  | false =>
    rw [if_neg (by simp)] at PV
    go_wp2_with fail
    go_ret2
    rw [PV.out]
    exact RetB.none FR.out.out
  | true =>
  rw [if_pos (by simp)] at PV
  go_wp2_with fail
  refine (RI.out _).mono ?_
  rintro e w2 ⟨rfl, hb⟩
  replace BB := Lib.hid (BB.out.fut hb)
  replace FR := Lib.hid (FR.out.fut hb)
  clear hb
  clear cA
  have cA := fun i => BB.out.cell i
  cases x4 with
  | false =>
    rw [if_neg (by simp)] at PV
    go_wp2_with fail
    go_ret2
    rw [PV.out]
    exact RetB.none FR.out.out
  | true =>
  go_wp2_with fail
  refine (RV.out _).mono ?_
  rintro e w3 ⟨rfl, hb⟩
  replace BB := Lib.hid (BB.out.fut hb)
  replace FR := Lib.hid (FR.out.fut hb)
  clear hb
  clear cA
  cases x5 with
  | false =>
    rw [if_neg (by simp)] at PV
    go_wp2_with fail
    go_ret2
    rw [PV.out]
    exact RetB.none FR.out.out
  | true =>
  rw [if_pos (by simp)] at PV
  obtain ⟨k1, k1', k2, k3, k4⟩ := rightT_spec X4.out
  obtain ⟨m1, m1', m2, m3, m4⟩ := rightT_spec X5.out
  rw [H.out.n_eq] at k1 k1'
  rw [H'.out.n_eq] at m1 m1'
  have j1 := (in_spec X1.out).1
  have j2 := (in_spec X2.out).1
  have j3 := (in_spec X3.out).1
  have NB := Lib.hid (fun (W : World) (g : Nat) (hb : W.heap[g]? = some (.cells #[.int .i64 p.model, .int .i64 p.block, .int .i64 p.spent] 3 (0, 0))) => numbers_lit [p.model, p.block, p.spent] (by simp) (by intro x hx; simp at hx; rcases hx with rfl | rfl | rfl; exact ⟨IP.out.model, j1⟩; exact ⟨IP.out.block, j2⟩; exact ⟨IP.out.spent, j3⟩) W g 3 _ rfl rfl hb)
  have LI := Lib.hid (fun (W : World) (hb : Below w.heap.size w W) => laid_any p.input A n c W (H.out.later hb (Nat.le_refl _)) k1 (by omega) k2 k3 k4 IP.out.input)
  have LJ := Lib.hid (fun (W : World) (hb : Below w.heap.size w W) => laid_any p.value B m d W (H'.out.later hb (Nat.le_refl _)) m1 (by omega) m2 m3 m4 IP.out.value)
  have NL := Lib.hid (numbersV_len [p.model, p.block, p.spent])
  have LL := Lib.hid (show (laidV p.input).length ≤ 30 + n by
    have a := numbersV_len [p.input.h, p.input.v, p.input.c]
    simp only [List.length_cons, List.length_nil] at a
    unfold laidV; rw [List.length_append, octV_length, H.out.n_eq]; omega)
  have LP := Lib.hid (show 0 < (laidV p.input).length by unfold laidV; rw [List.length_append, octV_length, H.out.n_eq]; omega)
  have LK := Lib.hid (show (laidV p.value).length ≤ 30 + m by
    have a := numbersV_len [p.value.h, p.value.v, p.value.c]
    simp only [List.length_cons, List.length_nil] at a
    unfold laidV; rw [List.length_append, octV_length, H'.out.n_eq]; omega)
  have LQ := Lib.hid (show 0 < (laidV p.value).length by unfold laidV; rw [List.length_append, octV_length, H'.out.n_eq]; omega)
  clear k2 k3 k4 m2 m3 m4 j1 j2 j3 IN1 IN2 IN3 RI RV X1 X2 X3 X4 X5
  go_wp2_with fail
  have q := BB.out.drew.cell
  have z0 := FR.out.size
  have zb := BB.out.lt
  refine wp_region_held_drew (S := fun w' => w'.cell? ⟨w.heap.size, 0, none⟩ = some (.int .i64 p.model) ∧ w'.cell? ⟨w.heap.size, 1, none⟩ = some (.int .i64 p.block) ∧ w'.cell? ⟨w.heap.size, 2, none⟩ = some (.int .i64 p.spent) ∧ Blk w' w.heap.size 28 #[.int .i64 p.model, .int .i64 p.block, .int .i64 p.spent, .int .i64 p.input.h, .int .i64 p.input.v, .int .i64 p.input.c, .slice A n c, .int .i64 p.value.h, .int .i64 p.value.v, .int .i64 p.value.c, .slice B m d] ∧ Below w.heap.size w w') (by kernel_rfl) ?_ (fun hS => ?_)
  · exact ⟨q 0, q 1, q 2, BB.out.drew, FR.out.out.drew⟩
  refine wpAnyH_take (i := 0) (v := ?_) rfl (by as_aux_lemma => kernel_rfl) (by as_aux_lemma => kernel_rfl) (by as_aux_lemma => kernel_rfl) (fun _ _ _ h => h) (Or.inl ⟨by rfl, ?_⟩) hS ?_
  rotate_left
  · intro w hSw; (try dsimp only at hSw); go_simp; try with_reducible rfl
  try simp only [Act.put, List.getElem_toArray, List.getElem_cons_succ, List.getElem_cons_zero, List.setIfInBounds_toArray, List.set_cons_zero, List.set_cons_succ]
  refine wpAnyH_take (i := 1) (v := ?_) rfl (by as_aux_lemma => kernel_rfl) (by as_aux_lemma => kernel_rfl) (by as_aux_lemma => kernel_rfl) (fun _ _ _ h => h) (Or.inl ⟨by rfl, ?_⟩) hS ?_
  rotate_left
  · intro w hSw; (try dsimp only at hSw); go_simp; try with_reducible rfl
  try simp only [Act.put, List.getElem_toArray, List.getElem_cons_succ, List.getElem_cons_zero, List.setIfInBounds_toArray, List.set_cons_zero, List.set_cons_succ]
  refine wpAnyH_take (i := 2) (v := ?_) rfl (by as_aux_lemma => kernel_rfl) (by as_aux_lemma => kernel_rfl) (by as_aux_lemma => kernel_rfl) (fun _ _ _ h => h) (Or.inl ⟨by rfl, ?_⟩) hS ?_
  rotate_left
  · intro w hSw; (try dsimp only at hSw); go_simp; try with_reducible rfl
  try simp only [Act.put, List.getElem_toArray, List.getElem_cons_succ, List.getElem_cons_zero, List.setIfInBounds_toArray, List.set_cons_zero, List.set_cons_succ]
  refine wpAnyH_take (i := 3) (v := ?_) rfl (by as_aux_lemma => kernel_rfl) (by as_aux_lemma => kernel_rfl) (by as_aux_lemma => kernel_rfl) (fun _ _ _ h => h) (Or.inl ⟨by rfl, ?_⟩) hS ?_
  rotate_left
  · intro w hSw; (try dsimp only at hSw); go_simp; try with_reducible rfl
  try simp only [Act.put, List.getElem_toArray, List.getElem_cons_succ, List.getElem_cons_zero, List.setIfInBounds_toArray, List.set_cons_zero, List.set_cons_succ]
  refine wpAnyH_take (i := 4) (v := ?_) rfl (by as_aux_lemma => kernel_rfl) (by as_aux_lemma => kernel_rfl) (by as_aux_lemma => kernel_rfl) (fun _ _ _ h => h) (Or.inl ⟨by rfl, ?_⟩) hS ?_
  rotate_left
  · intro w hSw; (try dsimp only at hSw); go_simp; try with_reducible rfl
  try simp only [Act.put, List.getElem_toArray, List.getElem_cons_succ, List.getElem_cons_zero, List.setIfInBounds_toArray, List.set_cons_zero, List.set_cons_succ]
  refine wpAnyH_take (i := 5) (v := ?_) rfl (by as_aux_lemma => kernel_rfl) (by as_aux_lemma => kernel_rfl) (by as_aux_lemma => kernel_rfl) (fun _ _ _ h => h) (Or.inl ⟨by rfl, ?_⟩) hS ?_
  rotate_left
  · intro w hSw; (try dsimp only at hSw); go_simp; try with_reducible rfl
  try simp only [Act.put, List.getElem_toArray, List.getElem_cons_succ, List.getElem_cons_zero, List.setIfInBounds_toArray, List.set_cons_zero, List.set_cons_succ]
  refine wpAnyH_take (i := 8) (v := ?_) rfl (by as_aux_lemma => kernel_rfl) (by as_aux_lemma => kernel_rfl) (by as_aux_lemma => kernel_rfl) (fun _ _ _ h => h) (Or.inl ⟨by rfl, ?_⟩) hS ?_
  rotate_left
  · intro w hSw; (try dsimp only at hSw); go_simp; try with_reducible rfl
  try simp only [Act.put, List.getElem_toArray, List.getElem_cons_succ, List.getElem_cons_zero, List.setIfInBounds_toArray, List.set_cons_zero, List.set_cons_succ]
  refine wpAnyH_take (i := 9) rfl (by as_aux_lemma => kernel_rfl) (by as_aux_lemma => kernel_rfl) (by as_aux_lemma => kernel_rfl) (fun _ _ _ h => h) (yieldsIf_load_blk (by rfl) 26 (.tmp 41) rfl w.heap.size 3 rfl _ _ #[.int .i64 p.input.h, .int .i64 p.input.v, .int .i64 p.input.c, .slice A n c] _ (fun w hs => hs.2.2.2.1) Try.underlying26 rfl (by kernel_rfl) rfl) hS ?_
  try simp only [Act.put, List.getElem_toArray, List.getElem_cons_succ, List.getElem_cons_zero, List.setIfInBounds_toArray, List.set_cons_zero, List.set_cons_succ]
  refine wpAnyH_ready (rs := [6]) (by kernel_rfl) (by simp) ?_
  refine AllReadyH.cons rfl (fun K hK => ?_) AllReadyH.nil
  (rw [if_pos (by rfl)]; refine oper_lit3 (.tmp 34) (.tmp 36) (.tmp 38) rfl ei_int (.int .i64 p.model) (.int .i64 p.block) (.int .i64 p.spent) rfl rfl rfl #[.int .i64 p.model, .int .i64 p.block, .int .i64 p.spent] (by decide) (by decide) (by kernel_rfl) ?_; have hb : Below w3.drew.heap.size w3.drew (w3.drew.alloc (.cells #[.int .i64 p.model, .int .i64 p.block, .int .i64 p.spent] 3)) := (Below.refl _ _).alloc (Nat.le_refl _) _; have B3 := Lib.hid (Blk.now w3.drew w3.drew.heap.size 3 #[.int .i64 p.model, .int .i64 p.block, .int .i64 p.spent] rfl); refine hK.out _ _ ⟨cell_later hb hS.1, cell_later hb hS.2.1, cell_later hb hS.2.2.1, hS.2.2.2.1.later hb, below_later hb hS.2.2.2.2⟩ (fun hS => ?_))
  clear hK K
  try simp only [Act.put, List.getElem_toArray, List.getElem_cons_succ, List.getElem_cons_zero, List.setIfInBounds_toArray, List.set_cons_zero, List.set_cons_succ]
  refine wpAnyH_ready (rs := [7]) (by kernel_rfl) (by simp) ?_
  refine AllReadyH.cons rfl (fun K hK => ?_) AllReadyH.nil
  go_simp
  refine (NB.out _ _ B3.out.heap).mono ?_; rintro e w4 ⟨v4, n4, rfl, own4, hn4, hb⟩; have O4 := Lib.hid (own4.base (b' := w.heap.size + 1) (by simp; omega)); have z4 : w.heap.size + 1 ≤ w4.heap.size := Nat.le_trans (by simp; omega) hb.size
  refine hK.out _ _ ?_ (fun hS => ?_)
  · exact ⟨(by first | exact cell_later hb hS.1 | exact Blk.later hS.1 hb), (by first | exact cell_later hb hS.2.1 | exact Blk.later hS.2.1 hb), (by first | exact cell_later hb hS.2.2.1 | exact Blk.later hS.2.2.1 hb), (by first | exact cell_later hb hS.2.2.2.1 | exact Blk.later hS.2.2.2.1 hb), below_later hb hS.2.2.2.2⟩
  clear hK K
  try simp only [Act.put, List.getElem_toArray, List.getElem_cons_succ, List.getElem_cons_zero, List.setIfInBounds_toArray, List.set_cons_zero, List.set_cons_succ]
  refine wpAnyH_ready (rs := [10]) (by kernel_rfl) (by simp) ?_
  refine AllReadyH.cons rfl (fun K hK => ?_) AllReadyH.nil
  go_simp
  refine (LI.out _ hS.2.2.2.2).mono ?_; rintro e w5 ⟨v5, n5, rfl, own5, hn5, hb⟩; obtain ⟨A5, c5, rfl, sl5⟩ := own5.sl (S' := blo w5.heap.size) (by decide) (fun b h1 h2 => h2) (fun _ h => h.elim); have S5 := Lib.hid sl5; have O5 := Lib.hid (O4.out.below hb (Nat.le_refl _) (fun _ h => h.elim)); have z5 : w.heap.size + 1 ≤ w5.heap.size := Nat.le_trans z4 hb.size
  refine hK.out _ _ ?_ (fun hS => ?_)
  · exact ⟨(by first | exact cell_later hb hS.1 | exact Blk.later hS.1 hb), (by first | exact cell_later hb hS.2.1 | exact Blk.later hS.2.1 hb), (by first | exact cell_later hb hS.2.2.1 | exact Blk.later hS.2.2.1 hb), (by first | exact cell_later hb hS.2.2.2.1 | exact Blk.later hS.2.2.2.1 hb), below_later hb hS.2.2.2.2⟩
  clear hK K
  try simp only [Act.put, List.getElem_toArray, List.getElem_cons_succ, List.getElem_cons_zero, List.setIfInBounds_toArray, List.set_cons_zero, List.set_cons_succ]
  refine wpAnyH_ready (rs := [11]) (by kernel_rfl) (by simp) ?_
  refine AllReadyH.cons rfl (fun K hK => ?_) AllReadyH.nil
  (rw [if_pos (by rfl)]; have lp := LP.out; have ll := LL.out; have nl := NL.out; simp only [List.length_cons, List.length_nil] at nl; obtain ⟨b5, o5, rfl, _⟩ := S5.out.int_at 0 (by omega); refine oper_extend (.tmp 40) (.tmp 43) rfl ei_u8 rfl O5.out rfl S5.out (by unfold maxLen; omega) (by omega) z5 ?_; intro v6 w6 own6 g6 at6; have ne0 := Lib.hid (show some w.heap.size ≠ v4.ownBlock from fun e => absurd (O5.out.lt _ e.symm).1 (by omega)); refine hK.out _ _ ⟨cell_grown g6 hS.1 ne0.out, cell_grown g6 hS.2.1 ne0.out, cell_grown g6 hS.2.2.1 ne0.out, hS.2.2.2.1.row g6 ne0.out, hS.2.2.2.2.grown g6 hS.2.2.2.2.size (fun k h => by have := (O5.out.lt k h).1; omega)⟩ (fun hS => ?_))
  clear hK K
  try simp only [Act.put, List.getElem_toArray, List.getElem_cons_succ, List.getElem_cons_zero, List.setIfInBounds_toArray, List.set_cons_zero, List.set_cons_succ]
  refine wpAnyH_take (i := 12) (v := ?_) rfl (by as_aux_lemma => kernel_rfl) (by as_aux_lemma => kernel_rfl) (by as_aux_lemma => kernel_rfl) (fun _ _ _ h => h) (Or.inl ⟨by rfl, ?_⟩) hS ?_
  rotate_left
  · intro w hSw; (try dsimp only at hSw); go_simp; try with_reducible rfl
  try simp only [Act.put, List.getElem_toArray, List.getElem_cons_succ, List.getElem_cons_zero, List.setIfInBounds_toArray, List.set_cons_zero, List.set_cons_succ]
  refine wpAnyH_done (by kernel_rfl) ?_ _
  have F6 := Lib.hid (show Far w w6 from ⟨hS.2.2.2.2⟩)
  have B6 := Lib.hid hS.2.2.2.1
  have O6 := Lib.hid own6
  have hl6 : n4 + n5 ≤ 1200 := by have := LL.out; have := NL.out; simp only [List.length_cons, List.length_nil] at this; omega
  clear hS own6 g6 at6 hb q hn4 hn5 O4 O5 S5 BB FR
  have cA := fun i => B6.out.cell i
  go_wp2_with fail
  refine (tensorSame_any p.input p.value A B n c m d w6 (H.out.later F6.out.out (Nat.le_refl _)) (H'.out.later F6.out.out (Nat.le_refl _))).mono ?_
  rintro e w7 ⟨rfl, hb⟩
  replace F6 := Lib.hid (F6.out.fut hb)
  replace B6 := Lib.hid (B6.out.fut hb)
  replace O6 := Lib.hid (O6.out.below hb (Nat.le_refl _) (fun _ h => h.elim))
  clear hb cA
  have BV := Lib.hid (show bodyV p = (numbersV [p.model, p.block, p.spent] ++ laidV p.input) ++ (if likeT p.input p.value = true then numbersV [0] else numbersV [1] ++ laidV p.value) from rfl)
  have zz : w.heap.size + 1 ≤ w7.heap.size := B6.out.lt
  cases hl : likeT p.input p.value with
  | true =>
    rw [hl, if_pos rfl] at BV
    have N1 := Lib.hid (fun (W : World) (g : Nat) (hb : W.heap[g]? = some (.cells #[.int .i64 0] 3 (0, 0))) => numbers_lit [0] (by simp) (by intro x hx; simp at hx; subst hx; exact ⟨by decide, by omega⟩) W g 1 _ rfl rfl hb)
    clear hl
    go_wp2_with fail
    have kb : Below w7.heap.size w7 (w7.alloc (.cells #[.int .i64 0] 3)) := (Below.refl _ _).alloc (Nat.le_refl _) _
    have z7 := kb.size
    refine (N1.out _ w7.heap.size (Blk.now w7 w7.heap.size 3 #[.int .i64 0] rfl).heap).mono ?_
    rintro e w8 ⟨v8, n8, rfl, own8, hn8, hb⟩
    have O8 := Lib.hid ((O6.out.below kb (Nat.le_refl _) (fun _ h => h.elim)).below hb (Nat.le_refl _) (fun _ h => h.elim))
    have F8 := Lib.hid ((F6.out.fut kb).fut hb)
    have z8 : w.heap.size + 1 ≤ w8.heap.size := Nat.le_trans zz (Nat.le_trans z7 hb.size)
    obtain ⟨A8, c8, rfl, sl8⟩ := own8.sl (S' := blo w8.heap.size) (by decide) (fun b h1 h2 => h2) (fun _ h => h.elim)
    have S8 := Lib.hid sl8
    have l8 := numbersV_len [(0 : Int)]
    rw [← hn8] at l8
    simp only [List.length_cons, List.length_nil] at l8
    clear sl8 hb own8 O6 F6 B6 hn8 N1 kb
    go_wp2_with (at_builtin; refine wpList_extend rfl (.tmp 50) (.tmp 52) rfl ei_u8 rfl O8.out rfl S8.out (by unfold maxLen; omega) (by omega) z8 ?_; intro vb wb ownb gb atb)
    rw [← BV.out] at ownb
    have OB := Lib.hid ownb
    have FB := Lib.hid (show Far w wb from ⟨F8.out.out.grown gb F8.out.out.size (fun k h => by have := (O8.out.lt k h).1; omega)⟩)
    have zb' : w.heap.size + 1 ≤ wb.heap.size := Nat.le_trans z8 gb.size
    clear ownb gb atb O8 F8 S8
    obtain ⟨Ab, cb, rfl, slb⟩ := OB.out.sl (S' := blo wb.heap.size) (by decide) (fun b h1 h2 => h2) (fun _ h => h.elim)
    have SB := Lib.hid slb
    clear slb
    refine (crcOf_any Ab _ cb _ wb SB.out).mono ?_
    rintro e wc ⟨rfl, hb⟩
    have OC := Lib.hid (OB.out.below hb (Nat.le_refl _) (fun _ h => h.elim))
    have FC := Lib.hid (FB.out.fut hb)
    have FCz := hb.size
    clear hb SB OB FB
    go_wp2_with fail
    refine (put32_any (crcV (bodyV p)).toNat _ (crcV (bodyV p)).isLt).mono ?_
    rintro e wd ⟨Ad, nd, cd, rfl, hsd, hb⟩
    have SD := Lib.hid hsd
    have OD := Lib.hid (OC.out.below hb (Nat.le_refl _) (fun _ h => h.elim))
    have hnd : nd ≤ 4 := by rw [← hsd.n_eq]; simp [put32V]
    have FD := Lib.hid (FC.out.fut hb)
    have zd : w.heap.size + 1 ≤ wd.heap.size := Nat.le_trans zb' (Nat.le_trans FCz hb.size)
    clear hsd hb
    go_wp2_with (at_builtin; refine wpList_extend rfl (.tmp 62) (.tmp 65) rfl ei_u8 rfl OD.out rfl SD.out (by unfold maxLen; omega) (by omega) zd ?_; intro ve we owne ge ate)
    have FE := FD.out.out.grown ge (Nat.le_of_succ_le zd) (fun k h => by have := (OD.out.lt k h).1; omega)
    obtain ⟨Ae, ce, rfl, sle⟩ := owne.sl (S' := bin w.heap.size we.heap.size) (by decide) (fun b h1 h2 => ⟨by omega, h2⟩) (fun _ h => h.elim)
    go_ret2
    rw [PV.out]
    exact ⟨⟨Ae, _, ce, rfl, sle⟩, FE⟩
  | false =>
    rw [hl, if_neg (by decide), ← List.append_assoc] at BV
    have N1 := Lib.hid (fun (W : World) (g : Nat) (hb : W.heap[g]? = some (.cells #[.int .i64 1] 3 (0, 0))) => numbers_lit [1] (by simp) (by intro x hx; simp at hx; subst hx; exact ⟨by decide, by omega⟩) W g 1 _ rfl rfl hb)
    clear hl
    have q := B6.out.drew.cell
    go_wp2_with fail
    refine wp_region_held_drew (S := fun w' => Blk w' w.heap.size 28 #[.int .i64 p.model, .int .i64 p.block, .int .i64 p.spent, .int .i64 p.input.h, .int .i64 p.input.v, .int .i64 p.input.c, .slice A n c, .int .i64 p.value.h, .int .i64 p.value.v, .int .i64 p.value.c, .slice B m d] ∧ Below w.heap.size w w') (by kernel_rfl) ?_ (fun hS => ?_)
    · exact ⟨B6.out.drew, F6.out.out.drew⟩
    refine wpAnyH_take (i := 0) (v := ?_) rfl (by as_aux_lemma => kernel_rfl) (by as_aux_lemma => kernel_rfl) (by as_aux_lemma => kernel_rfl) (fun _ _ _ h => h) (Or.inl ⟨by rfl, ?_⟩) hS ?_
    rotate_left
    · intro w hSw; (try dsimp only at hSw); go_simp; try with_reducible rfl
    try simp only [Act.put, List.getElem_toArray, List.getElem_cons_succ, List.getElem_cons_zero, List.setIfInBounds_toArray, List.set_cons_zero, List.set_cons_succ]
    refine wpAnyH_take (i := 4) (v := ?_) rfl (by as_aux_lemma => kernel_rfl) (by as_aux_lemma => kernel_rfl) (by as_aux_lemma => kernel_rfl) (fun _ _ _ h => h) (Or.inl ⟨by rfl, ?_⟩) hS ?_
    rotate_left
    · intro w hSw; (try dsimp only at hSw); go_simp; try with_reducible rfl
    try simp only [Act.put, List.getElem_toArray, List.getElem_cons_succ, List.getElem_cons_zero, List.setIfInBounds_toArray, List.set_cons_zero, List.set_cons_succ]
    refine wpAnyH_take (i := 5) rfl (by as_aux_lemma => kernel_rfl) (by as_aux_lemma => kernel_rfl) (by as_aux_lemma => kernel_rfl) (fun _ _ _ h => h) (yieldsIf_load_blk (by rfl) 26 (.tmp 58) rfl w.heap.size 7 rfl _ _ #[.int .i64 p.value.h, .int .i64 p.value.v, .int .i64 p.value.c, .slice B m d] _ (fun w hs => hs.1) Try.underlying26 rfl (by kernel_rfl) rfl) hS ?_
    try simp only [Act.put, List.getElem_toArray, List.getElem_cons_succ, List.getElem_cons_zero, List.setIfInBounds_toArray, List.set_cons_zero, List.set_cons_succ]
    refine wpAnyH_ready (rs := [1]) (by kernel_rfl) (by simp) ?_
    refine AllReadyH.cons rfl (fun K hK => ?_) AllReadyH.nil
    go_simp
    have hb : Below w7.drew.heap.size w7.drew (w7.drew.alloc (.cells #[.int .i64 1] 3)) := (Below.refl _ _).alloc (Nat.le_refl _) _; have B3 := Lib.hid (Blk.now w7.drew w7.drew.heap.size 3 #[.int .i64 1] rfl); have OX := Lib.hid ((O6.out.heap (w' := w7.drew) rfl).below hb (Nat.le_refl _) (fun _ h => h.elim)); have zx : w.heap.size + 1 ≤ (w7.drew.alloc (.cells #[.int .i64 1] 3)).heap.size := Nat.le_trans zz hb.size
    refine hK.out _ _ ?_ (fun hS => ?_)
    · exact ⟨(by first | exact cell_later hb hS.1 | exact Blk.later hS.1 hb), below_later hb hS.2⟩
    clear hK K
    try simp only [Act.put, List.getElem_toArray, List.getElem_cons_succ, List.getElem_cons_zero, List.setIfInBounds_toArray, List.set_cons_zero, List.set_cons_succ]
    refine wpAnyH_ready (rs := [2]) (by kernel_rfl) (by simp) ?_
    refine AllReadyH.cons rfl (fun K hK => ?_) AllReadyH.nil
    go_simp
    refine (N1.out _ _ B3.out.heap).mono ?_; rintro e w8 ⟨v8, n8, rfl, own8, hn8, hb⟩; have O8 := Lib.hid (OX.out.below hb (Nat.le_refl _) (fun _ h => h.elim)); have z8 : w.heap.size + 1 ≤ w8.heap.size := Nat.le_trans zx hb.size; obtain ⟨A8, c8, rfl, sl8⟩ := own8.sl (S' := blo w8.heap.size) (by decide) (fun b h1 h2 => h2) (fun _ h => h.elim); have S8 := Lib.hid sl8; have l8 := numbersV_len [(1 : Int)]; rw [← hn8] at l8; simp only [List.length_cons, List.length_nil] at l8
    refine hK.out _ _ ?_ (fun hS => ?_)
    · exact ⟨(by first | exact cell_later hb hS.1 | exact Blk.later hS.1 hb), below_later hb hS.2⟩
    clear hK K
    try simp only [Act.put, List.getElem_toArray, List.getElem_cons_succ, List.getElem_cons_zero, List.setIfInBounds_toArray, List.set_cons_zero, List.set_cons_succ]
    refine wpAnyH_ready (rs := [3]) (by kernel_rfl) (by simp) ?_
    refine AllReadyH.cons rfl (fun K hK => ?_) AllReadyH.nil
    (rw [if_pos (by rfl)]; have p8 : 0 < n8 := (by rw [hn8]; decide); obtain ⟨b8, o8, rfl, _⟩ := S8.out.int_at 0 p8; refine oper_extend (.tmp 54) (.tmp 56) rfl ei_u8 rfl O8.out rfl S8.out (by unfold maxLen; omega) (by omega) z8 ?_; intro v9 w9 own9 g9 at9; have ne0 := Lib.hid (show some w.heap.size ≠ v6.ownBlock from fun e => absurd (O8.out.lt _ e.symm).1 (by omega)); have O9 := Lib.hid own9; have z9 : w.heap.size + 1 ≤ w9.heap.size := Nat.le_trans z8 g9.size; refine hK.out _ _ ⟨hS.1.row g9 ne0.out, hS.2.grown g9 hS.2.size (fun k h => by have := (O8.out.lt k h).1; omega)⟩ (fun hS => ?_))
    clear hK K
    try simp only [Act.put, List.getElem_toArray, List.getElem_cons_succ, List.getElem_cons_zero, List.setIfInBounds_toArray, List.set_cons_zero, List.set_cons_succ]
    refine wpAnyH_ready (rs := [6]) (by kernel_rfl) (by simp) ?_
    refine AllReadyH.cons rfl (fun K hK => ?_) AllReadyH.nil
    go_simp
    refine (LJ.out _ hS.2).mono ?_; rintro e wa ⟨va, na, rfl, owna, hna, hb⟩; obtain ⟨Aa, ca, rfl, sla⟩ := owna.sl (S' := blo wa.heap.size) (by decide) (fun b h1 h2 => h2) (fun _ h => h.elim); have SA := Lib.hid sla; have OA := Lib.hid (O9.out.below hb (Nat.le_refl _) (fun _ h => h.elim)); have za : w.heap.size + 1 ≤ wa.heap.size := Nat.le_trans z9 hb.size
    refine hK.out _ _ ?_ (fun hS => ?_)
    · exact ⟨(by first | exact cell_later hb hS.1 | exact Blk.later hS.1 hb), below_later hb hS.2⟩
    clear hK K
    try simp only [Act.put, List.getElem_toArray, List.getElem_cons_succ, List.getElem_cons_zero, List.setIfInBounds_toArray, List.set_cons_zero, List.set_cons_succ]
    refine wpAnyH_ready (rs := [7]) (by kernel_rfl) (by simp) ?_
    refine AllReadyH.cons rfl (fun K hK => ?_) AllReadyH.nil
    (rw [if_pos (by rfl)]; have lk := LK.out; have lq := LQ.out; obtain ⟨ba, oa, rfl, _⟩ := SA.out.int_at 0 (by omega); refine oper_extend (.tmp 57) (.tmp 60) rfl ei_u8 rfl OA.out rfl SA.out (by unfold maxLen; omega) (by omega) za ?_; intro vb wb ownb gb atb; have ne1 := Lib.hid (show some w.heap.size ≠ v9.ownBlock from fun e => absurd (OA.out.lt _ e.symm).1 (by omega)); refine hK.out _ _ ⟨hS.1.row gb ne1.out, hS.2.grown gb hS.2.size (fun k h => by have := (OA.out.lt k h).1; omega)⟩ (fun hS => ?_))
    clear hK K
    try simp only [Act.put, List.getElem_toArray, List.getElem_cons_succ, List.getElem_cons_zero, List.setIfInBounds_toArray, List.set_cons_zero, List.set_cons_succ]
    refine wpAnyH_take (i := 8) (v := ?_) rfl (by as_aux_lemma => kernel_rfl) (by as_aux_lemma => kernel_rfl) (by as_aux_lemma => kernel_rfl) (fun _ _ _ h => h) (Or.inl ⟨by rfl, ?_⟩) hS ?_
    rotate_left
    · intro w hSw; (try dsimp only at hSw); go_simp; try with_reducible rfl
    try simp only [Act.put, List.getElem_toArray, List.getElem_cons_succ, List.getElem_cons_zero, List.setIfInBounds_toArray, List.set_cons_zero, List.set_cons_succ]
    refine wpAnyH_done (by kernel_rfl) ?_ _
    rw [← BV.out] at ownb
    have OB := Lib.hid ownb
    have FB := Lib.hid (show Far w wb from ⟨hS.2⟩)
    have zb' : w.heap.size + 1 ≤ wb.heap.size := Nat.le_trans za gb.size
    have bna : na ≤ 30 + m := by have := LK.out; omega
    have bn8 : n8 ≤ 10 := by omega
    clear hS ownb gb atb O8 S8 O9 OA SA OX B3 hb hna hn8
    go_wp2_with fail
    obtain ⟨Ab, cb, rfl, slb⟩ := OB.out.sl (S' := blo wb.heap.size) (by decide) (fun b h1 h2 => h2) (fun _ h => h.elim)
    have SB := Lib.hid slb
    clear slb
    refine (crcOf_any Ab _ cb _ wb SB.out).mono ?_
    rintro e wc ⟨rfl, hb⟩
    have OC := Lib.hid (OB.out.below hb (Nat.le_refl _) (fun _ h => h.elim))
    have FC := Lib.hid (FB.out.fut hb)
    have FCz := hb.size
    clear hb SB OB FB
    go_wp2_with fail
    refine (put32_any (crcV (bodyV p)).toNat _ (crcV (bodyV p)).isLt).mono ?_
    rintro e wd ⟨Ad, nd, cd, rfl, hsd, hb⟩
    have SD := Lib.hid hsd
    have OD := Lib.hid (OC.out.below hb (Nat.le_refl _) (fun _ h => h.elim))
    have hnd : nd ≤ 4 := by rw [← hsd.n_eq]; simp [put32V]
    have FD := Lib.hid (FC.out.fut hb)
    have zd : w.heap.size + 1 ≤ wd.heap.size := Nat.le_trans zb' (Nat.le_trans FCz hb.size)
    clear hsd hb
    go_wp2_with (at_builtin; refine wpList_extend rfl (.tmp 62) (.tmp 65) rfl ei_u8 rfl OD.out rfl SD.out (by unfold maxLen; omega) (by omega) zd ?_; intro ve we owne ge ate)
    have FE := FD.out.out.grown ge (Nat.le_of_succ_le zd) (fun k h => by have := (OD.out.lt k h).1; omega)
    obtain ⟨Ae, ce, rfl, sle⟩ := owne.sl (S' := bin w.heap.size we.heap.size) (by decide) (fun b h1 h2 => ⟨by omega, h2⟩) (fun _ h => h.elim)
    go_ret2
    rw [PV.out]
    exact ⟨⟨Ae, _, ce, rfl, sle⟩, FE⟩
end Go.Proofs.Ytanglfmolnfjeaa
