/-
  Tensors turned by quarters, and turned over (layer 23), as lists of numbers: pixels picked in another order.
  Conditions: none (plain lemmas).
-/
import Derived.Test.YtbdanfbfohikdaaRep
namespace Go.Proofs.Ytbdanfbfohikdaa
set_option linter.unusedVariables false
set_option linter.unusedSimpArgs false

/-- The numbers of one pixel. -/
def pix (l : List Int) (c p : Nat) : List Int := (l.drop (p * c)).take c
/-- So many pixels, each from a place. -/
def pick (l : List Int) (c : Nat) (f : Nat → Nat) : Nat → List Int
  | 0 => []
  | m + 1 => pick l c f m ++ pix l c (f m)
theorem pix_length {l : List Int} {c n p : Nat} (hl : l.length = n * c) (hp : p < n) : (pix l c p).length = c := by
  unfold pix
  rw [List.length_take, List.length_drop, hl]
  have : (p + 1) * c ≤ n * c := Nat.mul_le_mul_right _ hp
  rw [Nat.add_mul] at this
  omega
theorem pick_length {l : List Int} {c n : Nat} {f : Nat → Nat} (hl : l.length = n * c) (m : Nat) (hf : ∀ i, i < m → f i < n) : (pick l c f m).length = m * c := by
  induction m with
  | zero => simp [pick]
  | succ m ih =>
    rw [pick, List.length_append, ih (fun i hi => hf i (by omega)), pix_length hl (hf m (by omega)), Nat.add_mul, Nat.one_mul]
theorem pix_pick {l : List Int} {c n : Nat} {f : Nat → Nat} (hl : l.length = n * c) (m : Nat) (hf : ∀ i, i < m → f i < n) (i : Nat) (hi : i < m) : pix (pick l c f m) c i = pix l c (f i) := by
  induction m with
  | zero => omega
  | succ m ih =>
    have hm := pick_length hl m (fun i hi => hf i (by omega))
    unfold pix at *
    rw [pick]
    by_cases him : i < m
    · have : (i + 1) * c ≤ m * c := Nat.mul_le_mul_right _ him
      rw [Nat.add_mul] at this
      rw [List.drop_append_of_le_length (by rw [hm]; omega), List.take_append_of_le_length (by rw [List.length_drop, hm]; omega)]
      exact ih (fun i hi => hf i (by omega)) him
    · obtain rfl : i = m := by omega
      rw [List.drop_append, List.drop_of_length_le (by rw [hm]; exact Nat.le_refl _), hm, Nat.sub_self, List.drop_zero, List.nil_append]
      unfold pix
      rw [List.take_take, Nat.min_self]
theorem pick_congr {l : List Int} {c : Nat} {f g : Nat → Nat} (m : Nat) (h : ∀ i, i < m → f i = g i) : pick l c f m = pick l c g m := by
  induction m with
  | zero => rfl
  | succ m ih => rw [pick, pick, ih (fun i hi => h i (by omega)), h m (by omega)]
theorem pick_pick {l : List Int} {c n : Nat} {f g : Nat → Nat} (hl : l.length = n * c) (m : Nat) (hf : ∀ i, i < m → f i < n) (k : Nat) (hg : ∀ i, i < k → g i < m) : pick (pick l c f m) c g k = pick l c (fun i => f (g i)) k := by
  induction k with
  | zero => rfl
  | succ k ih => rw [pick, pick, ih (fun i hi => hg i (by omega)), pix_pick hl m hf _ (hg k (Nat.lt_succ_self k))]
theorem pick_id' {l : List Int} {c : Nat} (m : Nat) (h : m * c ≤ l.length) : pick l c (fun i => i) m = l.take (m * c) := by
  induction m with
  | zero => simp [pick]
  | succ m ih =>
    rw [Nat.add_mul, Nat.one_mul] at h
    rw [pick, ih (by omega)]
    unfold pix
    rw [Nat.add_mul, Nat.one_mul, List.take_add]
theorem pick_id {l : List Int} {c n : Nat} {f : Nat → Nat} (hl : l.length = n * c) (hf : ∀ i, i < n → f i = i) : pick l c f n = l := by
  rw [pick_congr (g := fun i => i) n hf, pick_id' n (by omega), List.take_of_length_le (by omega)]

/-- Where the pixels of a turned picture of H rows and W columns came from. -/
def qOnce (H W i : Nat) : Nat := (i % H) * W + (W - 1 - i / H)
def qOver (H W i : Nat) : Nat := (i / W) * W + (W - 1 - i % W)
def qTwo (H W i : Nat) : Nat := (H - 1 - i / W) * W + (W - 1 - i % W)
def qThree (H W i : Nat) : Nat := (H - 1 - i % H) * W + i / H

theorem div_lt' {i a b : Nat} (h : i < a * b) : i / b < a := Nat.div_lt_of_lt_mul (by rw [Nat.mul_comm]; exact h)
theorem pos_of_lt {i a b : Nat} (h : i < a * b) : 0 < a ∧ 0 < b := by
  constructor
  · exact Nat.pos_of_ne_zero fun e => by subst e; simp at h
  · exact Nat.pos_of_ne_zero fun e => by subst e; simp at h
theorem sub_lt' {W q : Nat} (h : 0 < W) : W - 1 - q < W := by omega
theorem sub_sub' {W q : Nat} (h : q < W) : W - 1 - (W - 1 - q) = q := by omega
theorem at_lt {x y H W : Nat} (h1 : x < H) (h2 : y < W) : x * W + y < H * W := by
  have : (x + 1) * W ≤ H * W := Nat.mul_le_mul_right _ h1
  rw [Nat.add_mul] at this
  omega
theorem at_div {x y W : Nat} (h : y < W) : (x * W + y) / W = x := by
  rw [Nat.mul_comm, Nat.mul_add_div (by omega), Nat.div_eq_of_lt h, Nat.add_zero]
theorem at_mod {x y W : Nat} (h : y < W) : (x * W + y) % W = y := by
  rw [Nat.mul_comm, Nat.mul_add_mod, Nat.mod_eq_of_lt h]
theorem at_self {i W : Nat} : i / W * W + i % W = i := by rw [Nat.mul_comm]; exact Nat.div_add_mod i W
theorem qOnce_lt {H W i : Nat} (h : i < W * H) : qOnce H W i < H * W := by
  have hp := pos_of_lt h
  have h1 := div_lt' h
  have h2 := Nat.mod_lt i hp.2
  unfold qOnce
  exact at_lt h2 (sub_lt' hp.1)
theorem qOver_lt {H W i : Nat} (h : i < H * W) : qOver H W i < H * W := by
  have hp := pos_of_lt h
  have h2 := Nat.mod_lt i hp.2
  unfold qOver
  exact at_lt (div_lt' h) (sub_lt' hp.2)
theorem qTwo_lt {H W i : Nat} (h : i < H * W) : qTwo H W i < H * W := by
  have hp := pos_of_lt h
  unfold qTwo
  exact at_lt (sub_lt' hp.1) (sub_lt' hp.2)
theorem qThree_lt {H W i : Nat} (h : i < W * H) : qThree H W i < H * W := by
  have hp := pos_of_lt h
  unfold qThree
  exact at_lt (sub_lt' hp.2) (div_lt' h)
theorem qOnce_once {H W i : Nat} (h : i < H * W) : qOnce H W (qOnce W H i) = qTwo H W i := by
  have hp := pos_of_lt h
  have h1 := div_lt' h
  have h2 := Nat.mod_lt i hp.2
  have hy : H - 1 - i / W < H := sub_lt' hp.1
  unfold qTwo qOnce
  rw [at_mod hy, at_div hy]
theorem qTwo_once {H W i : Nat} (h : i < W * H) : qTwo H W (qOnce H W i) = qThree H W i := by
  have hp := pos_of_lt h
  have h1 := div_lt' h
  have h2 := Nat.mod_lt i hp.2
  have hy : W - 1 - i / H < W := sub_lt' hp.1
  unfold qTwo qThree
  unfold qOnce
  rw [at_mod hy, at_div hy]
  rw [sub_sub' h1]
theorem qThree_once {H W i : Nat} (h : i < H * W) : qThree H W (qOnce W H i) = i := by
  have hp := pos_of_lt h
  have h1 := div_lt' h
  have h2 := Nat.mod_lt i hp.2
  have hy : H - 1 - i / W < H := sub_lt' hp.1
  unfold qThree qOnce
  rw [at_mod hy, at_div hy]
  rw [sub_sub' h1, at_self]
theorem qOver_over {H W i : Nat} (h : i < H * W) : qOver H W (qOver H W i) = i := by
  have hp := pos_of_lt h
  have h2 := Nat.mod_lt i hp.2
  have hy : W - 1 - i % W < W := sub_lt' hp.2
  unfold qOver
  rw [at_mod hy, at_div hy]
  rw [sub_sub' h2, at_self]

/-- A picture: rows, columns, numbers a pixel, the numbers. -/
structure Pic where
  H : Nat
  W : Nat
  C : Nat
  l : List Int
def Pic.ok (p : Pic) : Prop := p.l.length = p.H * p.W * p.C
def once (p : Pic) : Pic := ⟨p.W, p.H, p.C, pick p.l p.C (qOnce p.H p.W) (p.W * p.H)⟩
def over (p : Pic) : Pic := ⟨p.H, p.W, p.C, pick p.l p.C (qOver p.H p.W) (p.H * p.W)⟩
def times (p : Pic) : Nat → Pic
  | 0 => p
  | n + 1 => once (times p n)
theorem once_ok {p : Pic} (h : p.ok) : (once p).ok := pick_length (n := p.H * p.W) h _ fun i hi => qOnce_lt hi
theorem over_ok {p : Pic} (h : p.ok) : (over p).ok := pick_length (n := p.H * p.W) h _ fun i hi => qOver_lt hi
theorem times_ok {p : Pic} (h : p.ok) (n : Nat) : (times p n).ok := by
  induction n with
  | zero => exact h
  | succ n ih => exact once_ok ih
theorem times_two {p : Pic} (h : p.ok) : times p 2 = ⟨p.H, p.W, p.C, pick p.l p.C (qTwo p.H p.W) (p.H * p.W)⟩ := by
  show once (once p) = _
  unfold once
  simp only
  rw [pick_pick (n := p.H * p.W) h _ (fun i hi => qOnce_lt hi) _ (fun i hi => qOnce_lt hi), pick_congr _ fun i hi => qOnce_once hi]
theorem times_three {p : Pic} (h : p.ok) : times p 3 = ⟨p.W, p.H, p.C, pick p.l p.C (qThree p.H p.W) (p.W * p.H)⟩ := by
  show once (times p 2) = _
  rw [times_two h]
  unfold once
  simp only
  rw [pick_pick (n := p.H * p.W) h _ (fun i hi => qTwo_lt hi) _ (fun i hi => qOnce_lt hi), pick_congr _ fun i hi => qTwo_once hi]
theorem times_four {p : Pic} (h : p.ok) : times p 4 = p := by
  show once (times p 3) = _
  rw [times_three h]
  unfold once
  simp only
  rw [pick_pick (n := p.H * p.W) h _ (fun i hi => qThree_lt hi) _ (fun i hi => qOnce_lt hi), pick_id (n := p.H * p.W) h fun i hi => qThree_once hi]
theorem over_over {p : Pic} (h : p.ok) : over (over p) = p := by
  unfold over
  simp only
  rw [pick_pick (n := p.H * p.W) h _ (fun i hi => qOver_lt hi) _ (fun i hi => qOver_lt hi), pick_id (n := p.H * p.W) h fun i hi => qOver_over hi]
theorem times_add (p : Pic) (m n : Nat) : times (times p m) n = times p (m + n) := by
  induction n with
  | zero => rfl
  | succ n ih => rw [times, ih]; rfl
theorem times_mod {p : Pic} (h : p.ok) (n : Nat) : times p n = times p (n % 4) := by
  induction n using Nat.strongRecOn with
  | _ n ih =>
    by_cases hn : n < 4
    · rw [Nat.mod_eq_of_lt hn]
    · have e : n = 4 + (n - 4) := by omega
      rw [e, ← times_add, times_four h, ih (n - 4) (by omega), Nat.add_mod_left]
/-- A number of quarters, from 0 to 3. -/
def quarterV (n : Int) : Nat := (n % 4).toNat
theorem quarterV_lt (n : Int) : quarterV n < 4 := by unfold quarterV; omega
def byV (p : Pic) (n : Int) : Pic := times p (quarterV n)
theorem byV_ok {p : Pic} (h : p.ok) (n : Int) : (byV p n).ok := times_ok h _
theorem byV_byV {p : Pic} (h : p.ok) (a b : Int) : byV (byV p a) b = byV p (a + b) := by
  unfold byV
  rw [times_add, times_mod h]
  congr 1
  unfold quarterV
  omega
theorem byV_four {p : Pic} (a : Int) : byV p (4 * a) = p := by
  unfold byV
  have : quarterV (4 * a) = 0 := by unfold quarterV; omega
  rw [this]; rfl
theorem byV_back {p : Pic} (h : p.ok) (i : Int) : byV (byV p i) (-i) = p := by
  rw [byV_byV h]
  have : i + -i = 4 * 0 := by omega
  rw [this, byV_four]
end Go.Proofs.Ytbdanfbfohikdaa
