/-
  rank.Order and Margin, the program's (layer 22): the sort by its contract.
  Conditions: at most 2^40 numbers.
-/
import Derived.Test.YtlbijkafcododaaChecked
import Derived.Test.YtlbijkafcododaaRankB
import Derived.Test.YtlbijkafcododaaStabF
namespace Go.Proofs.Ytlbijkafcododaa
set_option linter.unusedVariables false
set_option linter.unusedSimpArgs false
open Go.RowKit Go.ChangeShapes Go.WideShapes Go.Shelf Go.Lib Go.Sort Go.Proofs.Ytlbijkafcododaa.Rk Go.Proofs.Ytlbijkafcododaa.Sta
set_option maxRecDepth 100000

def ordI (l : List Int) : List Int := (refOrder l).map fun i : Nat => (i : Int)

def cmpI (x y : Int) : Int := if x < y then -1 else if y < x then 1 else 0

theorem isNaN32_any (x : Int) (w : World) : Calls Try.prog 130 #[.int .i32 x] w fun e w' => e = .returned (.bool false) ∧ w = w' := by
  have h : (x != x) = false := by simp
  go_enter Try.func130, Try.ntmps130
  go_wp2_with fail
  go_ret
  exact ⟨rfl, rfl⟩

theorem compare32_any (x y : Int) (w : World) : Calls Try.prog 86 #[.int .i32 x, .int .i32 y] w fun e w' => e = .returned (.int .i64 (cmpI x y)) ∧ w = w' := by
  by_cases h1 : x < y
  · have t1 : decide (x < y) = true := by simp; exact h1
    have HC := Lib.hid (show (-1 : Int) = cmpI x y by unfold cmpI; rw [if_pos h1])
    clear h1
    go_enter Try.func86, Try.ntmps86
    go_wp2_with (go_at_call 130; refine (isNaN32_any _ _).mono ?_; rintro e w' ⟨rfl, rfl⟩)
    go_ret
    exact ⟨ret_int HC.out, rfl⟩
  · have t1 : decide (x < y) = false := by simp; omega
    by_cases h2 : y < x
    · have t2 : decide (y < x) = true := by simp; exact h2
      have HC := Lib.hid (show (1 : Int) = cmpI x y by unfold cmpI; rw [if_neg h1, if_pos h2])
      clear h1 h2
      go_enter Try.func86, Try.ntmps86
      go_wp2_with (go_at_call 130; refine (isNaN32_any _ _).mono ?_; rintro e w' ⟨rfl, rfl⟩)
      go_ret
      exact ⟨ret_int HC.out, rfl⟩
    · have t2 : decide (y < x) = false := by simp; omega
      have HC := Lib.hid (show (0 : Int) = cmpI x y by unfold cmpI; rw [if_neg h1, if_neg h2])
      clear h1 h2
      go_enter Try.func86, Try.ntmps86
      go_wp2_with (go_at_call 130; refine (isNaN32_any _ _).mono ?_; rintro e w' ⟨rfl, rfl⟩)
      go_ret
      exact ⟨ret_int HC.out, rfl⟩

theorem order1_any (A : Option Addr) (n cap : Nat) (l : List Int) (x y b0 : Nat) (S : Nat → Prop) (w : World) (h : Sl (tInt .i32) w S A n cap l) (hx : x < n) (hy : y < n) (hc : w.cell? ⟨b0, 0, none⟩ = some (.slice A n cap)) :
    Calls Try.prog 85 #[.int .i64 x, .int .i64 y, .pointer (some ⟨b0, 0, none⟩)] w fun e w' => e = .returned (.int .i64 (cmpI (l.getD y 0) (l.getD x 0))) ∧ ∃ q, w' = w.drewN q := by
  have hm : n ≤ 9223372036854775807 := Nat.le_trans h.cap_le h.max_le
  obtain ⟨b, off, rfl, _, _, c0, i0⟩ := h.int_at x hx
  obtain ⟨b', off', hA, _, _, c1, i1⟩ := h.int_at y hy
  cases hA
  have px : (x : Int) < (n : Int) := by omega
  have py : (y : Int) < (n : Int) := by omega
  clear h i0 i1
  generalize l.getD x 0 = u at *
  generalize l.getD y 0 = v at *
  go_enter Try.func85, Try.ntmps85
  go_wp2_with fail
  go_quiet ((go_at_call 86; exact Calls.quiet_of_same ((compare32_any _ _ _).mono fun _ _ h => ⟨h.1, h.2.symm⟩)))
  go_wp2_with fail
  go_ret
  exact ⟨rfl, _, rfl⟩

theorem Sl.of_holds {α : Type} [Inhabited α] {k : IntKind} {w : World} {S : Nat → Prop} {g n cap : Nat} {d : Array α} (f : α → Int) (h : Holds (fun x => .int k (f x)) w g 0 d) (hS : S g) (hn : d.size = n) (h1 : n ≤ cap) (h2 : cap ≤ maxLen) (hk : ∀ x, InK k (f x)) :
    Sl (tInt k) w S (some ⟨g, 0, none⟩) n cap (d.toList.map f) := by
  refine ⟨by simp [hn], h1, h2, (fun h => by cases h), fun i x hx => ?_⟩
  rw [List.getElem?_map] at hx
  cases hd : d.toList[i]? with
  | none => rw [hd] at hx; cases hx
  | some y =>
    rw [hd] at hx
    simp only [Option.map_some, Option.some.injEq] at hx
    subst hx
    have hi : i < d.size := by have := (List.getElem?_eq_some_iff.1 hd).1; simpa using this
    have he : d[i]! = y := by
      rw [getElem!_pos _ i hi]
      have := (List.getElem?_eq_some_iff.1 hd).2
      simpa using this
    refine ⟨_, [.int k (f y)], rfl, hS, ⟨rfl, hk y⟩, fun j v hv => ?_⟩
    have hj : j = 0 := by
      have := (List.getElem?_eq_some_iff.1 hv).1
      simp at this; exact this
    subst hj
    simp only [List.getElem?_cons_zero, Option.some.injEq] at hv
    subst hv
    have hadd : (⟨g, 0, none⟩ : Addr).add (i * (tInt k).size + 0) = ⟨g, 0 + i, none⟩ := by
      show (⟨g, 0, none⟩ : Addr).add (i * 1 + 0) = _
      unfold Addr.add; split <;> simp_all
    rw [hadd, (h i hi).1, he]

/-! the order as places -/
def encF (m : Nat) (x : Fin (m + 1)) : Value := .int .i64 (x.val : Int)
def rowF (m : Nat) : Array (Fin (m + 1)) := Array.ofFn fun i => i
def aheadF (l : List Int) (m : Nat) (x y : Fin (m + 1)) : Bool := Rk.ahead l x.val y.val
def cmpF (l : List Int) (m : Nat) (x y : Fin (m + 1)) : Int := cmpI (l.getD y.val 0) (l.getD x.val 0)
theorem rowF_size (m : Nat) : (rowF m).size = m + 1 := by simp [rowF]
theorem rowF_at (m p : Nat) (h : p < m + 1) : (rowF m)[p]! = ⟨p, h⟩ := by
  rw [getElem!_pos _ p (by rw [rowF_size]; exact h)]; simp [rowF]
theorem ltF (l : List Int) (m : Nat) (x y : Fin (m + 1)) : ltOf (cmpF l m) x y = decide (l.getD y.val 0 < l.getD x.val 0) := by
  show decide (cmpF l m x y < 0) = _
  unfold cmpF cmpI
  by_cases h : l.getD y.val 0 < l.getD x.val 0
  · rw [if_pos h, decide_eq_true h]; rfl
  · rw [if_neg h, decide_eq_false h]
    split <;> rfl
theorem agreeF (l : List Int) (m p q : Nat) (h1 : p < q) (h2 : q < m + 1) : Agree (ltOf (cmpF l m)) (aheadF l m) (rowF m)[q]! (rowF m)[p]! := by
  rw [rowF_at m q h2, rowF_at m p (by omega)]
  unfold Agree aheadF
  rw [ltF]
  constructor
  · rw [Bool.eq_iff_iff, ahead_iff]; simp; omega
  · intro h
    rw [Bool.eq_false_iff] at h
    simp only [ne_eq, ahead_iff] at h
    rw [ahead_iff]
    simp only at *
    omega
theorem order_of_loc {l : List Int} {m : Nat} (hl : l.length = m + 1) {d' : Array (Fin (m + 1))} (h : Sta.Loc (aheadF l m) (rowF m) 0 (m + 1) d') (hz : d'.size = m + 1) : IsOrder l (d'.toList.map Fin.val) := by
  have hp := (by rw [rowF_size]; exact h : Sta.Loc (aheadF l m) (rowF m) 0 (rowF m).size d').perm_whole (by rw [rowF_size]; exact hz)
  refine ⟨?_, ?_⟩
  · have := hp.map Fin.val
    refine this.trans ?_
    have e : (rowF m).toList.map Fin.val = List.range l.length := by
      apply List.ext_getElem
      · simp [rowF, hl]
      · intro i h1 h2; simp only [rowF, List.getElem_map, Array.getElem_toList, Array.getElem_ofFn, List.getElem_range]
    rw [e]
  · rw [List.pairwise_iff_getElem]
    intro i j hi hj hij
    simp only [List.length_map, Array.length_toList] at hi hj
    have := h.asc i j (Nat.zero_le _) hij (by rw [← hz]; exact hj)
    rw [getElem!_pos d' i hi, getElem!_pos d' j hj] at this
    simpa [aheadF] using this

theorem cell_sortWorld {α : Type} [Inhabited α] (enc : α → Value) (w : World) (blk off m : Nat) (dk : Array α) (os : Array Obj) (p : Addr) (h1 : p.block ≠ blk) (h2 : p.block < w.heap.size) : (sortWorld enc w blk off m dk os).cell? p = w.cell? p := by
  unfold sortWorld
  rw [cell?_grow _ _ _ (by rw [size_putRow]; exact h2)]
  have e : (putRow enc (Sort.ahead w m) blk off dk).heap[p.block]? = w.heap[p.block]? := by
    simp only [putRow, mapBlock, Array.getElem?_modify]
    rw [if_neg (fun e => h1 e.symm)]; rfl
  unfold World.cell?
  rw [e]

theorem heap_sortWorld {α : Type} [Inhabited α] (enc : α → Value) (w : World) (blk off m : Nat) (dk : Array α) (os : Array Obj) (b : Nat) (h1 : b ≠ blk) (h2 : b < w.heap.size) : (sortWorld enc w blk off m dk os).heap[b]? = w.heap[b]? := by
  unfold sortWorld
  show ((putRow enc (Sort.ahead w m) blk off dk).heap ++ os)[b]? = _
  have hs : (putRow enc (Sort.ahead w m) blk off dk).heap.size = w.heap.size := size_putRow _ _ _ _ _
  rw [Array.getElem?_append_left (by rw [hs]; exact h2)]
  simp only [putRow, mapBlock, Array.getElem?_modify]
  rw [if_neg (fun e => h1 e.symm)]; rfl

theorem grown_sortWorld {α : Type} [Inhabited α] (enc : α → Value) (w : World) (blk off m : Nat) (dk : Array α) (os : Array Obj) : w.grownBy (sortWorld enc w blk off m dk os) (some blk) := by
  refine ⟨rfl, rfl, rfl, ?_, fun k hk hne => heap_sortWorld enc w blk off m dk os k (fun e => hne (by rw [e])) hk⟩
  unfold sortWorld; rw [size_grow, size_putRow]
  exact Nat.le_add_right _ _

theorem Sl.heap {α : Type} {t : Ty α} {w w' : World} {S : Nat → Prop} {A : Option Addr} {n cap : Nat} {l : List α} (h : Sl t w S A n cap l) (he : ∀ b, S b → w'.heap[b]? = w.heap[b]?) : Sl t w' S A n cap l := h.keep he

/-- The sort of the places, by what stands at them. -/
theorem sortPlaces_any (A : Option Addr) (n cap : Nat) (l : List Int) (b0 g c : Nat) (w : World) (h : Sl (tInt .i32) w (fun b => b < b0) A n cap l) (h0 : 0 < n) (hb0 : b0 < w.heap.size) (hg : b0 < g) (hg2 : g < w.heap.size) (hn : n ≤ 1099511627776) (hnc : n ≤ c) (hc2 : c ≤ maxLen)
    (hc : w.cell? ⟨b0, 0, none⟩ = some (.slice A n cap)) (hrow : ∀ i, i < n → w.cell? ⟨g, 0 + i, none⟩ = some (.int .i64 i) ∧ w.frozen? ⟨g, 0 + i, none⟩ = false) :
    Calls Try.prog 84 #[.slice (some ⟨g, 0, none⟩) n c, .func (.func 85) #[] #[.pointer (some ⟨b0, 0, none⟩)]] w fun e w' => e = .returned (.tuple #[]) ∧ w.grownBy w' (some g) ∧
      Sl (tInt .i64) w' (fun b => b = g) (some ⟨g, 0, none⟩) n c (ordI l) := by
  obtain ⟨m, rfl⟩ : ∃ m, n = m + 1 := ⟨n - 1, by omega⟩
  have hl := h.n_eq
  have hH : Holds (encF m) w g 0 (rowF m) := by
    intro j hj
    rw [rowF_size] at hj
    rw [rowF_at m j hj]
    exact hrow j hj
  have eg : ∀ args w, (callFunc 85 args).run Try.prog w = .ok (.enter 85 args) w := enters_of Try.func85 (by kernel_rfl) rfl
  have hO : OneCell (encF m) := fun _ => rfl
  have hcmp : CmpReads Try.prog 85 #[.pointer (some ⟨b0, 0, none⟩)] (encF m) (cmpF l m) g 0 (rowF m).size w := by
    intro k os dk hs x y
    exact order1_any A (m + 1) cap l x.val y.val b0 (fun b => b < b0) _ (h.heap fun b hb => heap_sortWorld _ _ _ _ _ _ _ b (by omega) (by omega)) x.2 y.2 (by rw [cell_sortWorld _ _ _ _ _ _ _ _ (show b0 ≠ g by omega) hb0]; exact hc)
  have hs := sortStable_s (encF m) (cmpF l m) (aheadF l m) (fun x y z h1 h2 => ahead_trans h1 h2) (fun x y h1 => ahead_asymm h1) 85 #[.pointer (some ⟨b0, 0, none⟩)] g 0 c (rowF m) w eg hcmp.lays ⟨hO, hH, hg2⟩ (by rw [rowF_size]; omega) (fun p q h1 h2 => agreeF l m p q h1 (by rw [rowF_size] at h2; exact h2))
  rw [rowF_size] at hs
  refine hs.mono ?_
  rintro e w' ⟨he, d', h1, h2, h3⟩
  refine ⟨he, ?_, ?_⟩
  · obtain ⟨k, os, rfl⟩ := h3
    exact grown_sortWorld _ _ _ _ _ _ _
  · have hd := h3.holds hg2 hH (by rw [rowF_size]; exact h2)
    unfold ordI
    rw [(order_of_loc hl h1 h2).eq, List.map_map]
    exact Sl.of_holds (fun x : Fin (m + 1) => ((x.val : Nat) : Int)) hd rfl h2 hnc hc2 (fun x => by rw [inK_i64]; have := x.2; omega)
end Go.Proofs.Ytlbijkafcododaa
