/-
  Room (layer 28): arena.free: the taken places in order, and the least free one.
  Conditions: at most 2^40 places; places within 2^40.
-/
import Derived.Test.YtcbjikopmlaapaaChecked
import Derived.Test.YtcbjikopmlaapaaArD
import Derived.Test.YtcbjikopmlaapaaLaySort
import Derived.WalkMore
namespace Go.Proofs.Ytcbjikopmlaapaa
set_option linter.unusedVariables false
set_option linter.unusedSimpArgs false
open Go.RowKit Go.ChangeShapes Go.WideShapes Go.Shelf Go.Lib Go.Sort Go.Proofs.Ytcbjikopmlaapaa.Ar
set_option maxRecDepth 100000

def cmpJ (x y : Int) : Int := if x < y then -1 else if y < x then 1 else 0
def tTaken : Ty (Int × Int) := tPair (tInt .i64) (tInt .i64)
def encT (x : Int × Int) : List Value := [.int .i64 x.1, .int .i64 x.2]
def cmpT (x y : Int × Int) : Int := cmpJ x.1 y.1
theorem ltT (x y : Int × Int) : ltOf cmpT x y = decide (x.1 < y.1) := by
  show decide (cmpT x y < 0) = _
  unfold cmpT cmpJ
  by_cases h : x.1 < y.1
  · rw [if_pos h, decide_eq_true h]; rfl
  · rw [if_neg h, decide_eq_false h]
    split <;> rfl
theorem swoT : SWO (ltOf cmpT) where
  irrefl := fun x => by rw [ltT]; simp
  trans := fun x y z h1 h2 => by rw [ltT] at *; simp at *; omega
  ntrans := fun x y z h1 h2 => by rw [ltT] at *; simp at *; omega

theorem isNaN64_any (x : Int) (w : World) : Calls Try.prog 50 #[.int .i64 x] w fun e w' => e = .returned (.bool false) ∧ w = w' := by
  have h : (x != x) = false := by simp
  go_enter Try.func50, Try.ntmps50
  go_wp2_with fail
  go_ret
  exact ⟨rfl, rfl⟩

theorem compare64_any (x y : Int) (w : World) : Calls Try.prog 33 #[.int .i64 x, .int .i64 y] w fun e w' => e = .returned (.int .i64 (cmpJ x y)) ∧ w = w' := by
  by_cases h1 : x < y
  · have t1 : decide (x < y) = true := by simp; exact h1
    have HC := Lib.hid (show (-1 : Int) = cmpJ x y by unfold cmpJ; rw [if_pos h1])
    clear h1
    go_enter Try.func33, Try.ntmps33
    go_wp2_with (go_at_call 50; refine (isNaN64_any _ _).mono ?_; rintro e w' ⟨rfl, rfl⟩)
    go_ret
    exact ⟨ret_int HC.out, rfl⟩
  · have t1 : decide (x < y) = false := by simp; omega
    by_cases h2 : y < x
    · have t2 : decide (y < x) = true := by simp; exact h2
      have HC := Lib.hid (show (1 : Int) = cmpJ x y by unfold cmpJ; rw [if_neg h1, if_pos h2])
      clear h1 h2
      go_enter Try.func33, Try.ntmps33
      go_wp2_with (go_at_call 50; refine (isNaN64_any _ _).mono ?_; rintro e w' ⟨rfl, rfl⟩)
      go_ret
      exact ⟨ret_int HC.out, rfl⟩
    · have t2 : decide (y < x) = false := by simp; omega
      have HC := Lib.hid (show (0 : Int) = cmpJ x y by unfold cmpJ; rw [if_neg h1, if_neg h2])
      clear h1 h2
      go_enter Try.func33, Try.ntmps33
      go_wp2_with (go_at_call 50; refine (isNaN64_any _ _).mono ?_; rintro e w' ⟨rfl, rfl⟩)
      go_ret
      exact ⟨ret_int HC.out, rfl⟩

theorem free1_any (x y : Int × Int) (w : World) : Calls Try.prog 32 #[.agg #[.int .i64 x.1, .int .i64 x.2], .agg #[.int .i64 y.1, .int .i64 y.2]] w fun e w' => e = .returned (.int .i64 (cmpT x y)) ∧ ∃ q os, w' = grow (w.drewN q) os := by
  obtain ⟨w1, hw1⟩ : ∃ w1, w.alloc (.cells #[.int .i64 x.1, .int .i64 x.2] 58) = w1 := ⟨_, rfl⟩
  obtain ⟨w2, hw2⟩ : ∃ w2, w1.alloc (.cells #[.int .i64 y.1, .int .i64 y.2] 58) = w2 := ⟨_, rfl⟩
  have G := Lib.hid (show w2 = grow (w.drewN 0) #[.cells #[.int .i64 x.1, .int .i64 x.2] 58, .cells #[.int .i64 y.1, .int .i64 y.2] 58] by
    rw [← hw2, ← hw1, alloc_eq_grow, alloc_eq_grow, grow_grow]; rfl)
  have bA : Blk w2 w.heap.size 58 #[.int .i64 x.1, .int .i64 x.2] := by rw [← hw2, ← hw1]; exact (Blk.now _ _ _ _ rfl).past _
  have bB : Blk w2 w1.heap.size 58 #[.int .i64 y.1, .int .i64 y.2] := by rw [← hw2]; exact Blk.now _ _ _ _ rfl
  have cA := fun i => bA.cell i
  have cB := fun i => bB.cell i
  have CM := Lib.hid (fun w => compare64_any x.1 y.1 w)
  clear bA bB
  unfold cmpT
  go_enter Try.func32, Try.ntmps32
  go_wp2_with fail
  refine (CM.out _).mono ?_
  rintro e w' ⟨rfl, rfl⟩
  go_wp2_with fail
  go_ret
  exact ⟨rfl, 0, _, G.out⟩

/-- A row of pairs, cell by cell. -/
theorem row_cells {w : World} {base m g c : Nat} {l : List (Int × Int)} {E : TypeId} (h : Own tTaken w (fun _ => False) base E (.slice (some ⟨g, 0, none⟩) m c) m l) : HoldsK encT 2 w g 0 l.toArray := by
  obtain ⟨vs, h1, h2⟩ := h.out
  have hlen := h2.len
  intro j hj
  rw [size_flatK] at hj
  have hj' : j < l.length * 2 := by simpa using hj
  refine ⟨?_, ?_⟩
  · rw [get_flatK _ _ _ _ (by simpa using hj')]
    have hi : j / 2 < l.length := by omega
    obtain ⟨xs, ⟨a, b, rfl, ⟨rfl, _⟩, ⟨rfl, _⟩⟩, h4⟩ := h2.at_ (j / 2) l[j / 2] (List.getElem?_eq_getElem hi)
    have hm : l.length = m := h.length (by decide)
    rw [Nat.zero_add, h1.cellAt j (by rw [← hm]; show j < l.length * 2; omega)]
    have e : l.toArray[j / 2]! = l[j / 2] := by rw [getElem!_pos _ _ (by simpa using hi)]; simp
    show vs[j]? = some ((encT l.toArray[j / 2]!)[j % 2]!)
    rw [e]
    have h5 := h4 (j % 2)
    have e2 : j / 2 * tTaken.size + j % 2 = j := by show j / 2 * 2 + j % 2 = j; omega
    rw [e2] at h5
    rcases Nat.mod_two_eq_zero_or_one j with h0 | h0
    · rw [h0] at h5 ⊢; exact h5 _ rfl
    · rw [h0] at h5 ⊢; exact h5 _ rfl
  · rw [Nat.zero_add]; exact h1.frozenAt j

theorem cells_row {w : World} {g : Nat} {d : Array (Int × Int)} (h : HoldsK encT 2 w g 0 d) (k : Nat) (hk : k < d.size) :
    w.cell? ⟨g, k * 2, none⟩ = some (.int .i64 (d.toList.getD k (0, 0)).1) ∧ w.cell? ⟨g, k * 2 + 1, none⟩ = some (.int .i64 (d.toList.getD k (0, 0)).2) := by
  have e : d[k]! = d.toList.getD k (0, 0) := by
    rw [getElem!_pos d k hk, List.getD_eq_getElem?_getD, List.getElem?_eq_getElem (by simpa using hk)]; simp
  have h0 := (h (k * 2) (by rw [size_flatK]; omega)).1
  have h1 := (h (k * 2 + 1) (by rw [size_flatK]; omega)).1
  rw [get_flatK _ _ _ _ (by omega), Nat.zero_add] at h0 h1
  rw [show k * 2 / 2 = k by omega, show k * 2 % 2 = 0 by omega, e] at h0
  rw [show (k * 2 + 1) / 2 = k by omega, show (k * 2 + 1) % 2 = 1 by omega, e] at h1
  exact ⟨h0, h1⟩

theorem heap_sortWorldK (w : World) (g n : Nat) (dk : Array (Int × Int)) (os : Array Obj) : w.grownBy (sortWorldK encT 2 w g 0 n dk os) (some g) := by
  have hs : (putRowK encT 2 (Sort.ahead w n) g 0 dk).heap.size = w.heap.size := by
    unfold putRowK; simp [putRow, mapBlock]
  refine ⟨rfl, rfl, rfl, ?_, fun k hk hne => ?_⟩
  · show w.heap.size ≤ ((putRowK encT 2 (Sort.ahead w n) g 0 dk).heap ++ os).size
    rw [Array.size_append, hs]; omega
  · show ((putRowK encT 2 (Sort.ahead w n) g 0 dk).heap ++ os)[k]? = _
    rw [Array.getElem?_append_left (by rw [hs]; exact hk)]
    unfold putRowK
    simp only [putRow, mapBlock, Array.getElem?_modify]
    rw [if_neg (fun e => hne (by rw [e]))]
    rfl

set_option maxHeartbeats 1000000 in
theorem free_any (g c m base : Nat) (l : List (Int × Int)) (n : Int) (w : World) (own : Own tTaken w (fun _ => False) base 58 (.slice (some ⟨g, 0, none⟩) m c) m l) (hn : 0 < n ∧ n ≤ 1048576)
    (hb : ∀ x ∈ l, 0 ≤ x.1 ∧ x.1 ≤ 1099511627776 ∧ 0 ≤ x.2 ∧ x.2 ≤ 1099511627776) (hm : m ≤ 1099511627776) :
    Calls Try.prog 21 #[.slice (some ⟨g, 0, none⟩) m c, .int .i64 n] w fun e w' => ∃ r, e = .returned (.int .i64 r) ∧ LeastFree l n r ∧ w.grownBy w' (some g) := by
  have hlen := own.length (by decide)
  have hH := row_cells own
  have hg := (own.lt g rfl).2
  have eg : ∀ args w, (callFunc 32 args).run Try.prog w = .ok (.enter 32 args) w := enters_of Try.func32 (by kernel_rfl) rfl
  have hs : l.toArray.size = m := by simpa using hlen
  have hso := AnyQ.slices_SortFunc Try.lSrt 2 (fun w => by kernel_rfl) (fun w => by kernel_rfl) encT (fun _ => rfl) (fun x v hv => by simp only [encT, List.mem_cons, List.not_mem_nil, or_false] at hv; rcases hv with rfl | rfl <;> rfl) cmpT swoT 32 #[] g 0 c l.toArray w eg
    (fun k os dk hsz x y => free1_any x y _) hH hg (by rw [hs]; omega)
  rw [hs] at hso
  change Calls Try.prog 31 _ _ _ at hso
  have SO := Lib.hid hso
  have HB := Lib.hid hb
  have HH := Lib.hid hH
  have HS := Lib.hid hs
  clear hso hb hlen hH own eg hs
  go_enter Try.func21, Try.ntmps21
  go_wp2_with fail
  go_step3
  go_wp2_with fail
  refine SO.out.mono ?_
  rintro e w1 ⟨rfl, d, k, os, hp, hsd, hw1⟩
  have hd : d.size = m := by rw [hp.1, HS.out]
  have hH1 : HoldsK encT 2 w1 g 0 d := by rw [hw1]; exact holdsK_sortWorldK encT 2 w g 0 k l.toArray d os hg HH.out hp.1
  have hG : w.grownBy w1 (some g) := by rw [hw1]; exact heap_sortWorldK w g k d os
  have hperm : d.toList.Perm l := by
    have := hp.2.2
    rw [show d.extract 0 m = d by rw [← hd]; simp, show l.toArray.extract 0 m = l.toArray by rw [← HS.out]; simp] at this
    simpa using this
  have hsort : ∀ i j, i < j → j < d.toList.length → (d.toList.getD i (0, 0)).1 ≤ (d.toList.getD j (0, 0)).1 := by
    intro i j hij hj
    have hj' : j < d.size := by simpa using hj
    have := hsd i j (Nat.zero_le _) hij (by rw [← hd]; exact hj')
    rw [ltT, getElem!_pos d j hj', getElem!_pos d i (by omega)] at this
    rw [List.getD_eq_getElem?_getD, List.getD_eq_getElem?_getD, List.getElem?_eq_getElem hj, List.getElem?_eq_getElem (by omega)]
    simp at this ⊢
    exact this
  have LF := Lib.hid (scan_least (n := n) hperm hsort)
  have SC := Lib.hid (fun k hk => scan_ok (n := n) hsort k hk)
  have BD := Lib.hid (show ∀ j, j < m → 0 ≤ (d.toList.getD j (0, 0)).1 ∧ (d.toList.getD j (0, 0)).1 ≤ 1099511627776 ∧ 0 ≤ (d.toList.getD j (0, 0)).2 ∧ (d.toList.getD j (0, 0)).2 ≤ 1099511627776 from fun j hj => by
    refine HB.out _ (hperm.mem_iff.1 ?_)
    rw [List.getD_eq_getElem?_getD, List.getElem?_eq_getElem (by simp; omega)]
    exact List.getElem_mem _)
  have CE := Lib.hid (fun k hk => cells_row hH1 k hk)
  have HG := Lib.hid hG
  have HD := Lib.hid (show d.toList.length = m by simpa using hd)
  have HD2 := Lib.hid hd
  clear hw1 hp hsd hH1 hG hperm hsort hd HH HS SO HB
  generalize d.toList = dl at *
  go_wp2_with fail
  go_step3
  go_wp2_with fail
  go_loopw [5, 6] (fun v u wr => ∃ k : Nat, k ≤ m ∧ u = .int .i64 k ∧ v = .int .i64 (scanTo dl n k) ∧ w1 = wr) (fun _ u _ => m - (intOf u).toNat)
  case atStart => exact ⟨0, Nat.zero_le _, rfl, rfl, rfl⟩
  case round =>
    obtain ⟨k, hk, rfl, rfl, rfl⟩ := hrel
    have hnn := (SC.out k (by rw [HD.out]; exact hk)).nn
    have hub : scanTo dl n k ≤ 1099511627776 := by
      rcases (SC.out k (by rw [HD.out]; exact hk)).from_ with h | ⟨j, hj, h⟩
      · omega
      · rw [h]; exact (BD.out j (by omega)).2.2.2
    have HS := Lib.hid (show scanTo dl n (k + 1) = if scanTo dl n k < (dl.getD k (0, 0)).2 ∧ (dl.getD k (0, 0)).1 < scanTo dl n k + n then (dl.getD k (0, 0)).2 else scanTo dl n k from rfl)
    generalize hsa : scanTo dl n k = a at *
    have HSA := Lib.hid hsa
    clear hsa
    by_cases hlt : k < m
    · have t1 : decide ((k : Int) < (m : Int)) = true := by simp; omega
      have pk : (k : Int) < (m : Int) := by omega
      obtain ⟨q0, q1⟩ := CE.out k (by rw [HD2.out]; exact hlt)
      have bd := BD.out k hlt
      generalize dl.getD k (0, 0) = x at *
      obtain ⟨f, t⟩ := x
      simp only at q0 q1 bd HS
      have e1 : IntKind.i64.wrap (a + n) = a + n := IntWalk.i64_in _ (by omega)
      by_cases g1 : a < t
      · have y1 : decide (a < t) = true := by simp; exact g1
        by_cases g2 : f < a + n
        · have y2 : decide (f < a + n) = true := by simp; exact g2
          rw [if_pos ⟨g1, g2⟩] at HS
          clear g1 g2
          go_wp2_with fail
          exact ⟨⟨k + 1, by omega, by go_num, by rw [HS.out], by trivial⟩, by simp [intOf]; omega⟩
        · have y2 : decide (f < a + n) = false := by simp; omega
          rw [if_neg (by omega)] at HS
          clear g1 g2
          go_wp2_with fail
          exact ⟨⟨k + 1, by omega, by go_num, by rw [HS.out], by trivial⟩, by simp [intOf]; omega⟩
      · have y1 : decide (a < t) = false := by simp; omega
        rw [if_neg (by omega)] at HS
        clear g1
        go_wp2_with fail
        exact ⟨⟨k + 1, by omega, by go_num, by rw [HS.out], by trivial⟩, by simp [intOf]; omega⟩
    · obtain rfl : k = m := by omega
      have t1 : decide ((k : Int) < (k : Int)) = false := by simp
      go_wp2_with fail
      rw [Exit.noGoto_ret]
      go_ret
      exact ⟨a, rfl, by have := LF.out; rw [HD.out, HSA.out] at this; exact this, HG.out⟩
end Go.Proofs.Ytcbjikopmlaapaa
