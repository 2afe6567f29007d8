/-
  Room (layer 28): arena.Sound, arena.Peak, the document's Peak.
  Conditions: none.
  slices.SortFunc's family at the elements of arena (layer 28): the shelf's contracts laid at this program.
  Conditions: none.
  Room (layer 28): arena.free: the taken places in order, and the least free one.
  Conditions: at most 2^40 places; places within 2^40.
  A region's forced tail, met operation by operation (an operation of the tail's stretch may have been taken before).
  Conditions: none (over any program).
  An append to a slice of the call's own, as an operation by itself (in a region that draws its order).
  Conditions: none (over any program).
-/
import Derived.Test.YtlpejbopdmledaaChecked
import Derived.Test.YtlpejbopdmledaaJ41
import Derived.Test.YtlpejbopdmledaaJ38
import Derived.Shelf.SlSortCmp.WholeK
import Derived.WalkMore
import Derived.Test.YtlpejbopdmledaaJ10
import Derived.Test.YtlpejbopdmledaaJ01
namespace Go.Proofs.Ytlpejbopdmledaa
set_option linter.unusedVariables false
set_option linter.unusedSimpArgs false
open Go.RowKit Go.ChangeShapes Go.WideShapes Go.Proofs.Ytlpejbopdmledaa.Ar
set_option maxRecDepth 100000


end Go.Proofs.Ytlpejbopdmledaa
namespace Go.Proofs
open Go.Shelf
def Try.lSrt_ren : Go.Shelf.Ren := ⟨fun | 6 => 57 | 14 => 70 | 15 => 71 | 20 => 74 | 21 => 75 | 22 => 76 | 23 => 77 | 24 => 78 | 25 => 79 | 26 => 80 | 27 => 81 | 28 => 82 | 29 => 83 | 46 => 84 | 47 => 85 | 48 => 86 | 49 => 87 | 50 => 88 | 57 => 89 | n => n, fun | 3 => 3 | 4 => 4 | 5 => 5 | 9 => 9 | 22 => 75 | 24 => 78 | 25 => 93 | 39 => 110 | 45 => 113 | 46 => 114 | 50 => 88 | 53 => 120 | 55 => 104 | 66 => 122 | 70 => 126 | 76 => 128 | 77 => 86 | n => n, fun | n => n⟩
theorem Try.lSrt : Go.Proofs.SlLaysF0.n6 Try.prog Try.lSrt_ren := {
  mixed := by kernel_rfl
  f6 := ⟨Try.f57.name, by decide, Try.func57.trans (congrArg some (by kernel_rfl))⟩
  f14 := ⟨Try.f70.name, by decide, Try.func70.trans (congrArg some (by kernel_rfl))⟩
  f15 := Try.func71.trans (congrArg some (by kernel_rfl))
  f20 := ⟨Try.f74.name, by decide, Try.func74.trans (congrArg some (by kernel_rfl))⟩
  f21 := ⟨Try.f75.name, by decide, Try.func75.trans (congrArg some (by kernel_rfl))⟩
  f22 := ⟨Try.f76.name, by decide, Try.func76.trans (congrArg some (by kernel_rfl))⟩
  f23 := ⟨Try.f77.name, by decide, Try.func77.trans (congrArg some (by kernel_rfl))⟩
  f24 := ⟨Try.f78.name, by decide, Try.func78.trans (congrArg some (by kernel_rfl))⟩
  f25 := ⟨Try.f79.name, by decide, Try.func79.trans (congrArg some (by kernel_rfl))⟩
  f26 := ⟨Try.f80.name, by decide, Try.func80.trans (congrArg some (by kernel_rfl))⟩
  f27 := ⟨Try.f81.name, by decide, Try.func81.trans (congrArg some (by kernel_rfl))⟩
  f28 := Try.func82.trans (congrArg some (by kernel_rfl))
  f29 := Try.func83.trans (congrArg some (by kernel_rfl))
  f46 := ⟨Try.f84.name, by decide, Try.func84.trans (congrArg some (by kernel_rfl))⟩
  f47 := Try.func85.trans (congrArg some (by kernel_rfl))
  f48 := Try.func86.trans (congrArg some (by kernel_rfl))
  f49 := ⟨Try.f87.name, by decide, Try.func87.trans (congrArg some (by kernel_rfl))⟩
  f50 := ⟨Try.f88.name, by decide, Try.func88.trans (congrArg some (by kernel_rfl))⟩
  f57 := ⟨Try.f89.name, by decide, Try.func89.trans (congrArg some (by kernel_rfl))⟩
  t0 := Try.underlying0
  a0 := Try.isAgg0
  z0 := Try.sizeOf0
  v0 := Try.zeroValue0
  t3 := Try.underlying3
  a3 := Try.isAgg3
  z3 := Try.sizeOf3
  v3 := Try.zeroValue3
  t4 := Try.underlying4
  a4 := Try.isAgg4
  z4 := Try.sizeOf4
  v4 := Try.zeroValue4
  t5 := Try.underlying5
  a5 := Try.isAgg5
  z5 := Try.sizeOf5
  v5 := Try.zeroValue5
  t9 := Try.underlying9
  a9 := Try.isAgg9
  z9 := Try.sizeOf9
  v9 := Try.zeroValue9
  t22 := Try.underlying75
  a22 := Try.isAgg75
  z22 := Try.sizeOf75
  v22 := Try.zeroValue75
  t25 := Try.underlying93
  a25 := Try.isAgg93
  z25 := Try.sizeOf93
  v25 := Try.zeroValue93
  t39 := Try.underlying110
  a39 := Try.isAgg110
  z39 := Try.sizeOf110
  v39 := Try.zeroValue110
  t45 := Try.underlying113
  a45 := Try.isAgg113
  z45 := Try.sizeOf113
  v45 := Try.zeroValue113
  t46 := Try.underlying114
  a46 := Try.isAgg114
  z46 := Try.sizeOf114
  v46 := Try.zeroValue114
  t50 := Try.underlying88
  a50 := Try.isAgg88
  z50 := Try.sizeOf88
  v50 := Try.zeroValue88
  t53 := Try.underlying120
  a53 := Try.isAgg120
  z53 := Try.sizeOf120
  v53 := Try.zeroValue120
  t55 := Try.underlying104
  a55 := Try.isAgg104
  z55 := Try.sizeOf104
  v55 := Try.zeroValue104
  t66 := Try.underlying122
  a66 := Try.isAgg122
  z66 := Try.sizeOf122
  v66 := Try.zeroValue122
  t70 := Try.underlying126
  a70 := Try.isAgg126
  z70 := Try.sizeOf126
  v70 := Try.zeroValue126
  t76 := Try.underlying128
  a76 := Try.isAgg128
  z76 := Try.sizeOf128
  v76 := Try.zeroValue128
  t77 := Try.underlying86
  a77 := Try.isAgg86
  z77 := Try.sizeOf86
  v77 := Try.zeroValue86 }
end Go.Proofs
namespace Go.Proofs.Ytlpejbopdmledaa
set_option linter.unusedVariables false
set_option linter.unusedSimpArgs false
open Go.RowKit Go.ChangeShapes Go.WideShapes Go.Shelf Go.Lib Go.Sort Go.Proofs.Ytlpejbopdmledaa.Ar
set_option maxRecDepth 100000

def cmpJ (x y : Int) : Int := if x < y then -1 else if y < x then 1 else 0
def tTaken : Ty (Int × Int) := tPair (tInt .i64) (tInt .i64)
def encT (x : Int × Int) : List Value := [.int .i64 x.1, .int .i64 x.2]
def cmpT (x y : Int × Int) : Int := cmpJ x.1 y.1
theorem ltT (x y : Int × Int) : ltOf cmpT x y = decide (x.1 < y.1) := by
  show decide (cmpT x y < 0) = _
  unfold cmpT cmpJ
  by_cases h : x.1 < y.1
  · rw [if_pos h, decide_eq_true h]; rfl
  · rw [if_neg h, decide_eq_false h]
    split <;> rfl
theorem swoT : SWO (ltOf cmpT) where
  irrefl := fun x => by rw [ltT]; simp
  trans := fun x y z h1 h2 => by rw [ltT] at *; simp at *; omega
  ntrans := fun x y z h1 h2 => by rw [ltT] at *; simp at *; omega

theorem isNaN64_any (x : Int) (w : World) : Calls Try.prog 72 #[.int .i64 x] w fun e w' => e = .returned (.bool false) ∧ w = w' := by
  have h : (x != x) = false := by simp
  go_enter Try.func72, Try.ntmps72
  go_wp2_with fail
  go_ret
  exact ⟨rfl, rfl⟩

theorem compare64_any (x y : Int) (w : World) : Calls Try.prog 59 #[.int .i64 x, .int .i64 y] w fun e w' => e = .returned (.int .i64 (cmpJ x y)) ∧ w = w' := by
  by_cases h1 : x < y
  · have t1 : decide (x < y) = true := by simp; exact h1
    have HC := Lib.hid (show (-1 : Int) = cmpJ x y by unfold cmpJ; rw [if_pos h1])
    clear h1
    go_enter Try.func59, Try.ntmps59
    go_wp2_with (go_at_call 72; refine (isNaN64_any _ _).mono ?_; rintro e w' ⟨rfl, rfl⟩)
    go_ret
    exact ⟨ret_int HC.out, rfl⟩
  · have t1 : decide (x < y) = false := by simp; omega
    by_cases h2 : y < x
    · have t2 : decide (y < x) = true := by simp; exact h2
      have HC := Lib.hid (show (1 : Int) = cmpJ x y by unfold cmpJ; rw [if_neg h1, if_pos h2])
      clear h1 h2
      go_enter Try.func59, Try.ntmps59
      go_wp2_with (go_at_call 72; refine (isNaN64_any _ _).mono ?_; rintro e w' ⟨rfl, rfl⟩)
      go_ret
      exact ⟨ret_int HC.out, rfl⟩
    · have t2 : decide (y < x) = false := by simp; omega
      have HC := Lib.hid (show (0 : Int) = cmpJ x y by unfold cmpJ; rw [if_neg h1, if_neg h2])
      clear h1 h2
      go_enter Try.func59, Try.ntmps59
      go_wp2_with (go_at_call 72; refine (isNaN64_any _ _).mono ?_; rintro e w' ⟨rfl, rfl⟩)
      go_ret
      exact ⟨ret_int HC.out, rfl⟩

theorem free1_any (x y : Int × Int) (w : World) : Calls Try.prog 58 #[.agg #[.int .i64 x.1, .int .i64 x.2], .agg #[.int .i64 y.1, .int .i64 y.2]] w fun e w' => e = .returned (.int .i64 (cmpT x y)) ∧ ∃ q os, w' = grow (w.drewN q) os := by
  obtain ⟨w1, hw1⟩ : ∃ w1, w.alloc (.cells #[.int .i64 x.1, .int .i64 x.2] 78) = w1 := ⟨_, rfl⟩
  obtain ⟨w2, hw2⟩ : ∃ w2, w1.alloc (.cells #[.int .i64 y.1, .int .i64 y.2] 78) = w2 := ⟨_, rfl⟩
  have G := Lib.hid (show w2 = grow (w.drewN 0) #[.cells #[.int .i64 x.1, .int .i64 x.2] 78, .cells #[.int .i64 y.1, .int .i64 y.2] 78] by
    rw [← hw2, ← hw1, alloc_eq_grow, alloc_eq_grow, grow_grow]; rfl)
  have bA : Blk w2 w.heap.size 78 #[.int .i64 x.1, .int .i64 x.2] := by rw [← hw2, ← hw1]; exact (Blk.now _ _ _ _ rfl).past _
  have bB : Blk w2 w1.heap.size 78 #[.int .i64 y.1, .int .i64 y.2] := by rw [← hw2]; exact Blk.now _ _ _ _ rfl
  have cA := fun i => bA.cell i
  have cB := fun i => bB.cell i
  have CM := Lib.hid (fun w => compare64_any x.1 y.1 w)
  clear bA bB
  unfold cmpT
  go_enter Try.func58, Try.ntmps58
  go_wp2_with fail
  refine (CM.out _).mono ?_
  rintro e w' ⟨rfl, rfl⟩
  go_wp2_with fail
  go_ret
  exact ⟨rfl, 0, _, G.out⟩

/-- A row of pairs, cell by cell. -/
theorem row_cells {w : World} {base m g c : Nat} {l : List (Int × Int)} {E : TypeId} (h : Own tTaken w (fun _ => False) base E (.slice (some ⟨g, 0, none⟩) m c) m l) : HoldsK encT 2 w g 0 l.toArray := by
  obtain ⟨vs, h1, h2⟩ := h.out
  have hlen := h2.len
  intro j hj
  rw [size_flatK] at hj
  have hj' : j < l.length * 2 := by simpa using hj
  refine ⟨?_, ?_⟩
  · rw [get_flatK _ _ _ _ (by simpa using hj')]
    have hi : j / 2 < l.length := by omega
    obtain ⟨xs, ⟨a, b, rfl, ⟨rfl, _⟩, ⟨rfl, _⟩⟩, h4⟩ := h2.at_ (j / 2) l[j / 2] (List.getElem?_eq_getElem hi)
    have hm : l.length = m := h.length (by decide)
    rw [Nat.zero_add, h1.cellAt j (by rw [← hm]; show j < l.length * 2; omega)]
    have e : l.toArray[j / 2]! = l[j / 2] := by rw [getElem!_pos _ _ (by simpa using hi)]; simp
    show vs[j]? = some ((encT l.toArray[j / 2]!)[j % 2]!)
    rw [e]
    have h5 := h4 (j % 2)
    have e2 : j / 2 * tTaken.size + j % 2 = j := by show j / 2 * 2 + j % 2 = j; omega
    rw [e2] at h5
    rcases Nat.mod_two_eq_zero_or_one j with h0 | h0
    · rw [h0] at h5 ⊢; exact h5 _ rfl
    · rw [h0] at h5 ⊢; exact h5 _ rfl
  · rw [Nat.zero_add]; exact h1.frozenAt j

theorem cells_row {w : World} {g : Nat} {d : Array (Int × Int)} (h : HoldsK encT 2 w g 0 d) (k : Nat) (hk : k < d.size) :
    w.cell? ⟨g, k * 2, none⟩ = some (.int .i64 (d.toList.getD k (0, 0)).1) ∧ w.cell? ⟨g, k * 2 + 1, none⟩ = some (.int .i64 (d.toList.getD k (0, 0)).2) := by
  have e : d[k]! = d.toList.getD k (0, 0) := by
    rw [getElem!_pos d k hk, List.getD_eq_getElem?_getD, List.getElem?_eq_getElem (by simpa using hk)]; simp
  have h0 := (h (k * 2) (by rw [size_flatK]; omega)).1
  have h1 := (h (k * 2 + 1) (by rw [size_flatK]; omega)).1
  rw [get_flatK _ _ _ _ (by omega), Nat.zero_add] at h0 h1
  rw [show k * 2 / 2 = k by omega, show k * 2 % 2 = 0 by omega, e] at h0
  rw [show (k * 2 + 1) / 2 = k by omega, show (k * 2 + 1) % 2 = 1 by omega, e] at h1
  exact ⟨h0, h1⟩

theorem heap_sortWorldK (w : World) (g n : Nat) (dk : Array (Int × Int)) (os : Array Obj) : w.grownBy (sortWorldK encT 2 w g 0 n dk os) (some g) := by
  have hs : (putRowK encT 2 (Sort.ahead w n) g 0 dk).heap.size = w.heap.size := by
    unfold putRowK; simp [putRow, mapBlock]
  refine ⟨rfl, rfl, rfl, ?_, fun k hk hne => ?_⟩
  · show w.heap.size ≤ ((putRowK encT 2 (Sort.ahead w n) g 0 dk).heap ++ os).size
    rw [Array.size_append, hs]; omega
  · show ((putRowK encT 2 (Sort.ahead w n) g 0 dk).heap ++ os)[k]? = _
    rw [Array.getElem?_append_left (by rw [hs]; exact hk)]
    unfold putRowK
    simp only [putRow, mapBlock, Array.getElem?_modify]
    rw [if_neg (fun e => hne (by rw [e]))]
    rfl

set_option maxHeartbeats 1000000 in
theorem free_any (g c m base : Nat) (l : List (Int × Int)) (n : Int) (w : World) (own : Own tTaken w (fun _ => False) base 78 (.slice (some ⟨g, 0, none⟩) m c) m l) (hn : 0 < n ∧ n ≤ 1048576)
    (hb : ∀ x ∈ l, 0 ≤ x.1 ∧ x.1 ≤ 1099511627776 ∧ 0 ≤ x.2 ∧ x.2 ≤ 1099511627776) (hm : m ≤ 1099511627776) :
    Calls Try.prog 42 #[.slice (some ⟨g, 0, none⟩) m c, .int .i64 n] w fun e w' => ∃ r, e = .returned (.int .i64 r) ∧ LeastFree l n r ∧ w.grownBy w' (some g) := by
  have hlen := own.length (by decide)
  have hH := row_cells own
  have hg := (own.lt g rfl).2
  have eg : ∀ args w, (callFunc 58 args).run Try.prog w = .ok (.enter 58 args) w := enters_of Try.func58 (by kernel_rfl) rfl
  have hs : l.toArray.size = m := by simpa using hlen
  have hso := AnyQ.slices_SortFunc Try.lSrt 2 (fun w => by kernel_rfl) (fun w => by kernel_rfl) encT (fun _ => rfl) (fun x v hv => by simp only [encT, List.mem_cons, List.not_mem_nil, or_false] at hv; rcases hv with rfl | rfl <;> rfl) cmpT swoT 58 #[] g 0 c l.toArray w eg
    (fun k os dk hsz x y => free1_any x y _) hH hg (by rw [hs]; omega)
  rw [hs] at hso
  change Calls Try.prog 57 _ _ _ at hso
  have SO := Lib.hid hso
  have HB := Lib.hid hb
  have HH := Lib.hid hH
  have HS := Lib.hid hs
  clear hso hb hlen hH own eg hs
  go_enter Try.func42, Try.ntmps42
  go_wp2_with fail
  go_step3
  go_wp2_with fail
  refine SO.out.mono ?_
  rintro e w1 ⟨rfl, d, k, os, hp, hsd, hw1⟩
  have hd : d.size = m := by rw [hp.1, HS.out]
  have hH1 : HoldsK encT 2 w1 g 0 d := by rw [hw1]; exact holdsK_sortWorldK encT 2 w g 0 k l.toArray d os hg HH.out hp.1
  have hG : w.grownBy w1 (some g) := by rw [hw1]; exact heap_sortWorldK w g k d os
  have hperm : d.toList.Perm l := by
    have := hp.2.2
    rw [show d.extract 0 m = d by rw [← hd]; simp, show l.toArray.extract 0 m = l.toArray by rw [← HS.out]; simp] at this
    simpa using this
  have hsort : ∀ i j, i < j → j < d.toList.length → (d.toList.getD i (0, 0)).1 ≤ (d.toList.getD j (0, 0)).1 := by
    intro i j hij hj
    have hj' : j < d.size := by simpa using hj
    have := hsd i j (Nat.zero_le _) hij (by rw [← hd]; exact hj')
    rw [ltT, getElem!_pos d j hj', getElem!_pos d i (by omega)] at this
    rw [List.getD_eq_getElem?_getD, List.getD_eq_getElem?_getD, List.getElem?_eq_getElem hj, List.getElem?_eq_getElem (by omega)]
    simp at this ⊢
    exact this
  have LF := Lib.hid (scan_least (n := n) hperm hsort)
  have SC := Lib.hid (fun k hk => scan_ok (n := n) hsort k hk)
  have BD := Lib.hid (show ∀ j, j < m → 0 ≤ (d.toList.getD j (0, 0)).1 ∧ (d.toList.getD j (0, 0)).1 ≤ 1099511627776 ∧ 0 ≤ (d.toList.getD j (0, 0)).2 ∧ (d.toList.getD j (0, 0)).2 ≤ 1099511627776 from fun j hj => by
    refine HB.out _ (hperm.mem_iff.1 ?_)
    rw [List.getD_eq_getElem?_getD, List.getElem?_eq_getElem (by simp; omega)]
    exact List.getElem_mem _)
  have CE := Lib.hid (fun k hk => cells_row hH1 k hk)
  have HG := Lib.hid hG
  have HD := Lib.hid (show d.toList.length = m by simpa using hd)
  have HD2 := Lib.hid hd
  clear hw1 hp hsd hH1 hG hperm hsort hd HH HS SO HB
  generalize d.toList = dl at *
  go_wp2_with fail
  go_step3
  go_wp2_with fail
  go_loopw [5, 6] (fun v u wr => ∃ k : Nat, k ≤ m ∧ u = .int .i64 k ∧ v = .int .i64 (scanTo dl n k) ∧ w1 = wr) (fun _ u _ => m - (intOf u).toNat)
  case atStart => exact ⟨0, Nat.zero_le _, rfl, rfl, rfl⟩
  case round =>
    obtain ⟨k, hk, rfl, rfl, rfl⟩ := hrel
    have hnn := (SC.out k (by rw [HD.out]; exact hk)).nn
    have hub : scanTo dl n k ≤ 1099511627776 := by
      rcases (SC.out k (by rw [HD.out]; exact hk)).from_ with h | ⟨j, hj, h⟩
      · omega
      · rw [h]; exact (BD.out j (by omega)).2.2.2
    have HS := Lib.hid (show scanTo dl n (k + 1) = if scanTo dl n k < (dl.getD k (0, 0)).2 ∧ (dl.getD k (0, 0)).1 < scanTo dl n k + n then (dl.getD k (0, 0)).2 else scanTo dl n k from rfl)
    generalize hsa : scanTo dl n k = a at *
    have HSA := Lib.hid hsa
    clear hsa
    by_cases hlt : k < m
    · have t1 : decide ((k : Int) < (m : Int)) = true := by simp; omega
      have pk : (k : Int) < (m : Int) := by omega
      obtain ⟨q0, q1⟩ := CE.out k (by rw [HD2.out]; exact hlt)
      have bd := BD.out k hlt
      generalize dl.getD k (0, 0) = x at *
      obtain ⟨f, t⟩ := x
      simp only at q0 q1 bd HS
      have e1 : IntKind.i64.wrap (a + n) = a + n := IntWalk.i64_in _ (by omega)
      by_cases g1 : a < t
      · have y1 : decide (a < t) = true := by simp; exact g1
        by_cases g2 : f < a + n
        · have y2 : decide (f < a + n) = true := by simp; exact g2
          rw [if_pos ⟨g1, g2⟩] at HS
          clear g1 g2
          go_wp2_with fail
          exact ⟨⟨k + 1, by omega, by go_num, by rw [HS.out], by trivial⟩, by simp [intOf]; omega⟩
        · have y2 : decide (f < a + n) = false := by simp; omega
          rw [if_neg (by omega)] at HS
          clear g1 g2
          go_wp2_with fail
          exact ⟨⟨k + 1, by omega, by go_num, by rw [HS.out], by trivial⟩, by simp [intOf]; omega⟩
      · have y1 : decide (a < t) = false := by simp; omega
        rw [if_neg (by omega)] at HS
        clear g1
        go_wp2_with fail
        exact ⟨⟨k + 1, by omega, by go_num, by rw [HS.out], by trivial⟩, by simp [intOf]; omega⟩
    · obtain rfl : k = m := by omega
      have t1 : decide ((k : Int) < (k : Int)) = false := by simp
      go_wp2_with fail
      rw [Exit.noGoto_ret]
      go_ret
      exact ⟨a, rfl, by have := LF.out; rw [HD.out, HSA.out] at this; exact this, HG.out⟩
end Go.Proofs.Ytlpejbopdmledaa
set_option linter.unusedVariables false
set_option linter.unusedSimpArgs false
namespace Go.Proofs.Ytlpejbopdmledaa
open Go

section
variable {P : Program} {ops : Array Oper} {Q : Exit → Act → World → Prop} {md : Region.Mode} {C : World → Prop} {k0 : Nat}
theorem wpAnyT_last {o : Oper} {fuel : Nat} {listed : Array Bool} {a : Act} {w : World} (hr : Region.ready md ops listed = [k0]) (ho : ops[k0]? = some o)
    (h : ∀ K' : Act → World → Prop, Shut (∀ a w, wpAny P md ops Q fuel (listed.setIfInBounds k0 true) a w → K' a w) → if Region.wanted o (yielded ops a.tmps) = true then Oper.wp P o a w K' Q else K' (a.put o.dst undef) w) :
    wpAnyT P md ops Q C k0 (fuel + 1) listed a w := by
  refine ⟨fun h0 => (by rw [hr] at h0; cases h0), fun j hj => ?_⟩
  rw [hr] at hj
  obtain rfl : j = k0 := by simpa using hj
  refine wpOp_step ho (fun K' hK => h K' (fun a w hW => hK a w ?_))
  rw [if_pos rfl]
  exact hW
theorem wpAny_one {i : Nat} {o : Oper} {fuel : Nat} {listed : Array Bool} {a : Act} {w : World} (hr : Region.ready md ops listed = [i]) (ho : ops[i]? = some o)
    (h : ∀ K' : Act → World → Prop, Shut (∀ a w, wpAny P md ops Q fuel (listed.setIfInBounds i true) a w → K' a w) → if Region.wanted o (yielded ops a.tmps) = true then Oper.wp P o a w K' Q else K' (a.put o.dst undef) w) :
    wpAny P md ops Q (fuel + 1) listed a w := by
  refine ⟨fun h0 => (by rw [hr] at h0; cases h0), fun j hj => ?_⟩
  rw [hr] at hj
  obtain rfl : j = i := by simpa using hj
  exact wpOp_step ho (fun K' hK => h K' (fun a w hW => hK a w hW))
end
end Go.Proofs.Ytlpejbopdmledaa
set_option linter.unusedVariables false
set_option linter.unusedSimpArgs false
namespace Go.Proofs.Ytlpejbopdmledaa
open Go.RowKit Go.ChangeShapes Go.WideShapes

theorem cell_grown {w w' : World} {p : Addr} {v : Value} {row : Option Nat} (g : w.grownBy w' row) (h : w.cell? p = some v) (hne : some p.block ≠ row) : w'.cell? p = some v := by
  have hlt := World.block_lt_of_cell? w p h
  unfold World.cell? at *
  rw [g.block p.block hlt hne]
  exact h

section
variable {α : Type} {t : Ty α} {w w' : World} {S S' : Nat → Prop} {l : List α} {base n : Nat} {E : TypeId} {v : Value}
variable {P : Program} {ops : Array Oper} {rest : List Oper} {o : Oper} {a : Act} {Q : Go.Exit → Act → World → Prop} {T : TypeId} {z : Value} {bytes : Nat}
/-- 'l = append(l, x)' where l is the call's own: the new element lies in a block that was laid just now. -/
theorem oper_push {K : Act → World → Prop} {W : World} {cs : Array Value} (s x : Operand) (ho : o.op = .call { callee := .builtin .append, args := #[s, x], argTypes := #[T, T] }) (ei : EI P T E z t.size bytes)
    (hs : a.eval s = v) (own : Own t W S base E v n l) (c : Nat) (hx : a.eval x = .slice (some ⟨W.heap.size, 0, none⟩) 1 c) (y : α) (hr : t.rep W S cs.toList y)
    (h63 : n + 1 ≤ maxLen) (hbytes : (n + 1) * bytes ≤ 140737488355328) (hbase : base ≤ W.heap.size) (hin : ∀ b, S b → b < W.heap.size ∧ some b ≠ v.ownBlock)
    (h : ∀ v' w', Own t w' S base E v' (n + 1) (l ++ [y]) → W.grownBy w' v.ownBlock → (v'.ownBlock = v.ownBlock ∨ v'.ownBlock = some (W.heap.size + 1)) → K (a.put o.dst v') w') :
    Oper.wp P o a (W.alloc (.cells cs E)) K Q := by
  obtain ⟨i, hi, hz0, hz1, hz2⟩ := info_parts ei.hi
  obtain ⟨vs, h1, h2⟩ := own.out
  have hnews : ∀ j u, cs.toList[j]? = some u → (W.alloc (.cells cs E)).cell? ((⟨W.heap.size, 0, none⟩ : Addr).add j) = some u := by
    intro j u hu
    have hadd : (⟨W.heap.size, 0, none⟩ : Addr).add j = ⟨W.heap.size, j, none⟩ := by unfold Addr.add; split <;> simp_all
    rw [hadd, cell_of_row (W.alloc (.cells cs E)) W.heap.size j cs E (0, 0) (heap_alloc_new W _)]
    simpa using hu
  obtain ⟨v', w', hrun, k1, k2, _, k3⟩ := run_append_own_at (P := P) (W.alloc (.cells cs E)) base T o.type E i z t.size bytes ei.ht hi hz0 hz1 hz2 ei.hz ei.hp v n vs (h1.alloc _) ⟨W.heap.size, 0, none⟩ 1 c cs.toList
    (by rw [t.len hr, Nat.one_mul]) hnews (t.one hr) h63 hbytes (by simp; omega)
  have hg : W.grownBy w' v.ownBlock := ⟨k2.os, k2.tape, k2.output, Nat.le_trans (by simp) k2.size, fun k hk hne => (k2.block k (by simp; omega) hne).trans (Below.heap_alloc W _ k hk)⟩
  unfold Oper.wp execOp
  simp only [ho, resolve, invoke, builtin, Sem.run_bind, Sem.run_pure, Result.andThen_ok, List.map_toArray, List.map_cons, List.map_nil, hs, hx, hrun]
  refine (h v' w' ⟨vs ++ cs.toList, k1, ?_⟩ hg (by simpa using k3))
  refine (h2.keep fun b hb => hg.block b (hin b hb).1 (hin b hb).2).snoc (t.keep hr fun b hb => hg.block b (hin b hb).1 (hin b hb).2)

end
end Go.Proofs.Ytlpejbopdmledaa
