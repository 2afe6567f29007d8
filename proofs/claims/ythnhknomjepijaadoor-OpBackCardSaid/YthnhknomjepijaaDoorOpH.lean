/-
  Ops (layer 44): a kind's word, what its line tells, whether it may be written.
  Conditions: none beside the readings.
-/
import Derived.Test.YthnhknomjepijaaDoorOpG
import Derived.Test.YthnhknomjepijaaDoorRetArr
namespace Go.Proofs.YthnhknomjepijaaDoor
set_option linter.unusedVariables false
set_option linter.unusedSimpArgs false
open Go.RowKit Go.ChangeShapes Go.WideShapes
set_option maxRecDepth 100000
set_option maxHeartbeats 4000000

structure Opd where
  kind : Int
  n : Int
  d : Int
  data : List Int
def wordB (k : Int) : ByteArray := if k = 1 then ⟨#[108, 111, 97, 100]⟩ else if k = 2 then ⟨#[115, 117, 98, 109, 105, 116]⟩ else if k = 3 then ⟨#[116, 105, 99, 107]⟩ else if k = 4 then ⟨#[99, 97, 110, 99, 101, 108]⟩ else if k = 5 then ⟨#[112, 111, 108, 108]⟩ else if k = 6 then ⟨#[115, 116, 97, 116, 115]⟩ else ⟨#[]⟩
/-- Data; D; N: does a kind's line tell them? -/
def tel0 (k : Int) : Bool := k = 1 ∨ k = 2
def tel1 (k : Int) : Bool := k = 2
def tel2 (k : Int) : Bool := k = 3 ∨ k = 4 ∨ k = 5
def rightO (o : Opd) : Bool := decide (1 ≤ o.kind ∧ o.kind ≤ 6) && decide (o.data.length ≤ 16384) && (tel0 o.kind || decide (o.data.length = 0)) && (tel1 o.kind || decide (o.d = 0)) && (tel2 o.kind || decide (o.n = 0))

theorem kind_cases (k : Int) : (k = 1 ∨ k = 2 ∨ k = 3 ∨ k = 4 ∨ k = 5 ∨ k = 6) ∨ k = 0 ∨ k < 0 ∨ 6 < k := by omega
theorem word_none {k : Int} (h : k = 0 ∨ k < 0 ∨ 6 < k) : wordB k = ⟨#[]⟩ := by
  unfold wordB
  rw [if_neg (by omega), if_neg (by omega), if_neg (by omega), if_neg (by omega), if_neg (by omega), if_neg (by omega)]
theorem tel_none {k : Int} (h : (k = 0 ∨ k < 0 ∨ 6 < k) ∨ k = 6) : tel0 k = false ∧ tel1 k = false ∧ tel2 k = false :=
  ⟨decide_eq_false (by omega), decide_eq_false (by omega), decide_eq_false (by omega)⟩

theorem opWord_any (k : Int) (w : World) : Calls Tryd.prog 31 #[.int .i64 k] w fun e w' => e = .returned (.string (wordB k)) ∧ Below w.heap.size w w' := by
  have FR := Lib.hid (Far.refl w)
  rcases kind_cases k with h | h
  · rcases h with rfl | rfl | rfl | rfl | rfl | rfl
    all_goals
      go_enter Tryd.func31, Tryd.ntmps31
      go_wp2_with fail
      go_ret
      exact ⟨rfl, by first | exact FR.out.out | (repeat refine Below.setCell ?_ (Nat.le_refl _) _); exact (Below.refl _ _).alloc (Nat.le_refl _) _⟩
  rw [word_none h]
  rcases h with rfl | h | h
  · go_enter Tryd.func31, Tryd.ntmps31
    go_wp2_with fail
    go_ret
    exact ⟨rfl, by first | exact FR.out.out | exact (Below.refl _ _).alloc (Nat.le_refl _) _⟩
  · have p1 : k < 0 := h
    go_enter Tryd.func31, Tryd.ntmps31
    go_wp2_with fail
    go_ret
    exact ⟨rfl, by first | exact FR.out.out | exact (Below.refl _ _).alloc (Nat.le_refl _) _⟩
  · have p1 : ¬ k < 0 := by omega
    have p2 : 7 ≤ k := by omega
    go_enter Tryd.func31, Tryd.ntmps31
    go_wp2_with fail
    go_ret
    exact ⟨rfl, by first | exact FR.out.out | exact (Below.refl _ _).alloc (Nat.le_refl _) _⟩
theorem ropWord_any (k : Int) (w : World) : Calls Tryd.prog 29 #[.int .i64 k] w fun e w' => e = .returned (.string (wordB k)) ∧ Below w.heap.size w w' := by
  have FR := Lib.hid (Far.refl w)
  rcases kind_cases k with h | h
  · rcases h with rfl | rfl | rfl | rfl | rfl | rfl
    all_goals
      go_enter Tryd.func29, Tryd.ntmps29
      go_wp2_with fail
      go_ret
      exact ⟨rfl, by first | exact FR.out.out | (repeat refine Below.setCell ?_ (Nat.le_refl _) _); exact (Below.refl _ _).alloc (Nat.le_refl _) _⟩
  rw [word_none h]
  rcases h with rfl | h | h
  · go_enter Tryd.func29, Tryd.ntmps29
    go_wp2_with fail
    go_ret
    exact ⟨rfl, by first | exact FR.out.out | exact (Below.refl _ _).alloc (Nat.le_refl _) _⟩
  · have p1 : k < 0 := h
    go_enter Tryd.func29, Tryd.ntmps29
    go_wp2_with fail
    go_ret
    exact ⟨rfl, by first | exact FR.out.out | exact (Below.refl _ _).alloc (Nat.le_refl _) _⟩
  · have p1 : ¬ k < 0 := by omega
    have p2 : 6 < k := by omega
    go_enter Tryd.func29, Tryd.ntmps29
    go_wp2_with fail
    go_ret
    exact ⟨rfl, by first | exact FR.out.out | exact (Below.refl _ _).alloc (Nat.le_refl _) _⟩

theorem opTold_any (k : Int) (w : World) : Calls Tryd.prog 30 #[.int .i64 k] w fun e w' => e = .returned (.agg #[.bool (tel0 k), .bool (tel1 k), .bool (tel2 k)]) ∧ Below w.heap.size w w' := by
  have FR := Lib.hid (Far.refl w)
  by_cases h : k = 1 ∨ k = 2 ∨ k = 3 ∨ k = 4 ∨ k = 5
  · rcases h with rfl | rfl | rfl | rfl | rfl
    all_goals
      obtain ⟨w1, hw_w1⟩ : ∃ nw_, w.alloc (.cells #[.bool false, .bool false, .bool false] 53) = nw_ := ⟨_, rfl⟩
      have k_w1 : Below w.heap.size w w1 := by rw [← hw_w1]; exact (Below.refl _ _).alloc (Nat.le_refl _) _
      replace FR := Lib.hid (FR.out.fut k_w1)
      have BR := Lib.hid (show Blk w1 w.heap.size 53 #[.bool false, .bool false, .bool false] by rw [← hw_w1]; exact Blk.now _ _ _ _ rfl)
      clear k_w1
      go_enter Tryd.func30, Tryd.ntmps30
      go_wp2_with (refine wpList_store_all rfl 53 (.tmp 2) _ rfl w.heap.size _ rfl rfl _ _ BR.out rfl (by kernel_rfl) (by simp [Value.oneCell']) ?_; intro w9 B9 g9; clear hw_w1)
      refine ret_array rfl B9 rfl Tryd.underlying53 (by kernel_rfl) rfl ?_
      exact ⟨rfl, (FR.out.away g9 (Nat.le_refl _)).out⟩
  · obtain ⟨t0, t1, t2⟩ := tel_none (k := k) (by omega)
    rw [t0, t1, t2]
    have e1 : (k == 1) = false := by simp; omega
    have e2 : (k == 2) = false := by simp; omega
    have e3 : (k == 3) = false := by simp; omega
    have e4 : (k == 4) = false := by simp; omega
    have e5 : (k == 5) = false := by simp; omega
    clear t0 t1 t2 h
    obtain ⟨w1, hw_w1⟩ : ∃ nw_, w.alloc (.cells #[.bool false, .bool false, .bool false] 53) = nw_ := ⟨_, rfl⟩
    have k_w1 : Below w.heap.size w w1 := by rw [← hw_w1]; exact (Below.refl _ _).alloc (Nat.le_refl _) _
    replace FR := Lib.hid (FR.out.fut k_w1)
    have BR := Lib.hid (show Blk w1 w.heap.size 53 #[.bool false, .bool false, .bool false] by rw [← hw_w1]; exact Blk.now _ _ _ _ rfl)
    clear k_w1
    go_enter Tryd.func30, Tryd.ntmps30
    go_wp2_with (refine wpList_store_all rfl 53 (.tmp 2) _ rfl w.heap.size _ rfl rfl _ _ BR.out rfl (by kernel_rfl) (by simp [Value.oneCell']) ?_; intro w9 B9 g9; clear hw_w1)
    refine ret_array rfl B9 rfl Tryd.underlying53 (by kernel_rfl) rfl ?_
    exact ⟨rfl, (FR.out.away g9 (Nat.le_refl _)).out⟩
end Go.Proofs.YthnhknomjepijaaDoor
