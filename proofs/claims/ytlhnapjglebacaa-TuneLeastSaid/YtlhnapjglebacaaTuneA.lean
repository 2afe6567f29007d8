/-
  Walks of tune (layer 53): the least need of what was seen, and the document's own.
  Conditions: the slice has at most 200 elements where a bound is asked.
-/
import Derived.Test.YtlhnapjglebacaaChecked
import Derived.Test.YtlhnapjglebacaaOwn
import Derived.Deep.DeepFit
import Derived.Handy
namespace Go.Proofs.Ytlhnapjglebacaa
open Go.RowKit Go.ChangeShapes Go.WideShapes

def tuneAbove (n m : Int) : Int := if m < n then n else min m 2147483647 + 1
def tuneStep (n : Int) (s : Int × Bool) : Int := if s.2 = true ∨ s.1 < n then n else min s.1 2147483647 + 1
def tuneFold (l : List (Int × Bool)) : Int := l.foldl tuneStep 0

theorem tuneStep_range (n : Int) (s : Int × Bool) (h : 0 ≤ n) (h2 : n ≤ 2147483648) : 0 ≤ tuneStep n s ∧ tuneStep n s ≤ 2147483648 := by
  unfold tuneStep; split <;> omega
theorem tuneFold_range (l : List (Int × Bool)) : 0 ≤ tuneFold l ∧ tuneFold l ≤ 2147483648 := by
  suffices h : ∀ (l : List (Int × Bool)) (n : Int), 0 ≤ n → n ≤ 2147483648 → 0 ≤ l.foldl tuneStep n ∧ l.foldl tuneStep n ≤ 2147483648 from h l 0 (by omega) (by omega)
  intro l
  induction l with
  | nil => intro n h1 h2; exact ⟨h1, h2⟩
  | cons s l ih => intro n h1 h2; have := tuneStep_range n s h1 h2; exact ih _ this.1 this.2
theorem tuneFold_snoc (l : List (Int × Bool)) (k : Nat) (x : Int × Bool) (h : l[k]? = some x) : tuneFold (l.take (k + 1)) = tuneStep (tuneFold (l.take k)) x := by
  rw [take_snoc l k x h]; simp [tuneFold]

def tSeen : Ty (Int × Bool) := tPair (tInt .i64) tBool

theorem Sl.seen_at {w : World} {S : Nat → Prop} {A : Option Addr} {n cap : Nat} {l : List (Int × Bool)} (h : Sl tSeen w S A n cap l) (i : Nat) (hi : i < n) :
    ∃ m a b off, l[i]? = some (m, a) ∧ A = some ⟨b, off, none⟩ ∧ S b ∧ b < w.heap.size ∧ w.cell? ⟨b, off + i * 2, none⟩ = some (.int .i64 m) ∧ w.cell? ⟨b, off + i * 2 + 1, none⟩ = some (.bool a) ∧ InK .i64 m := by
  obtain ⟨⟨m, a⟩, b, off, xs, hx, hA, hS, hb, ⟨c, d, rfl, ⟨rfl, hk⟩, rfl⟩, hl, hc⟩ := h.cells i hi (by decide)
  exact ⟨m, a, b, off, hx, hA, hS, hb, by simpa [tSeen, tPair, tInt, tBool] using hc 0 _ rfl, by simpa [tSeen, tPair, tInt, tBool, Nat.add_assoc] using hc 1 _ rfl, hk⟩

theorem above_any (n m : Int) (w : World) (_n1 : 0 ≤ n) (_n2 : n ≤ 2147483648) (hm : InK .i64 m) :
    Calls Try.prog 16 #[.int .i64 n, .int .i64 m] w fun e w' => e = .returned (.int .i64 (tuneAbove n m)) ∧ w = w' := by
  rw [inK_i64] at hm
  obtain ⟨m1, m2⟩ := hm
  go_enter Try.func16, Try.ntmps16
  go_wp2
  all_goals (go_ret; exact ⟨ret_int (by unfold tuneAbove; split <;> omega), rfl⟩)

theorem step_any (n m : Int) (a : Bool) (w : World) (_n1 : 0 ≤ n) (_n2 : n ≤ 2147483648) (hm : InK .i64 m) :
    Calls Try.prog 67 #[.int .i64 n, .agg #[.int .i64 m, .bool a]] w fun e w' => e = .returned (.int .i64 (tuneStep n (m, a))) ∧ Below w.heap.size w w' := by
  rw [inK_i64] at hm
  obtain ⟨m1, m2⟩ := hm
  cases a
  all_goals
    go_enter Try.func67, Try.ntmps67
    go_wp2
    all_goals (go_ret; exact ⟨ret_int (by unfold tuneStep; first | (simp; done) | (simp; omega)), by go_grown⟩)

theorem fold_any (A : Option Addr) (n cap : Nat) (l : List (Int × Bool)) (w : World) (h : Sl tSeen w (blo w.heap.size) A n cap l) :
    Calls Try.prog 66 #[.int .i64 0, .func (.func 67) #[] #[], .slice A n cap] w fun e w' => e = .returned (.int .i64 (tuneFold l)) ∧ Below w.heap.size w w' := by
  have hl := h.n_eq
  have H := Lib.hid h
  have HL := Lib.hid hl
  have hm : n ≤ 9223372036854775807 := Nat.le_trans h.cap_le h.max_le
  clear h hl
  go_enter Try.func66, Try.ntmps66
  go_wp2_with fail
  go_loopw [0, 11] (fun v i wr => ∃ k : Nat, k ≤ n ∧ i = .int .i64 k ∧ v = .int .i64 (tuneFold (l.take k)) ∧ Below w.heap.size w wr) (fun _ i _ => n - (intOf i).toNat)
  case atStart => exact ⟨0, Nat.zero_le _, rfl, rfl, Below.refl _ _⟩
  case round =>
    obtain ⟨k, hk, rfl, rfl, hb⟩ := hrel
    have hr := tuneFold_range (l.take k)
    by_cases hlt : k < n
    · have h' := (H.out.below hb (fun _ h => h))
      obtain ⟨m, a, b, off, hx, rfl, hS, hbs, c0, c1, hi⟩ := h'.seen_at k hlt
      have HX := Lib.hid hx
      have HI := Lib.hid hi
      clear hx hi h'
      go_wp2_with (go_at_call 67; refine (step_any _ _ _ _ hr.1 hr.2 HI.out).mono ?_; rintro e w' ⟨rfl, hb'⟩)
      have hbw : Below w.heap.size w w' := (hb.alloc hb.size _).trans (hb'.mono (by have := hb.size; simp; omega))
      refine ⟨⟨k + 1, by omega, by go_num, ?_, hbw⟩, by simp [intOf]; omega⟩
      rw [tuneFold_snoc l k _ HX.out]
    · obtain rfl : k = n := by omega
      go_wp2_with fail
      go_ret
      exact ⟨ret_int (by rw [List.take_of_length_le (by rw [HL.out]; omega)]), hb⟩

theorem least_any (A : Option Addr) (n cap : Nat) (l : List (Int × Bool)) (w : World) (h : Sl tSeen w (blo w.heap.size) A n cap l) :
    Calls Try.prog 17 #[.slice A n cap] w fun e w' => e = .returned (.int .i64 (tuneFold l)) ∧ Below w.heap.size w w' := by
  have H := Lib.hid h
  clear h
  go_enter Try.func17, Try.ntmps17
  go_wp2_with (go_at_call 66; refine (fold_any _ _ _ _ _ H.out).mono ?_; rintro e w' ⟨rfl, hb'⟩)
  go_ret
  exact ⟨rfl, hb'⟩

theorem known53_any (w : World) : Calls Try.prog 15 #[] w fun e w' => e = .returned (.bool true) ∧ Below w.heap.size w w' := by
  have h1 := Sl.of_block (t := tSeen) (S := blo (w.heap.size + 1)) (l := [(5, true), (3, false)]) (n := 2) (cap := 2) (heap_new w (.cells #[.int .i64 5, .bool true, .int .i64 3, .bool false] 25)) (Nat.lt_succ_self _) (by decide) (by decide) rfl
    ⟨[.int .i64 5, .bool true], _, rfl, ⟨[.int .i64 5], [.bool true], rfl, ⟨rfl, by rw [inK_i64]; omega⟩, rfl⟩, [.int .i64 3, .bool false], _, rfl, ⟨[.int .i64 3], [.bool false], rfl, ⟨rfl, by rw [inK_i64]; omega⟩, rfl⟩, rfl⟩
  have H1 := Lib.hid h1
  clear h1
  have e1 : tuneFold [(5, true), (3, false)] = 4 := by decide
  have e2 : tuneFold [] = 0 := rfl
  go_enter Try.func15, Try.ntmps15
  go_wp2_with fail
  refine (least_any _ _ _ _ _ (by simpa using H1.out)).mono ?_
  rintro e w' ⟨rfl, hb1⟩
  go_wp2_with fail
  refine (least_any _ _ _ [] _ (Sl.nil _ _ _)).mono ?_
  rintro e w'' ⟨rfl, hb2⟩
  go_wp2_with fail
  go_ret
  exact ⟨rfl, ((Below.refl _ _).alloc (Nat.le_refl _) _).trans ((hb1.mono (by simp)).trans (hb2.mono (by have := hb1.size; simp at this; omega)))⟩

theorem tuneLeast_any (A : Option Addr) (n cap : Nat) (l : List (Int × Bool)) (w : World) (h : Sl tSeen w (blo w.heap.size) A n cap l) :
    Calls Try.prog 3 #[.slice A n cap] w fun e w' => e = .returned (.bool true) ∧ Below w.heap.size w w' := by
  have hl := h.n_eq
  have H := Lib.hid h
  have HL := Lib.hid hl
  have hm : n ≤ 9223372036854775807 := Nat.le_trans h.cap_le h.max_le
  clear h hl
  by_cases hbig : 200 < n
  · go_enter Try.func3, Try.ntmps3
    go_wp2_with (go_at_call 15; refine (known53_any _).mono ?_; rintro e w' ⟨rfl, hb'⟩)
    go_ret
    exact ⟨rfl, hb'⟩
  · go_enter Try.func3, Try.ntmps3
    go_wp2_with fail
    go_loop [3, 4] (fun v i => ∃ k : Nat, k ≤ n ∧ i = .int .i64 k ∧ v = .int .i64 (tuneFold (l.take k))) (fun _ i => n - (intOf i).toNat)
    case atStart => exact ⟨0, Nat.zero_le _, rfl, rfl⟩
    case round =>
      obtain ⟨k, hk, rfl, rfl⟩ := hrel
      have hr := tuneFold_range (l.take k)
      by_cases hlt : k < n
      · obtain ⟨m, a, b, off, hx, rfl, hS, hbs, c0, c1, hi⟩ := H.out.seen_at k hlt
        have HX := Lib.hid hx
        have HI := Lib.hid hi
        clear hx hi
        have hs := tuneFold_snoc l k _ HX.out
        cases a
        · have e : tuneStep (tuneFold (l.take k)) (m, false) = tuneAbove (tuneFold (l.take k)) m := by simp [tuneStep, tuneAbove]
          have HS := Lib.hid (hs.trans e)
          clear hs e
          go_wp2_with (go_at_call 16; refine (above_any _ _ _ hr.1 hr.2 HI.out).mono ?_; rintro e w' ⟨rfl, rfl⟩)
          exact ⟨⟨k + 1, by omega, by go_num, by rw [HS.out]⟩, by simp [intOf]; omega⟩
        · have e : tuneStep (tuneFold (l.take k)) (m, true) = tuneFold (l.take k) := by simp [tuneStep]
          have HS := Lib.hid (hs.trans e)
          clear hs e
          go_wp2_with fail
          exact ⟨⟨k + 1, by omega, by go_num, by rw [HS.out]⟩, by simp [intOf]; omega⟩
      · obtain rfl : k = n := by omega
        have e : l.take k = l := List.take_of_length_le (by rw [HL.out]; omega)
        have HE := Lib.hid e
        clear e
        rw [HE.out]
        go_wp2_with fail
        refine (least_any _ _ _ _ _ H.out).mono ?_
        rintro e w' ⟨rfl, hb1⟩
        go_wp2_with fail
        refine (known53_any _).mono ?_
        rintro e w'' ⟨rfl, hb2⟩
        go_wp2_with fail
        go_ret
        exact ⟨rfl, hb1.trans (hb2.mono hb1.size)⟩

set_option maxRecDepth 100000 in
theorem opens_seens : Opens Try.prog 22 (tSlice tSeen) :=
  opens_slice Try.underlying22 (by kernel_rfl) (by decide) (opens_struct Try.underlying25 (by kernel_rfl)
    (opensFrom_cons rfl (opens_int Try.underlying3 (by kernel_rfl)) (opensFrom_last rfl (opens_bool Try.underlying4 (by kernel_rfl)))))

theorem tuneLeast_walk (A : Option Addr) (n cap : Nat) (l : List (Int × Bool)) {W : World} (h : Sl tSeen W (blo W.heap.size) A n cap l) (w : World) (e : W = w) :
    Calls Try.prog 3 #[.slice A n cap] w fun e w' => e = .returned (.bool true) ∧ Below w.heap.size w w' := by subst e; exact tuneLeast_any A n cap l _ h

end Go.Proofs.Ytlhnapjglebacaa
