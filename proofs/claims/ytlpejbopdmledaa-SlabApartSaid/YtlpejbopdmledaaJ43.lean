/-
  Room (layer 28): arena.Place.
  Conditions: none.
-/
import Derived.Test.YtlpejbopdmledaaChecked
import Derived.Test.YtlpejbopdmledaaJ42
import Derived.Test.YtlpejbopdmledaaJ36
namespace Go.Proofs.Ytlpejbopdmledaa
set_option linter.unusedVariables false
set_option linter.unusedSimpArgs false
open Go.RowKit Go.ChangeShapes Go.WideShapes Go.Shelf Go.Lib Go.Sort Go.Proofs.Ytlpejbopdmledaa.Ar
set_option maxRecDepth 100000

theorem ei_taken : EI Try.prog 75 78 (.agg #[.int .i64 0, .int .i64 0]) 2 16 := ⟨Try.underlying75, by kernel_rfl, rfl, by decide⟩

set_option maxHeartbeats 2000000 in
theorem sortNil_any (F : Value) (w : World) : Calls Try.prog 57 #[.slice none 0 0, F] w fun e w' => e = .returned (.tuple #[]) ∧ w = w' := by
  have ins : ∀ w, Calls Try.prog 74 #[.slice none 0 0, .int .i64 0, .int .i64 0, F] w fun e w' => e = .returned (.tuple #[]) ∧ w = w' := by
    intro w
    go_enter Try.func74, Try.ntmps74
    go_wp2_with fail
    refine wp_loop_rounds 1 ?_
    rw [rounds_succ]
    go_wp2_with fail
    refine bodyPost_end (results_none rfl _ _ _) rfl ?_
    exact ⟨rfl, rfl⟩
  have pd : ∀ (x : Int) w, Calls Try.prog 70 #[.slice none 0 0, .int .i64 0, .int .i64 0, .int .i64 x, F] w fun e w' => e = .returned (.tuple #[]) ∧ w = w' := by
    intro x w
    go_enter Try.func70, Try.ntmps70
    go_wp2_with fail
    refine wp_loop_rounds 1 ?_
    rw [rounds_succ]
    go_wp2_with fail
    refine (ins w).mono ?_
    rintro e w1 ⟨rfl, rfl⟩
    go_wp2_with fail
    refine bodyPost_ret (results_none rfl _ _ _) rfl ?_
    exact ⟨rfl, rfl⟩
  have bl : ∀ w, Calls Try.prog 71 #[.int .u64 0] w fun e w' => (∃ x : Int, e = .returned (.int .i64 x)) ∧ w = w' := by
    intro w
    have h := Any.bits_Len (SlLaysF0.n15.bits (P := Try.prog) (ρ := Try.lSrt_ren) { Try.lSrt with }) 0 w (by omega) (by omega)
    exact h.mono fun e w' ⟨h1, h2⟩ => ⟨⟨_, h1⟩, h2.symm⟩
  clear ins
  go_enter Try.func57, Try.ntmps57
  go_wp2_with fail
  refine (bl w).mono ?_
  rintro e w1 ⟨⟨x, rfl⟩, rfl⟩
  go_wp2_with fail
  refine (pd x w).mono ?_
  rintro e w1 ⟨rfl, rfl⟩
  go_wp2_with fail
  refine bodyPost_end (results_none rfl _ _ _) rfl ?_
  exact ⟨rfl, rfl⟩

theorem least_nil (n : Int) : LeastFree [] n 0 := ⟨Int.le_refl _, (fun x hx => by cases hx), (fun p h1 h2 => by omega), .inl rfl⟩

theorem freeNil_any (n : Int) (w : World) : Calls Try.prog 42 #[.slice none 0 0, .int .i64 n] w fun e w' => e = .returned (.int .i64 0) ∧ w = w' := by
  go_enter Try.func42, Try.ntmps42
  go_wp2_with fail
  go_step3
  go_wp2_with fail
  refine (sortNil_any _ w).mono ?_
  rintro e w1 ⟨rfl, rfl⟩
  go_wp2_with fail
  go_step3
  go_wp2_with fail
  refine wp_loop_rounds 1 ?_
  rw [rounds_succ]
  go_wp2_with fail
  rw [Exit.noGoto_ret]
  go_ret
  exact ⟨rfl, rfl⟩

theorem freeOwn_any (v : Value) (q base : Nat) (l : List (Int × Int)) (n : Int) (w : World) (own : Own tTaken w (fun _ => False) base 78 v q l) (hn : 0 < n ∧ n ≤ 1048576)
    (hb : ∀ x ∈ l, 0 ≤ x.1 ∧ x.1 ≤ 1099511627776 ∧ 0 ≤ x.2 ∧ x.2 ≤ 1099511627776) (hm : q ≤ 1099511627776) (hbase : base ≤ w.heap.size) :
    Calls Try.prog 42 #[v, .int .i64 n] w fun e w' => ∃ r, e = .returned (.int .i64 r) ∧ LeastFree l n r ∧ Below base w w' := by
  obtain ⟨vs, h1, h2⟩ := own.out
  rcases h1.2 with ⟨rfl, rfl⟩ | ⟨g, cap, cur, rfl, hg, _⟩
  · have hl := own.length (by decide)
    have : l = [] := List.eq_nil_of_length_eq_zero hl
    subst this
    refine (freeNil_any n w).mono ?_
    rintro e w' ⟨rfl, rfl⟩
    exact ⟨0, rfl, least_nil n, Below.refl _ _⟩
  · refine (free_any g cap q base l n w own hn hb hm).mono ?_
    rintro e w' ⟨r, rfl, hr, gr⟩
    exact ⟨r, rfl, hr, (Below.refl base w).grown gr hbase (fun k hk => by cases hk; exact hg)⟩

/-- What Place hands back. -/
def RetPlaces (sz un : List Int) (n : Nat) (w : World) (e : Ending) (w' : World) : Prop :=
  if mayOk sz un then ∃ A c, e = .returned (.tuple #[.slice A n c, .int .i64 (roomTo sz un n), .bool true]) ∧ Sl (tInt .i64) w' (bin w.heap.size w'.heap.size) A n c (atTo sz un n) ∧ Below w.heap.size w w'
  else e = .returned (.tuple #[.slice none 0 0, .int .i64 0, .bool false]) ∧ Below w.heap.size w w'

theorem best_good {sz un at_ : List Int} {i n : Nat} (hg : Ar.Good sz un i at_) (hi : i < n) (hlen : sz.length = n) (hs : ∀ j, j < n → 0 ≤ sz.getD j 0 ∧ sz.getD j 0 ≤ 1048576) (r : Int) (hr : (sz.getD i 0 = 0 ∧ r = 0) ∨ (0 < sz.getD i 0 ∧ LeastFree (takenTo sz un at_ i i) (sz.getD i 0) r)) :
    best sz un at_ i = r ∧ 0 ≤ r ∧ cand sz at_ i r := by
  rcases hr with ⟨h1, rfl⟩ | ⟨h1, h2⟩
  · exact ⟨best_zero h1 (fun j hj => (hs j (by omega)).1) (fun j hj => (hg.bd j hj).1), Int.le_refl _, .inl rfl⟩
  · refine ⟨least_best (by omega) h1 (fun j hj => (hs j (by omega)).1) (fun j hj => (hg.bd j hj).1) h2, h2.nn, ?_⟩
    rcases h2.from_ with h | ⟨x, hx, h⟩
    · exact .inl h
    · obtain ⟨j, q1, q2, q3, rfl⟩ := takenTo_mem.1 hx
      exact .inr ⟨j, q1, h⟩

set_option maxHeartbeats 8000000 in
theorem arPlace_any (A : Option Addr) (n cap : Nat) (A' : Option Addr) (n' cap' : Nat) (sz un : List Int) (w : World) (h : Sl (tInt .i64) w (blo w.heap.size) A n cap sz) (h' : Sl (tInt .i64) w (blo w.heap.size) A' n' cap' un) :
    Calls Try.prog 26 #[.slice A n cap, .slice A' n' cap'] w (RetPlaces sz un n w) := by
  have hm : n ≤ 9223372036854775807 := Nat.le_trans h.cap_le h.max_le
  have MA := Lib.hid (arMay_any A n cap A' n' cap' sz un w h h')
  have hl := h.n_eq
  have hl' := h'.n_eq
  have H := Lib.hid h
  have H' := Lib.hid h'
  clear h h'
  by_cases c : mayOk sz un
  rotate_left
  · rw [decide_eq_false c] at MA
    have C := Lib.hid c
    clear c hl hl'
    go_enter Try.func26, Try.ntmps26
    go_wp2_with fail
    refine MA.out.mono ?_
    rintro e w1 ⟨rfl, rfl⟩
    go_wp2_with fail
    go_ret3
    unfold RetPlaces
    rw [if_neg C.out]
    exact ⟨rfl, Below.refl _ _⟩
  have C := Lib.hid c
  rw [decide_eq_true c] at MA
  obtain ⟨k1, k2, k3⟩ := c
  rw [hl] at k2 k3
  have hnn : n = n' := by rw [← hl, ← hl']; exact k1
  subst hnn
  have HS := Lib.hid k3
  have HL := Lib.hid hl
  clear hl hl' k1 k3
  have FR := Lib.hid (Far.refl w)
  go_enter Try.func26, Try.ntmps26
  go_wp2_with fail
  refine MA.out.mono ?_
  rintro e w1 ⟨rfl, rfl⟩
  clear MA
  go_wp2_with fail
  go_loopw [7, 8, 20] (fun v rm u wr => ∃ i : Nat, i ≤ n ∧ u = .int .i64 i ∧ rm = .int .i64 (roomTo sz un i) ∧ Hid (Far w wr) ∧ Hid (Own (tInt .i64) wr (fun _ => False) w.heap.size 3 v i (atTo sz un i)) ∧ Hid (Ar.Good sz un i (atTo sz un i)) ∧ Hid (0 ≤ roomTo sz un i ∧ roomTo sz un i ≤ 1073741824)) (fun _ _ u _ => n - (intOf u).toNat)
  case atStart => exact ⟨0, Nat.zero_le _, rfl, rfl, FR, Lib.hid (Own.nil _ _ _ _ _), Lib.hid (Ar.Good.nil sz un), Lib.hid (by simp [roomTo])⟩
  case round =>
    clear FR
    obtain ⟨i, hi, rfl, rfl, F, O, G, RB⟩ := hrel
    have rb := RB.out
    have HRM := Lib.hid (show roomTo sz un (i + 1) = max (roomTo sz un i) (best sz un (atTo sz un i) i + sz.getD i 0) from rfl)
    have HAT := Lib.hid (show atTo sz un (i + 1) = atTo sz un i ++ [best sz un (atTo sz un i) i] from rfl)
    generalize hrm : roomTo sz un i = rm at *
    have HRM0 := Lib.hid hrm
    clear hrm RB
    by_cases hlt : i < n
    · have t1 : decide ((i : Int) < (n : Int)) = true := by simp; omega
      have pi : (i : Int) < (n : Int) := by omega
      obtain ⟨b0, off, rfl, _, _, c0, _⟩ := (H.out.fut F.out.out).int_at i hlt
      have sbi := HS.out i hlt
      obtain ⟨x, hx⟩ : ∃ x, sz.getD i 0 = x := ⟨_, rfl⟩
      rw [hx] at c0 sbi HRM
      have HX := Lib.hid hx
      clear hx
      generalize hal : atTo sz un i = al at *
      have HAL := Lib.hid hal
      clear hal
      obtain ⟨A7, c7, rfl, sl7⟩ := O.out.sl (S' := blo wr.heap.size) (by decide) (fun b h1 h2 => h2) (fun _ h => h.elim)
      have SA := Lib.hid sl7
      have SZ := Lib.hid (H.out.fut F.out.out)
      have SU := Lib.hid (H'.out.fut F.out.out)
      have GS := Lib.hid (fun k hk => G.out.small (Nat.le_of_lt hlt) k2 HS.out k hk)
      clear sl7
      obtain ⟨wo, hwo⟩ : ∃ wo, wo = wr := ⟨_, rfl⟩
      rw [← hwo] at F O SA SZ SU c0 ⊢
      clear hwo
      have FO := Lib.hid (Far.refl wo)
      go_wp2_with fail
      clear c0
      go_loopw [11, 26] (fun v u wr => ∃ k q : Nat, k ≤ i ∧ q ≤ k ∧ u = .int .i64 k ∧ Hid (Far wo wr) ∧ Hid (Own tTaken wr (fun _ => False) wo.heap.size 78 v q (takenTo sz un al i k))) (fun _ u _ => i - (intOf u).toNat)
      case atStart => exact ⟨0, 0, Nat.zero_le _, Nat.le_refl _, rfl, FO, Lib.hid (Own.nil _ _ _ _ _)⟩
      case round =>
        clear FO
        obtain ⟨k, q, hk, hqk, rfl, FO, OT⟩ := hrel
        have HT := Lib.hid (show takenTo sz un al i (k + 1) = takenTo sz un al i k ++ if togI (un.getD k 0) k i = true ∧ 0 < sz.getD k 0 then [(al.getD k 0, al.getD k 0 + sz.getD k 0)] else [] from rfl)
        by_cases hlk : k < i
        · have t2 : decide ((k : Int) < (i : Int)) = true := by simp; omega
          have pk : (k : Int) < (n : Int) := by omega
          have pki : (k : Int) < (i : Int) := by omega
          have T := Lib.hid (together_any A' n cap' un k i wr (SU.out.fut FO.out.out) (by omega))
          obtain ⟨b1, off1, hA, _, hb1, c1, _⟩ := SZ.out.int_at k (by omega)
          cases hA
          obtain ⟨b2, off2, rfl, _, hb2, c2, _⟩ := SA.out.int_at k hlk
          have c1 := cell_later FO.out.out c1
          have c2 := cell_later FO.out.out c2
          have sbk := HS.out k (by omega)
          have gsk := GS.out k hlk
          obtain ⟨y, hy⟩ : ∃ y, sz.getD k 0 = y := ⟨_, rfl⟩
          obtain ⟨p, hp⟩ : ∃ y, al.getD k 0 = y := ⟨_, rfl⟩
          rw [hy] at c1 sbk
          rw [hp] at c2
          rw [hy, hp] at HT gsk
          clear hy hp
          cases ht : togI (un.getD k 0) k i with
          | false =>
            rw [ht] at T HT
            rw [if_neg (by simp), List.append_nil] at HT
            clear ht
            go_wp2_with fail
            refine T.out.mono ?_
            rintro e w1 ⟨rfl, rfl⟩
            go_wp2_with fail
            exact ⟨⟨k + 1, q, by omega, by omega, by go_num, FO, by rw [HT.out]; exact OT⟩, by simp [intOf]; omega⟩
          | true =>
            rw [ht] at T HT
            by_cases hy0 : 0 < y
            rotate_left
            · have y1 : decide (0 < y) = false := by simp; omega
              rw [if_neg (by omega), List.append_nil] at HT
              clear ht hy0
              go_wp2_with fail
              refine T.out.mono ?_
              rintro e w1 ⟨rfl, rfl⟩
              go_wp2_with fail
              exact ⟨⟨k + 1, q, by omega, by omega, by go_num, FO, by rw [HT.out]; exact OT⟩, by simp [intOf]; omega⟩
            · have y1 : decide (0 < y) = true := by simp; exact hy0
              rw [if_pos ⟨rfl, hy0⟩] at HT
              have e1 : IntKind.i64.wrap (p + y) = p + y := IntWalk.i64_in _ (by omega)
              have OD := Lib.hid (show Own tTaken wr.drew (fun _ => False) wo.heap.size 78 u11 q (takenTo sz un al i k) from OT.out.heap rfl)
              have FD := Lib.hid FO.out.out.drew
              have zz := FO.out.size
              have ne1 := Lib.hid (show some b0 ≠ u11.ownBlock from fun e => by have := (OT.out.lt _ e.symm).1; omega)
              have ne2 := Lib.hid (show some b2 ≠ u11.ownBlock from fun e => by have := (OT.out.lt _ e.symm).1; omega)
              have rp : tTaken.rep wr.drew (fun _ => False) [.int .i64 p, .int .i64 (p + y)] (p, p + y) := ⟨_, _, rfl, ⟨rfl, by rw [inK_i64]; omega⟩, ⟨rfl, by rw [inK_i64]; omega⟩⟩
              have RP := Lib.hid rp
              have hq1 : q ≤ 1024 := by omega
              clear ht hy0 rp
              go_wp2_with fail
              refine T.out.mono ?_
              rintro e w1 ⟨rfl, rfl⟩
              go_wp2_with fail
              refine wp_region_T (fun w' => w'.cell? ⟨b2, off2 + k, none⟩ = some (.int .i64 p) ∧ w'.cell? ⟨b0, off + k, none⟩ = some (.int .i64 y) ∧ Below wo.heap.size wo w') 17 (by kernel_rfl) ?_ (fun hS => ?_)
              · exact ⟨c2, c1, FD.out⟩
              refine wpAnyT_take (i := 0) (v := ?_) rfl (by as_aux_lemma => kernel_rfl) (by as_aux_lemma => kernel_rfl) (by as_aux_lemma => kernel_rfl) (by as_aux_lemma => kernel_rfl) rfl (fun _ _ _ h => h) (Or.inl ⟨by rfl, ?_⟩) hS ?_
              rotate_left
              · intro w hSw; (try dsimp only at hSw); go_simp; try with_reducible rfl
              try simp only [Act.put, List.getElem_toArray, List.getElem_cons_succ, List.getElem_cons_zero, List.setIfInBounds_toArray, List.set_cons_zero, List.set_cons_succ]
              refine wpAnyT_take (i := 1) (v := ?_) rfl (by as_aux_lemma => kernel_rfl) (by as_aux_lemma => kernel_rfl) (by as_aux_lemma => kernel_rfl) (by as_aux_lemma => kernel_rfl) rfl (fun _ _ _ h => h) (Or.inl ⟨by rfl, ?_⟩) hS ?_
              rotate_left
              · intro w hSw; (try dsimp only at hSw); go_simp; try with_reducible rfl
              try simp only [Act.put, List.getElem_toArray, List.getElem_cons_succ, List.getElem_cons_zero, List.setIfInBounds_toArray, List.set_cons_zero, List.set_cons_succ]
              refine wpAnyT_take (i := 2) (v := ?_) rfl (by as_aux_lemma => kernel_rfl) (by as_aux_lemma => kernel_rfl) (by as_aux_lemma => kernel_rfl) (by as_aux_lemma => kernel_rfl) rfl (fun _ _ _ h => h) (Or.inl ⟨by rfl, ?_⟩) hS ?_
              rotate_left
              · intro w hSw; (try dsimp only at hSw); go_simp; try with_reducible rfl
              try simp only [Act.put, List.getElem_toArray, List.getElem_cons_succ, List.getElem_cons_zero, List.setIfInBounds_toArray, List.set_cons_zero, List.set_cons_succ]
              refine wpAnyT_take (i := 3) (v := ?_) rfl (by as_aux_lemma => kernel_rfl) (by as_aux_lemma => kernel_rfl) (by as_aux_lemma => kernel_rfl) (by as_aux_lemma => kernel_rfl) rfl (fun _ _ _ h => h) (Or.inl ⟨by rfl, ?_⟩) hS ?_
              rotate_left
              · intro w hSw; (try dsimp only at hSw); go_simp; try with_reducible rfl
              try simp only [Act.put, List.getElem_toArray, List.getElem_cons_succ, List.getElem_cons_zero, List.setIfInBounds_toArray, List.set_cons_zero, List.set_cons_succ]
              refine wpAnyT_take (i := 4) (v := ?_) rfl (by as_aux_lemma => kernel_rfl) (by as_aux_lemma => kernel_rfl) (by as_aux_lemma => kernel_rfl) (by as_aux_lemma => kernel_rfl) rfl (fun _ _ _ h => h) (Or.inl ⟨by rfl, ?_⟩) hS ?_
              rotate_left
              · intro w hSw; (try dsimp only at hSw); go_simp; try with_reducible rfl
              try simp only [Act.put, List.getElem_toArray, List.getElem_cons_succ, List.getElem_cons_zero, List.setIfInBounds_toArray, List.set_cons_zero, List.set_cons_succ]
              refine wpAnyT_take (i := 5) (v := ?_) rfl (by as_aux_lemma => kernel_rfl) (by as_aux_lemma => kernel_rfl) (by as_aux_lemma => kernel_rfl) (by as_aux_lemma => kernel_rfl) rfl (fun _ _ _ h => h) (Or.inl ⟨by rfl, ?_⟩) hS ?_
              rotate_left
              · intro w hSw; (try dsimp only at hSw); go_simp; try with_reducible rfl
              try simp only [Act.put, List.getElem_toArray, List.getElem_cons_succ, List.getElem_cons_zero, List.setIfInBounds_toArray, List.set_cons_zero, List.set_cons_succ]
              refine wpAnyT_take (i := 6) (v := ?_) rfl (by as_aux_lemma => kernel_rfl) (by as_aux_lemma => kernel_rfl) (by as_aux_lemma => kernel_rfl) (by as_aux_lemma => kernel_rfl) rfl (fun _ _ _ h => h) (Or.inl ⟨by rfl, ?_⟩) hS ?_
              rotate_left
              · intro w hSw; (try dsimp only at hSw); go_simp; try with_reducible rfl
              try simp only [Act.put, List.getElem_toArray, List.getElem_cons_succ, List.getElem_cons_zero, List.setIfInBounds_toArray, List.set_cons_zero, List.set_cons_succ]
              refine wpAnyT_take (i := 7) (v := ?_) rfl (by as_aux_lemma => kernel_rfl) (by as_aux_lemma => kernel_rfl) (by as_aux_lemma => kernel_rfl) (by as_aux_lemma => kernel_rfl) rfl (fun _ _ _ h => h) (Or.inl ⟨by rfl, ?_⟩) hS ?_
              rotate_left
              · intro w hSw; (try dsimp only at hSw); go_simp; try with_reducible rfl
              try simp only [Act.put, List.getElem_toArray, List.getElem_cons_succ, List.getElem_cons_zero, List.setIfInBounds_toArray, List.set_cons_zero, List.set_cons_succ]
              refine wpAnyT_take (i := 8) (v := ?_) rfl (by as_aux_lemma => kernel_rfl) (by as_aux_lemma => kernel_rfl) (by as_aux_lemma => kernel_rfl) (by as_aux_lemma => kernel_rfl) rfl (fun _ _ _ h => h) (Or.inl ⟨by rfl, ?_⟩) hS ?_
              rotate_left
              · intro w hSw; (try dsimp only at hSw); go_simp; try with_reducible rfl
              try simp only [Act.put, List.getElem_toArray, List.getElem_cons_succ, List.getElem_cons_zero, List.setIfInBounds_toArray, List.set_cons_zero, List.set_cons_succ]
              refine wpAnyT_take (i := 9) (v := ?_) rfl (by as_aux_lemma => kernel_rfl) (by as_aux_lemma => kernel_rfl) (by as_aux_lemma => kernel_rfl) (by as_aux_lemma => kernel_rfl) rfl (fun _ _ _ h => h) (Or.inl ⟨by rfl, ?_⟩) hS ?_
              rotate_left
              · intro w hSw; (try dsimp only at hSw); go_simp; try with_reducible rfl
              try simp only [Act.put, List.getElem_toArray, List.getElem_cons_succ, List.getElem_cons_zero, List.setIfInBounds_toArray, List.set_cons_zero, List.set_cons_succ]
              refine wpAnyT_take (i := 10) (v := ?_) rfl (by as_aux_lemma => kernel_rfl) (by as_aux_lemma => kernel_rfl) (by as_aux_lemma => kernel_rfl) (by as_aux_lemma => kernel_rfl) rfl (fun _ _ _ h => h) (Or.inl ⟨by rfl, ?_⟩) hS ?_
              rotate_left
              · intro w hSw; (try dsimp only at hSw); go_simp; try with_reducible rfl
              try simp only [Act.put, List.getElem_toArray, List.getElem_cons_succ, List.getElem_cons_zero, List.setIfInBounds_toArray, List.set_cons_zero, List.set_cons_succ]
              refine wpAnyT_take (i := 11) (v := ?_) rfl (by as_aux_lemma => kernel_rfl) (by as_aux_lemma => kernel_rfl) (by as_aux_lemma => kernel_rfl) (by as_aux_lemma => kernel_rfl) rfl (fun _ _ _ h => h) (Or.inl ⟨by rfl, ?_⟩) hS ?_
              rotate_left
              · intro w hSw; (try dsimp only at hSw); go_simp; try with_reducible rfl
              try simp only [Act.put, List.getElem_toArray, List.getElem_cons_succ, List.getElem_cons_zero, List.setIfInBounds_toArray, List.set_cons_zero, List.set_cons_succ]
              refine wpAnyT_take (i := 12) (v := ?_) rfl (by as_aux_lemma => kernel_rfl) (by as_aux_lemma => kernel_rfl) (by as_aux_lemma => kernel_rfl) (by as_aux_lemma => kernel_rfl) rfl (fun _ _ _ h => h) (Or.inl ⟨by rfl, ?_⟩) hS ?_
              rotate_left
              · intro w hSw; (try dsimp only at hSw); go_simp; try with_reducible rfl
              try simp only [Act.put, List.getElem_toArray, List.getElem_cons_succ, List.getElem_cons_zero, List.setIfInBounds_toArray, List.set_cons_zero, List.set_cons_succ]
              refine wpAnyT_take (i := 13) (v := ?_) rfl (by as_aux_lemma => kernel_rfl) (by as_aux_lemma => kernel_rfl) (by as_aux_lemma => kernel_rfl) (by as_aux_lemma => kernel_rfl) rfl (fun _ _ _ h => h) (Or.inl ⟨by rfl, ?_⟩) hS ?_
              rotate_left
              · intro w hSw; (try dsimp only at hSw); go_simp; try with_reducible rfl
              try simp only [Act.put, List.getElem_toArray, List.getElem_cons_succ, List.getElem_cons_zero, List.setIfInBounds_toArray, List.set_cons_zero, List.set_cons_succ]
              refine wpAnyT_take (i := 14) (v := ?_) rfl (by as_aux_lemma => kernel_rfl) (by as_aux_lemma => kernel_rfl) (by as_aux_lemma => kernel_rfl) (by as_aux_lemma => kernel_rfl) rfl (fun _ _ _ h => h) (Or.inl ⟨by rfl, ?_⟩) hS ?_
              rotate_left
              · intro w hSw; (try dsimp only at hSw); go_simp; try with_reducible rfl
              try simp only [Act.put, List.getElem_toArray, List.getElem_cons_succ, List.getElem_cons_zero, List.setIfInBounds_toArray, List.set_cons_zero, List.set_cons_succ]
              refine wpAnyT_one (i := 15) (by kernel_rfl) rfl rfl (fun K hK => ?_)
              go_simp
              have hb : Below wr.drew.heap.size wr.drew (wr.drew.alloc (.cells #[.int .i64 p, .int .i64 (p + y)] 78)) := (Below.refl _ _).alloc (Nat.le_refl _) _
              refine hK.out _ _ ?_ (fun hS => ?_)
              · exact ⟨cell_later hb hS.1, cell_later hb hS.2.1, (by first | exact below_later hb hS.2.2 | exact grown_below hS.2.2 hb)⟩
              clear hK K
              try simp only [Act.put, List.getElem_toArray, List.getElem_cons_succ, List.getElem_cons_zero, List.setIfInBounds_toArray, List.set_cons_zero, List.set_cons_succ]
              refine wpAnyT_one (i := 16) (by kernel_rfl) rfl rfl (fun K hK => ?_)
              (rw [if_pos (by rfl)]; refine oper_push (W := wr.drew) (cs := #[.int .i64 p, .int .i64 (p + y)]) (E := 78) (t := tTaken) (.tmp 40) (.tmp 55) rfl ei_taken rfl OD.out 1 rfl (p, p + y) RP.out (by unfold maxLen; omega) (by omega) (by show _ ≤ wr.heap.size; omega) (fun _ h => h.elim) ?_; intro v' w7 own7 g7 at7; refine hK.out _ _ ⟨(cell_grown g7 c2 ne2.out), (cell_grown g7 c1 ne1.out), FD.out.grown g7 (by show _ ≤ wr.heap.size; omega) (fun j hj => (OD.out.lt j hj).1)⟩ (fun hS => ?_))
              clear hK K
              try simp only [Act.put, List.getElem_toArray, List.getElem_cons_succ, List.getElem_cons_zero, List.setIfInBounds_toArray, List.set_cons_zero, List.set_cons_succ]
              refine wpAnyT_tail _ _ rfl rfl (by kernel_rfl) ?_
              have F7 := Lib.hid (Far.mk (FD.out.grown g7 (by show _ ≤ wr.heap.size; omega) (fun j hj => (OD.out.lt j hj).1)))
              have O7 := Lib.hid own7
              clear hS hb c1 c2 own7 g7 at7
              go_wp2_with fail
              exact ⟨⟨k + 1, q + 1, by omega, by omega, by go_num, F7, by rw [HT.out]; exact O7⟩, by simp [intOf]; omega⟩
        · obtain rfl : k = i := by omega
          have t2 : decide ((k : Int) < (k : Int)) = false := by simp
          have BG := Lib.hid (fun r hr => best_good G.out hlt HL.out HS.out r hr)
          rw [HX.out] at BG
          have fin : ∀ (r : Int) (w8 : World), ((x = 0 ∧ r = 0) ∨ (0 < x ∧ LeastFree (takenTo sz un al k k) x r)) → Far wo w8 → Far w w8 ∧ Own (tInt .i64) w8 (fun _ => False) w.heap.size 3 (.slice A7 k c7) k al ∧ best sz un al k = r ∧ 0 ≤ r ∧ cand sz al k r ∧ r + x ≤ 1073741824 := by
            intro r w8 hr hf
            obtain ⟨q1, q2, q3⟩ := BG.out r hr
            refine ⟨F.out.trans hf, O.out.below hf.out (Nat.le_refl _) (fun _ h => h.elim), q1, q2, q3, ?_⟩
            have := (G.out.push hlt HS.out q2 q3).small (n := n) (by omega) k2 HS.out k (by omega)
            rw [getD_append, G.out.len, if_neg (by omega), if_pos rfl, HX.out] at this
            exact this.2
          have FIN := Lib.hid fin
          clear fin
          have fz := F.out.size
          by_cases hx0 : 0 < x
          rotate_left
          · have y1 : decide (0 < x) = false := by simp; omega
            have x0 : x = 0 := by omega
            obtain ⟨f1, f2, f3, f4, f5, f6⟩ := FIN.out 0 wr (.inl ⟨x0, rfl⟩) FO.out
            have ON := Lib.hid f2
            have FN := Lib.hid f1
            have FG := Lib.hid (G.out.push hlt HS.out f4 f5)
            rw [f3] at HRM HAT
            have z0 := f1.size
            have X0 := Lib.hid x0
            have e1 : IntKind.i64.wrap ((0 : Int) + x) = 0 + x := IntWalk.i64_in _ (by omega)
            clear f1 f2 f3 f5 hx0 x0
            go_wp2_with (at_builtin; refine wpList_push (t := tInt .i64) rfl (.tmp 63) (.tmp 65) rfl ei_int rfl ON.out 1 rfl (0 : Int) ⟨rfl, by rw [inK_i64]; omega⟩ (by unfold maxLen; omega) (by omega) z0 (fun _ h => h.elim) ?_; intro v' w3 own3 g3 at3)
            have O3 := Lib.hid own3
            have F3 := Lib.hid (Far.mk (FN.out.out.grown g3 FN.out.out.size (fun j hj => (ON.out.lt j hj).1)))
            clear own3 g3 at3
            go_wp2_with fail
            all_goals exact ⟨⟨k + 1, by omega, by go_num, by rw [HRM.out]; first | rfl | (congr 1; omega), F3, by rw [HAT.out]; exact O3, by rw [HAT.out]; exact FG, by rw [HRM.out]; exact Lib.hid (by omega)⟩, by simp [intOf]; omega⟩
          · have y1 : decide (0 < x) = true := by simp; exact hx0
            have hxs : x ≤ 1048576 := sbi.2
            have z9 := FO.out.size
            have TB := Lib.hid (show ∀ y ∈ takenTo sz un al k k, 0 ≤ y.1 ∧ y.1 ≤ 1099511627776 ∧ 0 ≤ y.2 ∧ y.2 ≤ 1099511627776 from fun y hy => by
              obtain ⟨j, q1, q2, q3, rfl⟩ := takenTo_mem.1 hy
              have g1 := GS.out j q1
              have g2 := HS.out j (by omega)
              simp only
              omega)
            have CF := Lib.hid (freeOwn_any u11 q wo.heap.size _ x wr OT.out ⟨hx0, hxs⟩ TB.out (by omega) z9)
            have X0 := Lib.hid hx0
            clear hx0 hxs z9 TB
            go_wp2_with fail
            refine CF.out.mono ?_
            rintro e w8 ⟨r, rfl, hr, hb8⟩
            obtain ⟨f1, f2, f3, f4, f5, f6⟩ := FIN.out r w8 (.inr ⟨X0.out, hr⟩) ⟨FO.out.out.trans hb8⟩
            have ON := Lib.hid f2
            have FN := Lib.hid f1
            have FG := Lib.hid (G.out.push hlt HS.out f4 f5)
            rw [f3] at HRM HAT
            have z0 := f1.size
            have e1 : IntKind.i64.wrap (r + x) = r + x := IntWalk.i64_in _ (by omega)
            have R4 := Lib.hid f4
            clear f1 f2 f3 f5 hr hb8
            go_wp2_with (at_builtin; refine wpList_push (t := tInt .i64) rfl (.tmp 63) (.tmp 65) rfl ei_int rfl ON.out 1 rfl r ⟨rfl, by rw [inK_i64]; omega⟩ (by unfold maxLen; omega) (by omega) z0 (fun _ h => h.elim) ?_; intro v' w3 own3 g3 at3)
            have O3 := Lib.hid own3
            have F3 := Lib.hid (Far.mk (FN.out.out.grown g3 FN.out.out.size (fun j hj => (ON.out.lt j hj).1)))
            clear own3 g3 at3
            go_wp2_with fail
            all_goals exact ⟨⟨k + 1, by omega, by go_num, by rw [HRM.out], F3, by rw [HAT.out]; exact O3, by rw [HAT.out]; exact FG, by rw [HRM.out]; exact Lib.hid (by omega)⟩, by simp [intOf]; omega⟩
    · obtain rfl : i = n := by omega
      have t1 : decide ((i : Int) < (i : Int)) = false := by simp
      obtain ⟨A7, c7, rfl, sl7⟩ := O.out.sl (S' := bin w.heap.size wr.heap.size) (by decide) (fun b h1 h2 => ⟨h1, h2⟩) (fun _ h => h.elim)
      have SA := Lib.hid sl7
      clear sl7
      go_wp2_with fail
      go_ret3
      unfold RetPlaces
      rw [if_pos C.out]
      exact ⟨A7, c7, by rw [HRM0.out]; rfl, SA.out, F.out.out⟩
end Go.Proofs.Ytlpejbopdmledaa
