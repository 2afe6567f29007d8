/-
  Room (layer 28): the document's Place.
  Conditions: what is placed may be.
-/
import Derived.Test.YtlpejbopdmledaaChecked
import Derived.Test.YtlpejbopdmledaaJ43
import Derived.Test.YtlpejbopdmledaaJ38
namespace Go.Proofs.Ytlpejbopdmledaa
set_option linter.unusedVariables false
set_option linter.unusedSimpArgs false
open Go.RowKit Go.ChangeShapes Go.WideShapes Go.Proofs.Ytlpejbopdmledaa.Ar
set_option maxRecDepth 100000

theorem bestTo_bd {sz un at_ : List Int} {i n : Nat} (hg : Ar.Good sz un i at_) (hi : i ≤ n) (hn : n ≤ 1024) (hs : ∀ j, j < n → 0 ≤ sz.getD j 0 ∧ sz.getD j 0 ≤ 1048576) (k : Nat) (hk : k ≤ i) : -1 ≤ bestTo sz un at_ i k ∧ bestTo sz un at_ i k ≤ 1073741824 := by
  have hsm := fun j hj => hg.small hi hn hs j hj
  rcases bestTo_spec sz un at_ i k (fun j hj => by have := hsm j (by omega); have := hs j (by omega); omega) with ⟨h, _⟩ | ⟨h1, _, h2, _⟩
  · omega
  · rcases h2 with h2 | ⟨j, hj, h2⟩
    · omega
    · have := hsm j (by omega)
      omega

set_option maxHeartbeats 8000000 in
theorem rfPlace_any (A : Option Addr) (n cap : Nat) (A' : Option Addr) (n' cap' : Nat) (sz un : List Int) (w : World) (h : Sl (tInt .i64) w (blo w.heap.size) A n cap sz) (h' : Sl (tInt .i64) w (blo w.heap.size) A' n' cap' un) (c : mayOk sz un) :
    Calls Try.prog 15 #[.slice A n cap, .slice A' n' cap'] w fun e w' => ∃ A7 c7, e = .returned (.tuple #[.slice A7 n c7, .int .i64 (roomTo sz un n)]) ∧ Sl (tInt .i64) w' (bin w.heap.size w'.heap.size) A7 n c7 (atTo sz un n) ∧ Below w.heap.size w w' := by
  have hm : n ≤ 9223372036854775807 := Nat.le_trans h.cap_le h.max_le
  have hl := h.n_eq
  have hl' := h'.n_eq
  have H := Lib.hid h
  have H' := Lib.hid h'
  clear h h'
  obtain ⟨k1, k2, k3⟩ := c
  rw [hl] at k2 k3
  have hnn : n = n' := by rw [← hl, ← hl']; exact k1
  subst hnn
  have HS := Lib.hid k3
  have HL := Lib.hid hl
  clear hl hl' k1 k3
  have FR := Lib.hid (Far.refl w)
  go_enter Try.func15, Try.ntmps15
  go_wp2_with fail
  go_loopw [6, 7, 8] (fun v rm u wr => ∃ i : Nat, i ≤ n ∧ u = .int .i64 i ∧ rm = .int .i64 (roomTo sz un i) ∧ Hid (Far w wr) ∧ Hid (Own (tInt .i64) wr (fun _ => False) w.heap.size 3 v i (atTo sz un i)) ∧ Hid (Ar.Good sz un i (atTo sz un i)) ∧ Hid (0 ≤ roomTo sz un i ∧ roomTo sz un i ≤ 1073741824)) (fun _ _ u _ => n - (intOf u).toNat)
  case atStart => exact ⟨0, Nat.zero_le _, rfl, rfl, FR, Lib.hid (Own.nil _ _ _ _ _), Lib.hid (Ar.Good.nil sz un), Lib.hid (by simp [roomTo])⟩
  case round =>
    clear FR
    obtain ⟨i, hi, rfl, rfl, F, O, G, RB⟩ := hrel
    have rb := RB.out
    have HRM := Lib.hid (show roomTo sz un (i + 1) = max (roomTo sz un i) (best sz un (atTo sz un i) i + sz.getD i 0) from rfl)
    have HAT := Lib.hid (show atTo sz un (i + 1) = atTo sz un i ++ [best sz un (atTo sz un i) i] from rfl)
    generalize hrm : roomTo sz un i = rm at *
    have HRM0 := Lib.hid hrm
    clear hrm RB
    by_cases hlt : i < n
    · have t1 : decide ((i : Int) < (n : Int)) = true := by simp; omega
      have pi : (i : Int) < (n : Int) := by omega
      obtain ⟨b0, off, rfl, _, _, c0, _⟩ := (H.out.fut F.out.out).int_at i hlt
      have sbi := HS.out i hlt
      obtain ⟨x, hx⟩ : ∃ x, sz.getD i 0 = x := ⟨_, rfl⟩
      rw [hx] at c0 sbi HRM
      have HX := Lib.hid hx
      clear hx
      generalize hal : atTo sz un i = al at *
      have HAL := Lib.hid hal
      clear hal
      obtain ⟨A7, c7, rfl, sl7⟩ := O.out.sl (S' := blo wr.heap.size) (by decide) (fun b h1 h2 => h2) (fun _ h => h.elim)
      have SA := Lib.hid sl7
      have SZ := Lib.hid (H.out.fut F.out.out)
      have SU := Lib.hid (H'.out.fut F.out.out)
      have GS := Lib.hid (fun k hk => G.out.small (Nat.le_of_lt hlt) k2 HS.out k hk)
      have GA := Lib.hid (show ∀ j, j < i → 0 ≤ al.getD j 0 ∧ al.getD j 0 ≤ 4398046511104 from fun j hj => by have := GS.out j hj; have := HS.out j (by omega); omega)
      have BK := Lib.hid (best_ok (un := un) (fun j hj => by have := GS.out j hj; have := HS.out j (by omega); omega : ∀ j, j < i → 0 ≤ al.getD j 0 + sz.getD j 0))
      have BB := Lib.hid (fun k hk => bestTo_bd G.out (Nat.le_of_lt hlt) k2 HS.out k hk)
      have F0 := Lib.hid (fun w2 (hb : Below wr.heap.size wr w2) (p : Int) (hp : 0 ≤ p ∧ p ≤ 4398046511104) => fits_any (some ⟨b0, off, none⟩) n cap A' n cap' A7 i c7 sz un al i p w2 (SZ.out.fut hb) (SU.out.fut hb) (SA.out.fut hb) hlt (Nat.le_refl _) (Nat.le_refl _) (by omega) HS.out GA.out)
      clear sl7
      have B0 := Lib.hid (show bestTo sz un al i 0 = if fits sz un al i 0 = true then 0 else -1 from rfl)
      obtain ⟨wo, hwo⟩ : ∃ wo, wo = wr := ⟨_, rfl⟩
      rw [← hwo] at F O SA SZ SU c0 F0 ⊢
      clear hwo
      rcases Bool.eq_false_or_eq_true (fits sz un al i 0) with f0 | f0
      all_goals
        have T0 := F0.out wo (Below.refl _ _) 0 (by omega)
        rw [f0] at T0 B0
        have T0 := Lib.hid T0
        have FO := Lib.hid (Far.refl wo)
        clear f0
        go_wp2_with fail
        refine T0.out.mono ?_
        rintro e w1 ⟨rfl, rfl⟩
        clear T0
        go_wp2_with fail
        clear c0
        go_loopw [9, 10] (fun b u wr => ∃ k : Nat, k ≤ i ∧ u = .int .i64 k ∧ b = .int .i64 (bestTo sz un al i k) ∧ Hid (Far wo wr)) (fun _ u _ => i - (intOf u).toNat)
        case atStart => exact ⟨0, Nat.zero_le _, rfl, by rw [B0.out]; rfl, FO⟩
        case round =>
          clear FO B0
          obtain ⟨k, hk, rfl, rfl, FO⟩ := hrel
          have HB := Lib.hid (show bestTo sz un al i (k + 1) = if (bestTo sz un al i k < 0 ∨ al.getD k 0 + sz.getD k 0 < bestTo sz un al i k) ∧ fits sz un al i (al.getD k 0 + sz.getD k 0) = true then al.getD k 0 + sz.getD k 0 else bestTo sz un al i k from rfl)
          have bb := BB.out k hk
          generalize hbk : bestTo sz un al i k = b at *
          have HBK := Lib.hid hbk
          clear hbk
          by_cases hlk : k < i
          · have t2 : decide ((k : Int) < (i : Int)) = true := by simp; omega
            have pk : (k : Int) < (n : Int) := by omega
            have pki : (k : Int) < (i : Int) := by omega
            obtain ⟨b1, off1, hA, _, hb1, c1, _⟩ := (SZ.out.fut FO.out.out).int_at k (by omega)
            cases hA
            obtain ⟨b2, off2, rfl, _, hb2, c2, _⟩ := (SA.out.fut FO.out.out).int_at k hlk
            have sbk := HS.out k (by omega)
            have gsk := GS.out k hlk
            obtain ⟨y, hy⟩ : ∃ y, sz.getD k 0 = y := ⟨_, rfl⟩
            obtain ⟨p, hp⟩ : ∃ y, al.getD k 0 = y := ⟨_, rfl⟩
            rw [hy] at c1 sbk
            rw [hp] at c2
            rw [hy, hp] at HB gsk
            clear hy hp
            have e0 : IntKind.i64.wrap (p + y) = p + y := IntWalk.i64_in _ (by omega)
            obtain ⟨s, hs⟩ : ∃ s, p + y = s := ⟨_, rfl⟩
            have e1 : IntKind.i64.wrap (p + y) = s := e0.trans hs
            rw [hs] at HB
            have sb : 0 ≤ s ∧ s ≤ 4398046511104 := by omega
            have T := fun q => F0.out (wr.drewN q) (below_drewN FO.out.out q) s sb
            clear hs e0
            by_cases g : b < 0
            · have y1 : decide (b < 0) = true := by simp; exact g
              rcases Bool.eq_false_or_eq_true (fits sz un al i s) with f1 | f1
              · rw [f1] at T
                rw [if_pos ⟨.inl g, f1⟩] at HB
                have T := Lib.hid T
                clear f1 g
                go_wp2_with fail
                go_quiet (fail)
                go_wp2_with fail
                refine (T.out _).mono ?_
                rintro e w1 ⟨rfl, rfl⟩
                go_wp2_with fail
                exact ⟨⟨k + 1, by omega, by go_num, by rw [HB.out], Lib.hid (FO.out.drewN _)⟩, by simp [intOf]; omega⟩
              · rw [f1] at T
                rw [if_neg (by rw [f1]; rintro ⟨_, h⟩; cases h)] at HB
                have T := Lib.hid T
                clear f1 g
                go_wp2_with fail
                go_quiet (fail)
                go_wp2_with fail
                refine (T.out _).mono ?_
                rintro e w1 ⟨rfl, rfl⟩
                go_wp2_with fail
                exact ⟨⟨k + 1, by omega, by go_num, by rw [HB.out], Lib.hid (FO.out.drewN _)⟩, by simp [intOf]; omega⟩
            · have y1 : decide (b < 0) = false := by simp; omega
              by_cases g2 : s < b
              · have y2 : decide (s < b) = true := by simp; exact g2
                rcases Bool.eq_false_or_eq_true (fits sz un al i s) with f1 | f1
                · rw [f1] at T
                  rw [if_pos ⟨.inr g2, f1⟩] at HB
                  have T := Lib.hid T
                  clear f1 g g2
                  go_wp2_with fail
                  go_quiet (fail)
                  go_wp2_with fail
                  refine (T.out _).mono ?_
                  rintro e w1 ⟨rfl, rfl⟩
                  go_wp2_with fail
                  exact ⟨⟨k + 1, by omega, by go_num, by rw [HB.out], Lib.hid (FO.out.drewN _)⟩, by simp [intOf]; omega⟩
                · rw [f1] at T
                  rw [if_neg (by rw [f1]; rintro ⟨_, h⟩; cases h)] at HB
                  have T := Lib.hid T
                  clear f1 g g2
                  go_wp2_with fail
                  go_quiet (fail)
                  go_wp2_with fail
                  refine (T.out _).mono ?_
                  rintro e w1 ⟨rfl, rfl⟩
                  go_wp2_with fail
                  exact ⟨⟨k + 1, by omega, by go_num, by rw [HB.out], Lib.hid (FO.out.drewN _)⟩, by simp [intOf]; omega⟩
              · have y2 : decide (s < b) = false := by simp; omega
                rw [if_neg (by rintro ⟨h1 | h1, _⟩; exact g h1; exact g2 h1)] at HB
                clear g g2 T
                go_wp2_with fail
                go_quiet (fail)
                go_wp2_with fail
                exact ⟨⟨k + 1, by omega, by go_num, by rw [HB.out], Lib.hid (FO.out.drewN _)⟩, by simp [intOf]; omega⟩
          · obtain rfl : k = i := by omega
            have t2 : decide ((k : Int) < (k : Int)) = false := by simp
            obtain ⟨f4, f5, _⟩ := BK.out
            have FG := Lib.hid (G.out.push hlt HS.out f4 f5)
            have eb : best sz un al k = b := HBK.out
            rw [eb] at HRM HAT FG f4
            have hsm := FG.out.small (n := n) (by omega) k2 HS.out k (by omega)
            rw [getD_append, G.out.len, if_neg (by omega), if_pos rfl, HX.out] at hsm
            have e1 : IntKind.i64.wrap (b + x) = b + x := IntWalk.i64_in _ (by omega)
            have FN := Lib.hid (F.out.trans FO.out)
            have ON := Lib.hid (O.out.below FO.out.out (Nat.le_refl _) (fun _ h => h.elim))
            have z0 := FN.out.size
            obtain ⟨b1, off1, hA, _, _, c1, _⟩ := (SZ.out.fut FO.out.out).int_at k hlt
            cases hA
            rw [HX.out] at c1
            have C1 := Lib.hid c1
            obtain ⟨b1, off1, hA, _, hbw, _, _⟩ := H.out.int_at k hlt
            cases hA
            have ne1 := Lib.hid (show some b0 ≠ (Value.slice A7 k c7).ownBlock from fun e => by have := (ON.out.lt _ e.symm).1; omega)
            clear eb f5 c1 hbw
            go_wp2_with (at_builtin; refine wpList_push (t := tInt .i64) rfl (.tmp 53) (.tmp 55) rfl ei_int rfl ON.out 1 rfl b ⟨rfl, by rw [inK_i64]; omega⟩ (by unfold maxLen; omega) (by omega) z0 (fun _ h => h.elim) ?_; intro v' w3 own3 g3 at3; have c1 := cell_grown g3 C1.out ne1.out)
            have O3 := Lib.hid own3
            have F3 := Lib.hid (Far.mk (FN.out.out.grown g3 FN.out.out.size (fun j hj => (ON.out.lt j hj).1)))
            clear own3 g3 at3
            all_goals exact ⟨⟨k + 1, by omega, by go_num, by rw [HRM.out], F3, by rw [HAT.out]; exact O3, by rw [HAT.out]; exact FG, by rw [HRM.out]; exact Lib.hid (by omega)⟩, by simp [intOf]; omega⟩
    · obtain rfl : i = n := by omega
      have t1 : decide ((i : Int) < (i : Int)) = false := by simp
      obtain ⟨A7, c7, rfl, sl7⟩ := O.out.sl (S' := bin w.heap.size wr.heap.size) (by decide) (fun b h1 h2 => ⟨h1, h2⟩) (fun _ h => h.elim)
      have SA := Lib.hid sl7
      clear sl7
      go_wp2_with fail
      go_ret2
      exact ⟨A7, c7, by rw [HRM0.out]; rfl, SA.out, F.out.out⟩
end Go.Proofs.Ytlpejbopdmledaa
