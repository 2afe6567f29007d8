/-
  The walk of the law RingPlays.
  Conditions: none.
-/
import Derived.Test.YtlbijkafcododaaChecked
import Derived.Test.YtlbijkafcododaaRingZ
namespace Go.Proofs.Ytlbijkafcododaa
set_option linter.unusedVariables false
set_option linter.unusedSimpArgs false
open Go.RowKit Go.ChangeShapes Go.WideShapes
set_option maxRecDepth 100000
set_option maxHeartbeats 8000000

def tOp41 : Ty (Int × Int) := tPair (tInt .u8) (tInt .i64)

theorem opens_op41 : Opens Try.prog 33 tOp41 :=
  opens_struct (t := tOp41) Try.underlying33 (by kernel_rfl) (opensFrom_cons rfl (opens_int Try.underlying5 (by kernel_rfl)) (opensFrom_last rfl (opens_int Try.underlying3 (by kernel_rfl))))

theorem Sl.op41_at {w : World} {S : Nat → Prop} {A : Option Addr} {n cap : Nat} {l : List (Int × Int)} (h : Sl tOp41 w S A n cap l) (i : Nat) (hi : i < n) :
    ∃ kd id b off, A = some ⟨b, off, none⟩ ∧ InK .u8 kd ∧ InK .i64 id ∧ w.cell? ⟨b, off + i * 2, none⟩ = some (.int .u8 kd) ∧ w.cell? ⟨b, off + i * 2 + 1, none⟩ = some (.int .i64 id) := by
  obtain ⟨x, b, off, xs, hx, hA, hS, hb, hr, hl, hc⟩ := h.cells i hi (by decide)
  obtain ⟨c, d, rfl, ⟨rfl, h1⟩, ⟨rfl, h2⟩⟩ := hr
  exact ⟨x.1, x.2, b, off, hA, h1, h2, hc 0 _ rfl, hc 1 _ rfl⟩

theorem ringPlays_any (m : Int) (A : Option Addr) (nt ct : Nat) (ops : List (Int × Int)) (w : World) (hm : InK .i64 m) (h : Sl tOp41 w (blo w.heap.size) A nt ct ops) :
    Calls Try.prog 3 #[.int .i64 m, .slice A nt ct] w fun e w' => e = .returned (.bool true) ∧ Below w.heap.size w w' := by
  have hnt : nt ≤ 9223372036854775807 := Nat.le_trans h.cap_le h.max_le
  have H := Lib.hid h
  have HM := Lib.hid hm
  clear h hm
  by_cases hmm : m < 1 ∨ 16 < m
  · go_enter Try.func3, Try.ntmps3
    go_wp2_with fail
    refine (ringNew_bad m w hmm).mono ?_
    rintro e w1 ⟨rfl, b1⟩
    rcases Classical.em (m < 1) with h1 | h1
    · have t1 : decide (m < 1) = true := by simp; omega
      clear h1 hmm
      go_wp2_with fail
      refine (known41_any w1).mono ?_
      rintro e w2 ⟨rfl, b2⟩
      have g2 := below_later b2 b1
      clear b1 b2
      go_wp2_with fail
      go_ret
      exact ⟨rfl, g2⟩
    · have t1 : decide (m < 1) = false := by simp; omega
      have t2 : decide (16 < m) = true := by simp; omega
      clear h1 hmm
      go_wp2_with fail
      refine (known41_any w1).mono ?_
      rintro e w2 ⟨rfl, b2⟩
      have g2 := below_later b2 b1
      clear b1 b2
      go_wp2_with fail
      go_ret
      exact ⟨rfl, g2⟩
  · have t1 : decide (m < 1) = false := by simp; omega
    have t2 : decide (16 < m) = false := by simp; omega
    have m1 : 1 ≤ m := by omega
    have m2 : m ≤ 16 := by omega
    go_enter Try.func3, Try.ntmps3
    go_wp2_with fail
    refine (ringNew_any m w m1 m2).mono ?_
    rintro e w1 ⟨rfl, r1, b1⟩
    have R1 := Lib.hid r1
    have B1 := Lib.hid b1
    have lt1 : w.heap.size < w1.heap.size := by obtain ⟨_, _, _, _, _, _, h1, _⟩ := r1.out; exact h1.lt
    clear r1 b1 hmm
    go_wp2_with fail
    clear t1 t2
    have T0 : Two (w1.alloc (.cells #[.slice none 0 0, .slice none 0 0, .int .i64 m] 31)) w.heap.size w1.heap.size [] [] m :=
      ⟨(R1.out.x (X := fun x => x = w1.heap.size) (fun x hx e => by omega)).later ((Below.refl _ _).alloc (Nat.le_refl _) _), ⟨none, 0, 0, none, 0, 0, Blk.now _ _ _ _ rfl, Sl.nil _ _ _, Sl.nil _ _ _⟩, by simp, by simp; omega, by omega⟩
    have B0 : Below w.heap.size w (w1.alloc (.cells #[.slice none 0 0, .slice none 0 0, .int .i64 m] 31)) := B1.out.alloc B1.out.size _
    have HT0 := Lib.hid T0
    have HB0 := Lib.hid B0
    clear T0 B0 R1 B1
    go_loopw [8] (fun i wr => ∃ (k : Nat) (a b : List Int), k ≤ 200 ∧ i = .int .i64 k ∧ Two wr w.heap.size w1.heap.size a b m ∧ Below w.heap.size w wr) (fun i _ => 200 - (intOf i).toNat)
    case atStart => exact ⟨0, [], [], by omega, rfl, HT0.out, HB0.out⟩
    case round =>
      clear HT0 HB0
      obtain ⟨k, a, b, hk, rfl, hT, hb⟩ := hrel
      have hlen := hT.len
      have HT := Lib.hid hT
      have HB := Lib.hid hb
      clear hT hb
      by_cases hlt : k < nt ∧ k < 200
      · obtain ⟨hl1, hl2⟩ := hlt
        have t1 : decide ((k : Int) < (nt : Int)) = true := by simp; omega
        have t2 : decide ((k : Int) < 200) = true := by simp; omega
        have p1 : (k : Int) < (nt : Int) := by omega
        obtain ⟨kd, id, ob, off, rfl, hkd, hid, ck, ci⟩ := (H.out.below HB.out (fun _ h => h)).op41_at k hl1
        rw [inK_u8] at hkd
        obtain ⟨z, hz⟩ : ∃ z, kd.tmod 6 = z := ⟨_, rfl⟩
        have hz1 : 0 ≤ z ∧ z ≤ 5 := by rw [← hz, Int.tmod_eq_emod_of_nonneg hkd.1]; omega
        by_cases z0 : z = 0
        · as_aux_lemma =>
          subst z0
          have k0 : (kd.tmod 6 == 0) = true := by rw [hz]; rfl
          by_cases h1 : id < 1
          · have j1 : decide (id < 1) = true := by simp; omega
            go_wp2_with fail
            refine (ringAdd_bad _ a b m id wr HT.out.ring.at_ (by omega) (.inl h1)).mono ?_
            rintro e wz ⟨rfl, bz⟩
            have HB := Lib.hid (below_later bz HB.out)
            obtain ⟨a1, b1, hT1⟩ : ∃ a1 b1, Two wz w.heap.size w1.heap.size a1 b1 m := ⟨a, b, HT.out.later bz⟩
            have HT := Lib.hid hT1
            clear hT1
            clear bz
            go_wp2_with fail
            refine (ringNext_any _ a1 b1 m _ HT.out.ring.at_).mono ?_
            rintro e w6 ⟨rfl, _, b6⟩
            have HB := Lib.hid (below_later b6 HB.out)
            have HT := Lib.hid (HT.out.later b6)
            clear b6
            obtain ⟨A, n, c, A', n', c', hB, _, hs'⟩ := HT.out.ref.out
            have cL : w6.cell? ⟨w1.heap.size, 1, none⟩ = some (.slice A' n' c') := hB.cell 1
            have hl := hs'.n_eq
            have hn63 : n' ≤ 9223372036854775807 := Nat.le_trans hs'.cap_le hs'.max_le
            by_cases h0 : n' = 0
            · subst h0
              obtain rfl : b1 = [] := List.length_eq_zero_iff.1 hl
              have e1 : ([] : List Int).getD 0 0 = 0 := rfl
              have e2 : decide (0 < ([] : List Int).length) = false := rfl
              rw [e1, e2]
              clear hB hs' hl e1 e2
              obtain ⟨q, hq⟩ : ∃ q, a1.length + ([] : List Int).length = q := ⟨_, rfl⟩
              have hql : (q : Int) ≤ m := by have := HT.out.len; rw [hq] at this; exact this
              have hw : IntKind.i64.wrap (m - (q : Int)) = m - (q : Int) := IntWalk.i64_in _ (by omega)
              have q1 : ((q : Int) != (q : Int)) = false := by simp
              have q2 : ((m - (q : Int)) != (m - (q : Int))) = false := by simp
              have LE := Lib.hid (fun v h => ringLen_any w.heap.size a1 [] m v h (by omega))
              have RO := Lib.hid (fun v h => ringRoom_any w.heap.size a1 [] m v h (by omega) (by omega))
              rw [hq] at LE RO
              go_wp2_with fail
              refine (ringList_any _ a1 [] m _ HT.out.ring.at_ (by omega)).mono ?_
              rintro e w7 ⟨L1, n1, c1, rfl, s1, b7⟩
              have S1 := Lib.hid (s1.more (S' := blo w7.heap.size) (fun _ h => h.2))
              have T7 := Lib.hid (HT.out.later b7)
              have B7 := Lib.hid (below_later b7 HB.out)
              clear s1 b7
              go_wp2_with fail
              refine (refAll_any _ _ a1 [] m _ T7.out.ref (by omega)).mono ?_
              rintro e w8 ⟨L2, n2, c2, rfl, s2, b8⟩
              have S2 := Lib.hid (s2.more (S' := blo w8.heap.size) (fun _ h => h.2))
              have S1 := Lib.hid (S1.out.later b8 (Nat.le_refl _))
              have T8 := Lib.hid (T7.out.later b8)
              have B8 := Lib.hid (below_later b8 B7.out)
              clear s2 b8 T7 B7
              go_wp2_with fail
              refine (sameInt_eq L1 L2 n1 c1 n2 c2 (a1 ++ []) w8 S1.out S2.out).mono ?_
              rintro e w9 ⟨rfl, b9⟩
              have T9 := Lib.hid (T8.out.later b9)
              have B9 := Lib.hid (below_later b9 B8.out)
              clear b9 T8 B8 S1 S2
              go_wp2_with fail
              refine (LE.out w9 T9.out.ring.at_).mono ?_
              rintro e w10 ⟨rfl, b10⟩
              have T10 := Lib.hid (T9.out.later b10)
              have B10 := Lib.hid (below_later b10 B9.out)
              clear b10 T9 B9 LE
              go_wp2_with fail
              refine (refAll_any _ _ a1 [] m _ T10.out.ref (by omega)).mono ?_
              rintro e w11 ⟨L3, n3, c3, rfl, s3, b11⟩
              obtain rfl : q = n3 := by have := s3.n_eq; rw [List.length_append, hq] at this; exact this
              have T11 := Lib.hid (T10.out.later b11)
              have B11 := Lib.hid (below_later b11 B10.out)
              clear s3 b11 T10 B10
              go_wp2_with fail
              refine (RO.out w11 T11.out.ring.at_).mono ?_
              rintro e w12 ⟨rfl, b12⟩
              have T12 := Lib.hid (T11.out.later b12)
              have B12 := Lib.hid (below_later b12 B11.out)
              clear b12 T11 B11 RO
              go_wp2_with fail
              refine (refAll_any _ _ a1 [] m _ T12.out.ref (by omega)).mono ?_
              rintro e w13 ⟨L4, n4, c4, rfl, s4, b13⟩
              obtain rfl : q = n4 := by have := s4.n_eq; rw [List.length_append, hq] at this; exact this
              have T13 := Lib.hid (T12.out.later b13)
              have B13 := Lib.hid (below_later b13 B12.out)
              clear s4 b13 T12 B12
              go_wp2_with fail
              exact ⟨⟨k + 1, a1, [], by omega, by go_num, T13.out, B13.out⟩, by simp [intOf]; omega⟩
            · obtain ⟨bb, off, rfl, _, _, cc, _⟩ := hs'.int_at 0 (by omega)
              rw [Nat.add_zero] at cc
              have hp0 : 1 ≤ b1.getD 0 0 := by
                refine HT.out.pos _ ?_
                rw [List.getD_eq_getElem?_getD, List.getElem?_eq_getElem (by omega)]
                simp
              have e2 : decide (0 < b1.length) = true := by simp; omega
              rw [e2]
              obtain ⟨y, hy⟩ : ∃ y, b1.getD 0 0 = y := ⟨_, rfl⟩
              rw [hy] at cc hp0 ⊢
              have y1 : (y != y) = false := by simp
              have y2 : decide (0 < y) = true := by simp; omega
              have y3 : decide ((0 : Int) < (n' : Int)) = true := by simp; omega
              have y4 : (0 : Int) < (n' : Int) := by omega
              clear hB hs' hl e2 h0 hy
              obtain ⟨q, hq⟩ : ∃ q, a1.length + b1.length = q := ⟨_, rfl⟩
              have hql : (q : Int) ≤ m := by have := HT.out.len; rw [hq] at this; exact this
              have hw : IntKind.i64.wrap (m - (q : Int)) = m - (q : Int) := IntWalk.i64_in _ (by omega)
              have q1 : ((q : Int) != (q : Int)) = false := by simp
              have q2 : ((m - (q : Int)) != (m - (q : Int))) = false := by simp
              have LE := Lib.hid (fun v h => ringLen_any w.heap.size a1 b1 m v h (by omega))
              have RO := Lib.hid (fun v h => ringRoom_any w.heap.size a1 b1 m v h (by omega) (by omega))
              rw [hq] at LE RO
              go_wp2_with fail
              refine (ringList_any _ a1 b1 m _ HT.out.ring.at_ (by omega)).mono ?_
              rintro e w7 ⟨L1, n1, c1, rfl, s1, b7⟩
              have S1 := Lib.hid (s1.more (S' := blo w7.heap.size) (fun _ h => h.2))
              have T7 := Lib.hid (HT.out.later b7)
              have B7 := Lib.hid (below_later b7 HB.out)
              clear s1 b7
              go_wp2_with fail
              refine (refAll_any _ _ a1 b1 m _ T7.out.ref (by omega)).mono ?_
              rintro e w8 ⟨L2, n2, c2, rfl, s2, b8⟩
              have S2 := Lib.hid (s2.more (S' := blo w8.heap.size) (fun _ h => h.2))
              have S1 := Lib.hid (S1.out.later b8 (Nat.le_refl _))
              have T8 := Lib.hid (T7.out.later b8)
              have B8 := Lib.hid (below_later b8 B7.out)
              clear s2 b8 T7 B7
              go_wp2_with fail
              refine (sameInt_eq L1 L2 n1 c1 n2 c2 (a1 ++ b1) w8 S1.out S2.out).mono ?_
              rintro e w9 ⟨rfl, b9⟩
              have T9 := Lib.hid (T8.out.later b9)
              have B9 := Lib.hid (below_later b9 B8.out)
              clear b9 T8 B8 S1 S2
              go_wp2_with fail
              refine (LE.out w9 T9.out.ring.at_).mono ?_
              rintro e w10 ⟨rfl, b10⟩
              have T10 := Lib.hid (T9.out.later b10)
              have B10 := Lib.hid (below_later b10 B9.out)
              clear b10 T9 B9 LE
              go_wp2_with fail
              refine (refAll_any _ _ a1 b1 m _ T10.out.ref (by omega)).mono ?_
              rintro e w11 ⟨L3, n3, c3, rfl, s3, b11⟩
              obtain rfl : q = n3 := by have := s3.n_eq; rw [List.length_append, hq] at this; exact this
              have T11 := Lib.hid (T10.out.later b11)
              have B11 := Lib.hid (below_later b11 B10.out)
              clear s3 b11 T10 B10
              go_wp2_with fail
              refine (RO.out w11 T11.out.ring.at_).mono ?_
              rintro e w12 ⟨rfl, b12⟩
              have T12 := Lib.hid (T11.out.later b12)
              have B12 := Lib.hid (below_later b12 B11.out)
              clear b12 T11 B11 RO
              go_wp2_with fail
              refine (refAll_any _ _ a1 b1 m _ T12.out.ref (by omega)).mono ?_
              rintro e w13 ⟨L4, n4, c4, rfl, s4, b13⟩
              obtain rfl : q = n4 := by have := s4.n_eq; rw [List.length_append, hq] at this; exact this
              have T13 := Lib.hid (T12.out.later b13)
              have B13 := Lib.hid (below_later b13 B12.out)
              clear s4 b13 T12 B12
              go_wp2_with fail
              exact ⟨⟨k + 1, a1, b1, by omega, by go_num, T13.out, B13.out⟩, by simp [intOf]; omega⟩
          · have j1 : decide (id < 1) = false := by simp; omega
            have HA := Lib.hid (refHas_any (fun x => x = w.heap.size) w1.heap.size a b m id wr HT.out.ref (by omega))
            by_cases hc : (a ++ b).contains id = true
            · rw [hc] at HA
              go_wp2_with fail
              refine HA.out.mono ?_
              rintro e wy ⟨rfl, bz⟩
              have HB := Lib.hid (below_later bz HB.out)
              have HT := Lib.hid (HT.out.later bz)
              clear bz HA
              go_wp2_with fail
              refine (ringAdd_bad _ a b m id wy HT.out.ring.at_ (by omega) (.inr hc)).mono ?_
              rintro e wz ⟨rfl, bz⟩
              have HB := Lib.hid (below_later bz HB.out)
              obtain ⟨a1, b1, hT1⟩ : ∃ a1 b1, Two wz w.heap.size w1.heap.size a1 b1 m := ⟨a, b, HT.out.later bz⟩
              have HT := Lib.hid hT1
              clear hT1
              clear bz hc
              go_wp2_with fail
              refine (ringNext_any _ a1 b1 m _ HT.out.ring.at_).mono ?_
              rintro e w6 ⟨rfl, _, b6⟩
              have HB := Lib.hid (below_later b6 HB.out)
              have HT := Lib.hid (HT.out.later b6)
              clear b6
              obtain ⟨A, n, c, A', n', c', hB, _, hs'⟩ := HT.out.ref.out
              have cL : w6.cell? ⟨w1.heap.size, 1, none⟩ = some (.slice A' n' c') := hB.cell 1
              have hl := hs'.n_eq
              have hn63 : n' ≤ 9223372036854775807 := Nat.le_trans hs'.cap_le hs'.max_le
              by_cases h0 : n' = 0
              · subst h0
                obtain rfl : b1 = [] := List.length_eq_zero_iff.1 hl
                have e1 : ([] : List Int).getD 0 0 = 0 := rfl
                have e2 : decide (0 < ([] : List Int).length) = false := rfl
                rw [e1, e2]
                clear hB hs' hl e1 e2
                obtain ⟨q, hq⟩ : ∃ q, a1.length + ([] : List Int).length = q := ⟨_, rfl⟩
                have hql : (q : Int) ≤ m := by have := HT.out.len; rw [hq] at this; exact this
                have hw : IntKind.i64.wrap (m - (q : Int)) = m - (q : Int) := IntWalk.i64_in _ (by omega)
                have q1 : ((q : Int) != (q : Int)) = false := by simp
                have q2 : ((m - (q : Int)) != (m - (q : Int))) = false := by simp
                have LE := Lib.hid (fun v h => ringLen_any w.heap.size a1 [] m v h (by omega))
                have RO := Lib.hid (fun v h => ringRoom_any w.heap.size a1 [] m v h (by omega) (by omega))
                rw [hq] at LE RO
                go_wp2_with fail
                refine (ringList_any _ a1 [] m _ HT.out.ring.at_ (by omega)).mono ?_
                rintro e w7 ⟨L1, n1, c1, rfl, s1, b7⟩
                have S1 := Lib.hid (s1.more (S' := blo w7.heap.size) (fun _ h => h.2))
                have T7 := Lib.hid (HT.out.later b7)
                have B7 := Lib.hid (below_later b7 HB.out)
                clear s1 b7
                go_wp2_with fail
                refine (refAll_any _ _ a1 [] m _ T7.out.ref (by omega)).mono ?_
                rintro e w8 ⟨L2, n2, c2, rfl, s2, b8⟩
                have S2 := Lib.hid (s2.more (S' := blo w8.heap.size) (fun _ h => h.2))
                have S1 := Lib.hid (S1.out.later b8 (Nat.le_refl _))
                have T8 := Lib.hid (T7.out.later b8)
                have B8 := Lib.hid (below_later b8 B7.out)
                clear s2 b8 T7 B7
                go_wp2_with fail
                refine (sameInt_eq L1 L2 n1 c1 n2 c2 (a1 ++ []) w8 S1.out S2.out).mono ?_
                rintro e w9 ⟨rfl, b9⟩
                have T9 := Lib.hid (T8.out.later b9)
                have B9 := Lib.hid (below_later b9 B8.out)
                clear b9 T8 B8 S1 S2
                go_wp2_with fail
                refine (LE.out w9 T9.out.ring.at_).mono ?_
                rintro e w10 ⟨rfl, b10⟩
                have T10 := Lib.hid (T9.out.later b10)
                have B10 := Lib.hid (below_later b10 B9.out)
                clear b10 T9 B9 LE
                go_wp2_with fail
                refine (refAll_any _ _ a1 [] m _ T10.out.ref (by omega)).mono ?_
                rintro e w11 ⟨L3, n3, c3, rfl, s3, b11⟩
                obtain rfl : q = n3 := by have := s3.n_eq; rw [List.length_append, hq] at this; exact this
                have T11 := Lib.hid (T10.out.later b11)
                have B11 := Lib.hid (below_later b11 B10.out)
                clear s3 b11 T10 B10
                go_wp2_with fail
                refine (RO.out w11 T11.out.ring.at_).mono ?_
                rintro e w12 ⟨rfl, b12⟩
                have T12 := Lib.hid (T11.out.later b12)
                have B12 := Lib.hid (below_later b12 B11.out)
                clear b12 T11 B11 RO
                go_wp2_with fail
                refine (refAll_any _ _ a1 [] m _ T12.out.ref (by omega)).mono ?_
                rintro e w13 ⟨L4, n4, c4, rfl, s4, b13⟩
                obtain rfl : q = n4 := by have := s4.n_eq; rw [List.length_append, hq] at this; exact this
                have T13 := Lib.hid (T12.out.later b13)
                have B13 := Lib.hid (below_later b13 B12.out)
                clear s4 b13 T12 B12
                go_wp2_with fail
                exact ⟨⟨k + 1, a1, [], by omega, by go_num, T13.out, B13.out⟩, by simp [intOf]; omega⟩
              · obtain ⟨bb, off, rfl, _, _, cc, _⟩ := hs'.int_at 0 (by omega)
                rw [Nat.add_zero] at cc
                have hp0 : 1 ≤ b1.getD 0 0 := by
                  refine HT.out.pos _ ?_
                  rw [List.getD_eq_getElem?_getD, List.getElem?_eq_getElem (by omega)]
                  simp
                have e2 : decide (0 < b1.length) = true := by simp; omega
                rw [e2]
                obtain ⟨y, hy⟩ : ∃ y, b1.getD 0 0 = y := ⟨_, rfl⟩
                rw [hy] at cc hp0 ⊢
                have y1 : (y != y) = false := by simp
                have y2 : decide (0 < y) = true := by simp; omega
                have y3 : decide ((0 : Int) < (n' : Int)) = true := by simp; omega
                have y4 : (0 : Int) < (n' : Int) := by omega
                clear hB hs' hl e2 h0 hy
                obtain ⟨q, hq⟩ : ∃ q, a1.length + b1.length = q := ⟨_, rfl⟩
                have hql : (q : Int) ≤ m := by have := HT.out.len; rw [hq] at this; exact this
                have hw : IntKind.i64.wrap (m - (q : Int)) = m - (q : Int) := IntWalk.i64_in _ (by omega)
                have q1 : ((q : Int) != (q : Int)) = false := by simp
                have q2 : ((m - (q : Int)) != (m - (q : Int))) = false := by simp
                have LE := Lib.hid (fun v h => ringLen_any w.heap.size a1 b1 m v h (by omega))
                have RO := Lib.hid (fun v h => ringRoom_any w.heap.size a1 b1 m v h (by omega) (by omega))
                rw [hq] at LE RO
                go_wp2_with fail
                refine (ringList_any _ a1 b1 m _ HT.out.ring.at_ (by omega)).mono ?_
                rintro e w7 ⟨L1, n1, c1, rfl, s1, b7⟩
                have S1 := Lib.hid (s1.more (S' := blo w7.heap.size) (fun _ h => h.2))
                have T7 := Lib.hid (HT.out.later b7)
                have B7 := Lib.hid (below_later b7 HB.out)
                clear s1 b7
                go_wp2_with fail
                refine (refAll_any _ _ a1 b1 m _ T7.out.ref (by omega)).mono ?_
                rintro e w8 ⟨L2, n2, c2, rfl, s2, b8⟩
                have S2 := Lib.hid (s2.more (S' := blo w8.heap.size) (fun _ h => h.2))
                have S1 := Lib.hid (S1.out.later b8 (Nat.le_refl _))
                have T8 := Lib.hid (T7.out.later b8)
                have B8 := Lib.hid (below_later b8 B7.out)
                clear s2 b8 T7 B7
                go_wp2_with fail
                refine (sameInt_eq L1 L2 n1 c1 n2 c2 (a1 ++ b1) w8 S1.out S2.out).mono ?_
                rintro e w9 ⟨rfl, b9⟩
                have T9 := Lib.hid (T8.out.later b9)
                have B9 := Lib.hid (below_later b9 B8.out)
                clear b9 T8 B8 S1 S2
                go_wp2_with fail
                refine (LE.out w9 T9.out.ring.at_).mono ?_
                rintro e w10 ⟨rfl, b10⟩
                have T10 := Lib.hid (T9.out.later b10)
                have B10 := Lib.hid (below_later b10 B9.out)
                clear b10 T9 B9 LE
                go_wp2_with fail
                refine (refAll_any _ _ a1 b1 m _ T10.out.ref (by omega)).mono ?_
                rintro e w11 ⟨L3, n3, c3, rfl, s3, b11⟩
                obtain rfl : q = n3 := by have := s3.n_eq; rw [List.length_append, hq] at this; exact this
                have T11 := Lib.hid (T10.out.later b11)
                have B11 := Lib.hid (below_later b11 B10.out)
                clear s3 b11 T10 B10
                go_wp2_with fail
                refine (RO.out w11 T11.out.ring.at_).mono ?_
                rintro e w12 ⟨rfl, b12⟩
                have T12 := Lib.hid (T11.out.later b12)
                have B12 := Lib.hid (below_later b12 B11.out)
                clear b12 T11 B11 RO
                go_wp2_with fail
                refine (refAll_any _ _ a1 b1 m _ T12.out.ref (by omega)).mono ?_
                rintro e w13 ⟨L4, n4, c4, rfl, s4, b13⟩
                obtain rfl : q = n4 := by have := s4.n_eq; rw [List.length_append, hq] at this; exact this
                have T13 := Lib.hid (T12.out.later b13)
                have B13 := Lib.hid (below_later b13 B12.out)
                clear s4 b13 T12 B12
                go_wp2_with fail
                exact ⟨⟨k + 1, a1, b1, by omega, by go_num, T13.out, B13.out⟩, by simp [intOf]; omega⟩
            · have hc' : (a ++ b).contains id = false := by simpa using hc
              rw [hc'] at HA
              have HC := Lib.hid hc'
              clear hc hc'
              obtain ⟨q0, hq0⟩ : ∃ q0, a.length + b.length = q0 := ⟨_, rfl⟩
              go_wp2_with fail
              refine HA.out.mono ?_
              rintro e wy ⟨rfl, bz⟩
              have HB := Lib.hid (below_later bz HB.out)
              have HT := Lib.hid (HT.out.later bz)
              clear bz HA
              go_wp2_with fail
              refine (refAll_any _ _ a b m wy HT.out.ref (by omega)).mono ?_
              rintro e wx ⟨L0, n0, c0, rfl, s0, bz⟩
              obtain rfl : q0 = n0 := by have := s0.n_eq; rw [List.length_append, hq0] at this; exact this
              have HB := Lib.hid (below_later bz HB.out)
              have HT := Lib.hid (HT.out.later bz)
              clear bz s0
              by_cases hfull : (q0 : Int) = m
              · have j2 : ((q0 : Int) == m) = true := by simp [hfull]
                go_wp2_with fail
                refine (ringAdd_full _ a b m id wx HT.out.ring.at_ (by rw [hq0]; exact hfull) (by omega) (by omega) HC.out).mono ?_
                rintro e wz ⟨rfl, bz⟩
                have HB := Lib.hid (below_later bz HB.out)
                obtain ⟨a1, b1, hT1⟩ : ∃ a1 b1, Two wz w.heap.size w1.heap.size a1 b1 m := ⟨a, b, HT.out.later bz⟩
                have HT := Lib.hid hT1
                clear hT1
                clear bz
                go_wp2_with fail
                refine (ringNext_any _ a1 b1 m _ HT.out.ring.at_).mono ?_
                rintro e w6 ⟨rfl, _, b6⟩
                have HB := Lib.hid (below_later b6 HB.out)
                have HT := Lib.hid (HT.out.later b6)
                clear b6
                obtain ⟨A, n, c, A', n', c', hB, _, hs'⟩ := HT.out.ref.out
                have cL : w6.cell? ⟨w1.heap.size, 1, none⟩ = some (.slice A' n' c') := hB.cell 1
                have hl := hs'.n_eq
                have hn63 : n' ≤ 9223372036854775807 := Nat.le_trans hs'.cap_le hs'.max_le
                by_cases h0 : n' = 0
                · subst h0
                  obtain rfl : b1 = [] := List.length_eq_zero_iff.1 hl
                  have e1 : ([] : List Int).getD 0 0 = 0 := rfl
                  have e2 : decide (0 < ([] : List Int).length) = false := rfl
                  rw [e1, e2]
                  clear hB hs' hl e1 e2
                  obtain ⟨q, hq⟩ : ∃ q, a1.length + ([] : List Int).length = q := ⟨_, rfl⟩
                  have hql : (q : Int) ≤ m := by have := HT.out.len; rw [hq] at this; exact this
                  have hw : IntKind.i64.wrap (m - (q : Int)) = m - (q : Int) := IntWalk.i64_in _ (by omega)
                  have q1 : ((q : Int) != (q : Int)) = false := by simp
                  have q2 : ((m - (q : Int)) != (m - (q : Int))) = false := by simp
                  have LE := Lib.hid (fun v h => ringLen_any w.heap.size a1 [] m v h (by omega))
                  have RO := Lib.hid (fun v h => ringRoom_any w.heap.size a1 [] m v h (by omega) (by omega))
                  rw [hq] at LE RO
                  go_wp2_with fail
                  refine (ringList_any _ a1 [] m _ HT.out.ring.at_ (by omega)).mono ?_
                  rintro e w7 ⟨L1, n1, c1, rfl, s1, b7⟩
                  have S1 := Lib.hid (s1.more (S' := blo w7.heap.size) (fun _ h => h.2))
                  have T7 := Lib.hid (HT.out.later b7)
                  have B7 := Lib.hid (below_later b7 HB.out)
                  clear s1 b7
                  go_wp2_with fail
                  refine (refAll_any _ _ a1 [] m _ T7.out.ref (by omega)).mono ?_
                  rintro e w8 ⟨L2, n2, c2, rfl, s2, b8⟩
                  have S2 := Lib.hid (s2.more (S' := blo w8.heap.size) (fun _ h => h.2))
                  have S1 := Lib.hid (S1.out.later b8 (Nat.le_refl _))
                  have T8 := Lib.hid (T7.out.later b8)
                  have B8 := Lib.hid (below_later b8 B7.out)
                  clear s2 b8 T7 B7
                  go_wp2_with fail
                  refine (sameInt_eq L1 L2 n1 c1 n2 c2 (a1 ++ []) w8 S1.out S2.out).mono ?_
                  rintro e w9 ⟨rfl, b9⟩
                  have T9 := Lib.hid (T8.out.later b9)
                  have B9 := Lib.hid (below_later b9 B8.out)
                  clear b9 T8 B8 S1 S2
                  go_wp2_with fail
                  refine (LE.out w9 T9.out.ring.at_).mono ?_
                  rintro e w10 ⟨rfl, b10⟩
                  have T10 := Lib.hid (T9.out.later b10)
                  have B10 := Lib.hid (below_later b10 B9.out)
                  clear b10 T9 B9 LE
                  go_wp2_with fail
                  refine (refAll_any _ _ a1 [] m _ T10.out.ref (by omega)).mono ?_
                  rintro e w11 ⟨L3, n3, c3, rfl, s3, b11⟩
                  obtain rfl : q = n3 := by have := s3.n_eq; rw [List.length_append, hq] at this; exact this
                  have T11 := Lib.hid (T10.out.later b11)
                  have B11 := Lib.hid (below_later b11 B10.out)
                  clear s3 b11 T10 B10
                  go_wp2_with fail
                  refine (RO.out w11 T11.out.ring.at_).mono ?_
                  rintro e w12 ⟨rfl, b12⟩
                  have T12 := Lib.hid (T11.out.later b12)
                  have B12 := Lib.hid (below_later b12 B11.out)
                  clear b12 T11 B11 RO
                  go_wp2_with fail
                  refine (refAll_any _ _ a1 [] m _ T12.out.ref (by omega)).mono ?_
                  rintro e w13 ⟨L4, n4, c4, rfl, s4, b13⟩
                  obtain rfl : q = n4 := by have := s4.n_eq; rw [List.length_append, hq] at this; exact this
                  have T13 := Lib.hid (T12.out.later b13)
                  have B13 := Lib.hid (below_later b13 B12.out)
                  clear s4 b13 T12 B12
                  go_wp2_with fail
                  exact ⟨⟨k + 1, a1, [], by omega, by go_num, T13.out, B13.out⟩, by simp [intOf]; omega⟩
                · obtain ⟨bb, off, rfl, _, _, cc, _⟩ := hs'.int_at 0 (by omega)
                  rw [Nat.add_zero] at cc
                  have hp0 : 1 ≤ b1.getD 0 0 := by
                    refine HT.out.pos _ ?_
                    rw [List.getD_eq_getElem?_getD, List.getElem?_eq_getElem (by omega)]
                    simp
                  have e2 : decide (0 < b1.length) = true := by simp; omega
                  rw [e2]
                  obtain ⟨y, hy⟩ : ∃ y, b1.getD 0 0 = y := ⟨_, rfl⟩
                  rw [hy] at cc hp0 ⊢
                  have y1 : (y != y) = false := by simp
                  have y2 : decide (0 < y) = true := by simp; omega
                  have y3 : decide ((0 : Int) < (n' : Int)) = true := by simp; omega
                  have y4 : (0 : Int) < (n' : Int) := by omega
                  clear hB hs' hl e2 h0 hy
                  obtain ⟨q, hq⟩ : ∃ q, a1.length + b1.length = q := ⟨_, rfl⟩
                  have hql : (q : Int) ≤ m := by have := HT.out.len; rw [hq] at this; exact this
                  have hw : IntKind.i64.wrap (m - (q : Int)) = m - (q : Int) := IntWalk.i64_in _ (by omega)
                  have q1 : ((q : Int) != (q : Int)) = false := by simp
                  have q2 : ((m - (q : Int)) != (m - (q : Int))) = false := by simp
                  have LE := Lib.hid (fun v h => ringLen_any w.heap.size a1 b1 m v h (by omega))
                  have RO := Lib.hid (fun v h => ringRoom_any w.heap.size a1 b1 m v h (by omega) (by omega))
                  rw [hq] at LE RO
                  go_wp2_with fail
                  refine (ringList_any _ a1 b1 m _ HT.out.ring.at_ (by omega)).mono ?_
                  rintro e w7 ⟨L1, n1, c1, rfl, s1, b7⟩
                  have S1 := Lib.hid (s1.more (S' := blo w7.heap.size) (fun _ h => h.2))
                  have T7 := Lib.hid (HT.out.later b7)
                  have B7 := Lib.hid (below_later b7 HB.out)
                  clear s1 b7
                  go_wp2_with fail
                  refine (refAll_any _ _ a1 b1 m _ T7.out.ref (by omega)).mono ?_
                  rintro e w8 ⟨L2, n2, c2, rfl, s2, b8⟩
                  have S2 := Lib.hid (s2.more (S' := blo w8.heap.size) (fun _ h => h.2))
                  have S1 := Lib.hid (S1.out.later b8 (Nat.le_refl _))
                  have T8 := Lib.hid (T7.out.later b8)
                  have B8 := Lib.hid (below_later b8 B7.out)
                  clear s2 b8 T7 B7
                  go_wp2_with fail
                  refine (sameInt_eq L1 L2 n1 c1 n2 c2 (a1 ++ b1) w8 S1.out S2.out).mono ?_
                  rintro e w9 ⟨rfl, b9⟩
                  have T9 := Lib.hid (T8.out.later b9)
                  have B9 := Lib.hid (below_later b9 B8.out)
                  clear b9 T8 B8 S1 S2
                  go_wp2_with fail
                  refine (LE.out w9 T9.out.ring.at_).mono ?_
                  rintro e w10 ⟨rfl, b10⟩
                  have T10 := Lib.hid (T9.out.later b10)
                  have B10 := Lib.hid (below_later b10 B9.out)
                  clear b10 T9 B9 LE
                  go_wp2_with fail
                  refine (refAll_any _ _ a1 b1 m _ T10.out.ref (by omega)).mono ?_
                  rintro e w11 ⟨L3, n3, c3, rfl, s3, b11⟩
                  obtain rfl : q = n3 := by have := s3.n_eq; rw [List.length_append, hq] at this; exact this
                  have T11 := Lib.hid (T10.out.later b11)
                  have B11 := Lib.hid (below_later b11 B10.out)
                  clear s3 b11 T10 B10
                  go_wp2_with fail
                  refine (RO.out w11 T11.out.ring.at_).mono ?_
                  rintro e w12 ⟨rfl, b12⟩
                  have T12 := Lib.hid (T11.out.later b12)
                  have B12 := Lib.hid (below_later b12 B11.out)
                  clear b12 T11 B11 RO
                  go_wp2_with fail
                  refine (refAll_any _ _ a1 b1 m _ T12.out.ref (by omega)).mono ?_
                  rintro e w13 ⟨L4, n4, c4, rfl, s4, b13⟩
                  obtain rfl : q = n4 := by have := s4.n_eq; rw [List.length_append, hq] at this; exact this
                  have T13 := Lib.hid (T12.out.later b13)
                  have B13 := Lib.hid (below_later b13 B12.out)
                  clear s4 b13 T12 B12
                  go_wp2_with fail
                  exact ⟨⟨k + 1, a1, b1, by omega, by go_num, T13.out, B13.out⟩, by simp [intOf]; omega⟩
              · have j2 : ((q0 : Int) == m) = false := by simp [hfull]
                obtain ⟨A0, n0, c0, A0', n0', c0', hB, hs, hs'⟩ := HT.out.ref.out
                have hl := hs'.n_eq
                have c1 : wx.cell? ⟨w1.heap.size, 1, none⟩ = some (.slice A0' n0' c0') := hB.cell 1
                have hlt := hB.lt
                have hq : n0' ≤ 549755813888 := by omega
                have BB := Lib.hid hB
                have HS := Lib.hid hs
                have HS' := Lib.hid hs'
                have HID := Lib.hid hid
                clear hB hs hs' hl hid
                go_wp2_with fail
                refine (with_any A0' n0' c0' b id wx (HS'.out.more (fun _ h => h.1.1)) HID.out hq).mono ?_
                rintro e w3 ⟨B, q, r, rfl, s3, hb⟩
                have K3 := Lib.hid hb
                have BB := Lib.hid (BB.out.later hb)
                have z3 := hb.size
                have lw := HT.out.ring.lt
                have f1 := BB.out.frozen 1
                have c1 := BB.out.cell 1
                have lt3 := BB.out.lt
                have S3 := Lib.hid (s3.more (S' := fun x => (x < w3.heap.size ∧ ¬ x = w.heap.size) ∧ x ≠ w1.heap.size) (fun x hx => ⟨⟨hx.2, fun e => by have := hx.1; omega⟩, fun e => by have := hx.1; omega⟩))
                have HS := Lib.hid ((HS.out.below hb (fun _ h => h.1.1)).more (S' := fun x => (x < w3.heap.size ∧ ¬ x = w.heap.size) ∧ x ≠ w1.heap.size) (fun x hx => ⟨⟨Nat.lt_of_lt_of_le hx.1.1 z3, hx.1.2⟩, hx.2⟩))
                have HT3 := Lib.hid (HT.out.later hb)
                have HB3 := Lib.hid (below_later hb HB.out)
                clear hb s3 HS' HT HB
                go_wp2_with fail
                obtain ⟨w4, hw4⟩ : ∃ w4, w3.setCell ⟨w1.heap.size, 1, none⟩ (.slice B q r) = w4 := ⟨_, rfl⟩
                rw [hw4]
                have g4 : w3.grownBy w4 (some w1.heap.size) := by rw [← hw4]; exact grown_set _ _ _ _
                have hF4 : RefX (fun x => x = w.heap.size) w4 w1.heap.size a (b ++ [id]) m := by
                  rw [← hw4]
                  refine ⟨A0, n0, c0, _, _, _, BB.out.set_ 1 _, ?_, ?_⟩
                  · exact (HS.out.keep (w' := w3.setCell ⟨w1.heap.size, 1, none⟩ _) (fun k hk => Below.heap_setCell _ _ _ _ hk.2)).more (fun k hk => ⟨by simpa using hk.1, hk.2⟩)
                  · exact (S3.out.keep (w' := w3.setCell ⟨w1.heap.size, 1, none⟩ _) (fun k hk => Below.heap_setCell _ _ _ _ hk.2)).more (fun k hk => ⟨by simpa using hk.1, hk.2⟩)
                have HF4 := Lib.hid hF4
                have HR4 := Lib.hid (HT3.out.ring.other g4 HT3.out.ne rfl)
                have HB4 := Lib.hid (HB3.out.grown g4 HB3.out.size (fun k h => by have := Option.some.inj h; omega))
                have lf4 := HF4.out.lt
                clear hw4 hF4 g4 f1 c1 lt3 S3 HS BB HB3
                refine (ringAdd_x (fun x => x = w1.heap.size) w.heap.size a b m id w4 (fun x hx => by rw [hx]; exact lf4) HR4.out (by rw [hq0]; omega) (by omega) (by omega) HID.out HC.out).mono ?_
                rintro e wz ⟨rfl, hr, g1⟩
                have hT : ∃ a1 b1, Two wz w.heap.size w1.heap.size a1 b1 m := ⟨_, _, hr, HF4.out.other g1 (fun e => HT3.out.ne e.symm) rfl, by
                  intro x hx
                  rw [← List.append_assoc] at hx
                  rcases List.mem_append.1 hx with h | h
                  · exact HT3.out.pos x h
                  · rw [List.mem_singleton] at h; omega, by simp; omega, HT3.out.ne⟩
                have HB := Lib.hid (HB4.out.grown g1 HB4.out.size (fun k h => by have := Option.some.inj h; omega))
                clear hr g1 HF4 HR4 HT3 HB4 lf4
                obtain ⟨a1, b1, hT1⟩ := hT
                have HT := Lib.hid hT1
                clear hT1
                go_wp2_with fail
                refine (ringNext_any _ a1 b1 m _ HT.out.ring.at_).mono ?_
                rintro e w6 ⟨rfl, _, b6⟩
                have HB := Lib.hid (below_later b6 HB.out)
                have HT := Lib.hid (HT.out.later b6)
                clear b6
                obtain ⟨A, n, c, A', n', c', hB, _, hs'⟩ := HT.out.ref.out
                have cL : w6.cell? ⟨w1.heap.size, 1, none⟩ = some (.slice A' n' c') := hB.cell 1
                have hl := hs'.n_eq
                have hn63 : n' ≤ 9223372036854775807 := Nat.le_trans hs'.cap_le hs'.max_le
                by_cases h0 : n' = 0
                · subst h0
                  obtain rfl : b1 = [] := List.length_eq_zero_iff.1 hl
                  have e1 : ([] : List Int).getD 0 0 = 0 := rfl
                  have e2 : decide (0 < ([] : List Int).length) = false := rfl
                  rw [e1, e2]
                  clear hB hs' hl e1 e2
                  obtain ⟨q, hq⟩ : ∃ q, a1.length + ([] : List Int).length = q := ⟨_, rfl⟩
                  have hql : (q : Int) ≤ m := by have := HT.out.len; rw [hq] at this; exact this
                  have hw : IntKind.i64.wrap (m - (q : Int)) = m - (q : Int) := IntWalk.i64_in _ (by omega)
                  have q1 : ((q : Int) != (q : Int)) = false := by simp
                  have q2 : ((m - (q : Int)) != (m - (q : Int))) = false := by simp
                  have LE := Lib.hid (fun v h => ringLen_any w.heap.size a1 [] m v h (by omega))
                  have RO := Lib.hid (fun v h => ringRoom_any w.heap.size a1 [] m v h (by omega) (by omega))
                  rw [hq] at LE RO
                  go_wp2_with fail
                  refine (ringList_any _ a1 [] m _ HT.out.ring.at_ (by omega)).mono ?_
                  rintro e w7 ⟨L1, n1, c1, rfl, s1, b7⟩
                  have S1 := Lib.hid (s1.more (S' := blo w7.heap.size) (fun _ h => h.2))
                  have T7 := Lib.hid (HT.out.later b7)
                  have B7 := Lib.hid (below_later b7 HB.out)
                  clear s1 b7
                  go_wp2_with fail
                  refine (refAll_any _ _ a1 [] m _ T7.out.ref (by omega)).mono ?_
                  rintro e w8 ⟨L2, n2, c2, rfl, s2, b8⟩
                  have S2 := Lib.hid (s2.more (S' := blo w8.heap.size) (fun _ h => h.2))
                  have S1 := Lib.hid (S1.out.later b8 (Nat.le_refl _))
                  have T8 := Lib.hid (T7.out.later b8)
                  have B8 := Lib.hid (below_later b8 B7.out)
                  clear s2 b8 T7 B7
                  go_wp2_with fail
                  refine (sameInt_eq L1 L2 n1 c1 n2 c2 (a1 ++ []) w8 S1.out S2.out).mono ?_
                  rintro e w9 ⟨rfl, b9⟩
                  have T9 := Lib.hid (T8.out.later b9)
                  have B9 := Lib.hid (below_later b9 B8.out)
                  clear b9 T8 B8 S1 S2
                  go_wp2_with fail
                  refine (LE.out w9 T9.out.ring.at_).mono ?_
                  rintro e w10 ⟨rfl, b10⟩
                  have T10 := Lib.hid (T9.out.later b10)
                  have B10 := Lib.hid (below_later b10 B9.out)
                  clear b10 T9 B9 LE
                  go_wp2_with fail
                  refine (refAll_any _ _ a1 [] m _ T10.out.ref (by omega)).mono ?_
                  rintro e w11 ⟨L3, n3, c3, rfl, s3, b11⟩
                  obtain rfl : q = n3 := by have := s3.n_eq; rw [List.length_append, hq] at this; exact this
                  have T11 := Lib.hid (T10.out.later b11)
                  have B11 := Lib.hid (below_later b11 B10.out)
                  clear s3 b11 T10 B10
                  go_wp2_with fail
                  refine (RO.out w11 T11.out.ring.at_).mono ?_
                  rintro e w12 ⟨rfl, b12⟩
                  have T12 := Lib.hid (T11.out.later b12)
                  have B12 := Lib.hid (below_later b12 B11.out)
                  clear b12 T11 B11 RO
                  go_wp2_with fail
                  refine (refAll_any _ _ a1 [] m _ T12.out.ref (by omega)).mono ?_
                  rintro e w13 ⟨L4, n4, c4, rfl, s4, b13⟩
                  obtain rfl : q = n4 := by have := s4.n_eq; rw [List.length_append, hq] at this; exact this
                  have T13 := Lib.hid (T12.out.later b13)
                  have B13 := Lib.hid (below_later b13 B12.out)
                  clear s4 b13 T12 B12
                  go_wp2_with fail
                  exact ⟨⟨k + 1, a1, [], by omega, by go_num, T13.out, B13.out⟩, by simp [intOf]; omega⟩
                · obtain ⟨bb, off, rfl, _, _, cc, _⟩ := hs'.int_at 0 (by omega)
                  rw [Nat.add_zero] at cc
                  have hp0 : 1 ≤ b1.getD 0 0 := by
                    refine HT.out.pos _ ?_
                    rw [List.getD_eq_getElem?_getD, List.getElem?_eq_getElem (by omega)]
                    simp
                  have e2 : decide (0 < b1.length) = true := by simp; omega
                  rw [e2]
                  obtain ⟨y, hy⟩ : ∃ y, b1.getD 0 0 = y := ⟨_, rfl⟩
                  rw [hy] at cc hp0 ⊢
                  have y1 : (y != y) = false := by simp
                  have y2 : decide (0 < y) = true := by simp; omega
                  have y3 : decide ((0 : Int) < (n' : Int)) = true := by simp; omega
                  have y4 : (0 : Int) < (n' : Int) := by omega
                  clear hB hs' hl e2 h0 hy
                  obtain ⟨q, hq⟩ : ∃ q, a1.length + b1.length = q := ⟨_, rfl⟩
                  have hql : (q : Int) ≤ m := by have := HT.out.len; rw [hq] at this; exact this
                  have hw : IntKind.i64.wrap (m - (q : Int)) = m - (q : Int) := IntWalk.i64_in _ (by omega)
                  have q1 : ((q : Int) != (q : Int)) = false := by simp
                  have q2 : ((m - (q : Int)) != (m - (q : Int))) = false := by simp
                  have LE := Lib.hid (fun v h => ringLen_any w.heap.size a1 b1 m v h (by omega))
                  have RO := Lib.hid (fun v h => ringRoom_any w.heap.size a1 b1 m v h (by omega) (by omega))
                  rw [hq] at LE RO
                  go_wp2_with fail
                  refine (ringList_any _ a1 b1 m _ HT.out.ring.at_ (by omega)).mono ?_
                  rintro e w7 ⟨L1, n1, c1, rfl, s1, b7⟩
                  have S1 := Lib.hid (s1.more (S' := blo w7.heap.size) (fun _ h => h.2))
                  have T7 := Lib.hid (HT.out.later b7)
                  have B7 := Lib.hid (below_later b7 HB.out)
                  clear s1 b7
                  go_wp2_with fail
                  refine (refAll_any _ _ a1 b1 m _ T7.out.ref (by omega)).mono ?_
                  rintro e w8 ⟨L2, n2, c2, rfl, s2, b8⟩
                  have S2 := Lib.hid (s2.more (S' := blo w8.heap.size) (fun _ h => h.2))
                  have S1 := Lib.hid (S1.out.later b8 (Nat.le_refl _))
                  have T8 := Lib.hid (T7.out.later b8)
                  have B8 := Lib.hid (below_later b8 B7.out)
                  clear s2 b8 T7 B7
                  go_wp2_with fail
                  refine (sameInt_eq L1 L2 n1 c1 n2 c2 (a1 ++ b1) w8 S1.out S2.out).mono ?_
                  rintro e w9 ⟨rfl, b9⟩
                  have T9 := Lib.hid (T8.out.later b9)
                  have B9 := Lib.hid (below_later b9 B8.out)
                  clear b9 T8 B8 S1 S2
                  go_wp2_with fail
                  refine (LE.out w9 T9.out.ring.at_).mono ?_
                  rintro e w10 ⟨rfl, b10⟩
                  have T10 := Lib.hid (T9.out.later b10)
                  have B10 := Lib.hid (below_later b10 B9.out)
                  clear b10 T9 B9 LE
                  go_wp2_with fail
                  refine (refAll_any _ _ a1 b1 m _ T10.out.ref (by omega)).mono ?_
                  rintro e w11 ⟨L3, n3, c3, rfl, s3, b11⟩
                  obtain rfl : q = n3 := by have := s3.n_eq; rw [List.length_append, hq] at this; exact this
                  have T11 := Lib.hid (T10.out.later b11)
                  have B11 := Lib.hid (below_later b11 B10.out)
                  clear s3 b11 T10 B10
                  go_wp2_with fail
                  refine (RO.out w11 T11.out.ring.at_).mono ?_
                  rintro e w12 ⟨rfl, b12⟩
                  have T12 := Lib.hid (T11.out.later b12)
                  have B12 := Lib.hid (below_later b12 B11.out)
                  clear b12 T11 B11 RO
                  go_wp2_with fail
                  refine (refAll_any _ _ a1 b1 m _ T12.out.ref (by omega)).mono ?_
                  rintro e w13 ⟨L4, n4, c4, rfl, s4, b13⟩
                  obtain rfl : q = n4 := by have := s4.n_eq; rw [List.length_append, hq] at this; exact this
                  have T13 := Lib.hid (T12.out.later b13)
                  have B13 := Lib.hid (below_later b13 B12.out)
                  clear s4 b13 T12 B12
                  go_wp2_with fail
                  exact ⟨⟨k + 1, a1, b1, by omega, by go_num, T13.out, B13.out⟩, by simp [intOf]; omega⟩
        by_cases z1 : z = 1
        · as_aux_lemma =>
          subst z1
          have k0 : (kd.tmod 6 == 0) = false := by rw [hz]; rfl
          have k1 : (kd.tmod 6 == 1) = true := by rw [hz]; rfl
          go_wp2_with fail
          refine (ringBegin_x (fun x => x = w1.heap.size) w.heap.size a b m wr (fun x hx => by rw [hx]; exact HT.out.ref.lt) HT.out.ring (by omega)).mono ?_
          rintro e wy ⟨rfl, hr, g1⟩
          have hbY := HB.out.grown g1 HB.out.size (fun k h => by have := Option.some.inj h; omega)
          have HH := Lib.hid (HT.out.half g1)
          have HR := Lib.hid hr
          have zy := g1.size
          clear hr

          go_wp2_with fail
          refine (refBegin_x (fun x => x = w.heap.size) w1.heap.size a b m wy (fun x hx => by rw [hx]; exact HR.out.lt) HH.out (by omega)).mono ?_
          rintro e wz ⟨rfl, hf, g2⟩
          have HBz := Lib.hid (hbY.grown g2 hbY.size (fun k h => by have := Option.some.inj h; omega))
          have HTz := Lib.hid (HT.out.turn HR.out hf g2 (by intro x hx; exact HT.out.pos x (by simpa using hx)) (by simpa using HT.out.len))
          clear hf g2 g1 hbY HR HH HB HT
          have hT : ∃ a1 b1, Two wz w.heap.size w1.heap.size a1 b1 m := ⟨_, _, HTz.out⟩
          have HB := HBz
          clear HBz HTz
          obtain ⟨a1, b1, hT1⟩ := hT
          have HT := Lib.hid hT1
          clear hT1


          go_wp2_with fail
          refine (ringNext_any _ a1 b1 m _ HT.out.ring.at_).mono ?_
          rintro e w6 ⟨rfl, _, b6⟩
          have HB := Lib.hid (below_later b6 HB.out)
          have HT := Lib.hid (HT.out.later b6)
          clear b6
          obtain ⟨A, n, c, A', n', c', hB, _, hs'⟩ := HT.out.ref.out
          have cL : w6.cell? ⟨w1.heap.size, 1, none⟩ = some (.slice A' n' c') := hB.cell 1
          have hl := hs'.n_eq
          have hn63 : n' ≤ 9223372036854775807 := Nat.le_trans hs'.cap_le hs'.max_le
          by_cases h0 : n' = 0
          · subst h0
            obtain rfl : b1 = [] := List.length_eq_zero_iff.1 hl
            have e1 : ([] : List Int).getD 0 0 = 0 := rfl
            have e2 : decide (0 < ([] : List Int).length) = false := rfl
            rw [e1, e2]
            clear hB hs' hl e1 e2
            obtain ⟨q, hq⟩ : ∃ q, a1.length + ([] : List Int).length = q := ⟨_, rfl⟩
            have hql : (q : Int) ≤ m := by have := HT.out.len; rw [hq] at this; exact this
            have hw : IntKind.i64.wrap (m - (q : Int)) = m - (q : Int) := IntWalk.i64_in _ (by omega)
            have q1 : ((q : Int) != (q : Int)) = false := by simp
            have q2 : ((m - (q : Int)) != (m - (q : Int))) = false := by simp
            have LE := Lib.hid (fun v h => ringLen_any w.heap.size a1 [] m v h (by omega))
            have RO := Lib.hid (fun v h => ringRoom_any w.heap.size a1 [] m v h (by omega) (by omega))
            rw [hq] at LE RO
            go_wp2_with fail
            refine (ringList_any _ a1 [] m _ HT.out.ring.at_ (by omega)).mono ?_
            rintro e w7 ⟨L1, n1, c1, rfl, s1, b7⟩
            have S1 := Lib.hid (s1.more (S' := blo w7.heap.size) (fun _ h => h.2))
            have T7 := Lib.hid (HT.out.later b7)
            have B7 := Lib.hid (below_later b7 HB.out)
            clear s1 b7
            go_wp2_with fail
            refine (refAll_any _ _ a1 [] m _ T7.out.ref (by omega)).mono ?_
            rintro e w8 ⟨L2, n2, c2, rfl, s2, b8⟩
            have S2 := Lib.hid (s2.more (S' := blo w8.heap.size) (fun _ h => h.2))
            have S1 := Lib.hid (S1.out.later b8 (Nat.le_refl _))
            have T8 := Lib.hid (T7.out.later b8)
            have B8 := Lib.hid (below_later b8 B7.out)
            clear s2 b8 T7 B7
            go_wp2_with fail
            refine (sameInt_eq L1 L2 n1 c1 n2 c2 (a1 ++ []) w8 S1.out S2.out).mono ?_
            rintro e w9 ⟨rfl, b9⟩
            have T9 := Lib.hid (T8.out.later b9)
            have B9 := Lib.hid (below_later b9 B8.out)
            clear b9 T8 B8 S1 S2
            go_wp2_with fail
            refine (LE.out w9 T9.out.ring.at_).mono ?_
            rintro e w10 ⟨rfl, b10⟩
            have T10 := Lib.hid (T9.out.later b10)
            have B10 := Lib.hid (below_later b10 B9.out)
            clear b10 T9 B9 LE
            go_wp2_with fail
            refine (refAll_any _ _ a1 [] m _ T10.out.ref (by omega)).mono ?_
            rintro e w11 ⟨L3, n3, c3, rfl, s3, b11⟩
            obtain rfl : q = n3 := by have := s3.n_eq; rw [List.length_append, hq] at this; exact this
            have T11 := Lib.hid (T10.out.later b11)
            have B11 := Lib.hid (below_later b11 B10.out)
            clear s3 b11 T10 B10
            go_wp2_with fail
            refine (RO.out w11 T11.out.ring.at_).mono ?_
            rintro e w12 ⟨rfl, b12⟩
            have T12 := Lib.hid (T11.out.later b12)
            have B12 := Lib.hid (below_later b12 B11.out)
            clear b12 T11 B11 RO
            go_wp2_with fail
            refine (refAll_any _ _ a1 [] m _ T12.out.ref (by omega)).mono ?_
            rintro e w13 ⟨L4, n4, c4, rfl, s4, b13⟩
            obtain rfl : q = n4 := by have := s4.n_eq; rw [List.length_append, hq] at this; exact this
            have T13 := Lib.hid (T12.out.later b13)
            have B13 := Lib.hid (below_later b13 B12.out)
            clear s4 b13 T12 B12
            go_wp2_with fail
            exact ⟨⟨k + 1, a1, [], by omega, by go_num, T13.out, B13.out⟩, by simp [intOf]; omega⟩
          · obtain ⟨bb, off, rfl, _, _, cc, _⟩ := hs'.int_at 0 (by omega)
            rw [Nat.add_zero] at cc
            have hp0 : 1 ≤ b1.getD 0 0 := by
              refine HT.out.pos _ ?_
              rw [List.getD_eq_getElem?_getD, List.getElem?_eq_getElem (by omega)]
              simp
            have e2 : decide (0 < b1.length) = true := by simp; omega
            rw [e2]
            obtain ⟨y, hy⟩ : ∃ y, b1.getD 0 0 = y := ⟨_, rfl⟩
            rw [hy] at cc hp0 ⊢
            have y1 : (y != y) = false := by simp
            have y2 : decide (0 < y) = true := by simp; omega
            have y3 : decide ((0 : Int) < (n' : Int)) = true := by simp; omega
            have y4 : (0 : Int) < (n' : Int) := by omega
            clear hB hs' hl e2 h0 hy
            obtain ⟨q, hq⟩ : ∃ q, a1.length + b1.length = q := ⟨_, rfl⟩
            have hql : (q : Int) ≤ m := by have := HT.out.len; rw [hq] at this; exact this
            have hw : IntKind.i64.wrap (m - (q : Int)) = m - (q : Int) := IntWalk.i64_in _ (by omega)
            have q1 : ((q : Int) != (q : Int)) = false := by simp
            have q2 : ((m - (q : Int)) != (m - (q : Int))) = false := by simp
            have LE := Lib.hid (fun v h => ringLen_any w.heap.size a1 b1 m v h (by omega))
            have RO := Lib.hid (fun v h => ringRoom_any w.heap.size a1 b1 m v h (by omega) (by omega))
            rw [hq] at LE RO
            go_wp2_with fail
            refine (ringList_any _ a1 b1 m _ HT.out.ring.at_ (by omega)).mono ?_
            rintro e w7 ⟨L1, n1, c1, rfl, s1, b7⟩
            have S1 := Lib.hid (s1.more (S' := blo w7.heap.size) (fun _ h => h.2))
            have T7 := Lib.hid (HT.out.later b7)
            have B7 := Lib.hid (below_later b7 HB.out)
            clear s1 b7
            go_wp2_with fail
            refine (refAll_any _ _ a1 b1 m _ T7.out.ref (by omega)).mono ?_
            rintro e w8 ⟨L2, n2, c2, rfl, s2, b8⟩
            have S2 := Lib.hid (s2.more (S' := blo w8.heap.size) (fun _ h => h.2))
            have S1 := Lib.hid (S1.out.later b8 (Nat.le_refl _))
            have T8 := Lib.hid (T7.out.later b8)
            have B8 := Lib.hid (below_later b8 B7.out)
            clear s2 b8 T7 B7
            go_wp2_with fail
            refine (sameInt_eq L1 L2 n1 c1 n2 c2 (a1 ++ b1) w8 S1.out S2.out).mono ?_
            rintro e w9 ⟨rfl, b9⟩
            have T9 := Lib.hid (T8.out.later b9)
            have B9 := Lib.hid (below_later b9 B8.out)
            clear b9 T8 B8 S1 S2
            go_wp2_with fail
            refine (LE.out w9 T9.out.ring.at_).mono ?_
            rintro e w10 ⟨rfl, b10⟩
            have T10 := Lib.hid (T9.out.later b10)
            have B10 := Lib.hid (below_later b10 B9.out)
            clear b10 T9 B9 LE
            go_wp2_with fail
            refine (refAll_any _ _ a1 b1 m _ T10.out.ref (by omega)).mono ?_
            rintro e w11 ⟨L3, n3, c3, rfl, s3, b11⟩
            obtain rfl : q = n3 := by have := s3.n_eq; rw [List.length_append, hq] at this; exact this
            have T11 := Lib.hid (T10.out.later b11)
            have B11 := Lib.hid (below_later b11 B10.out)
            clear s3 b11 T10 B10
            go_wp2_with fail
            refine (RO.out w11 T11.out.ring.at_).mono ?_
            rintro e w12 ⟨rfl, b12⟩
            have T12 := Lib.hid (T11.out.later b12)
            have B12 := Lib.hid (below_later b12 B11.out)
            clear b12 T11 B11 RO
            go_wp2_with fail
            refine (refAll_any _ _ a1 b1 m _ T12.out.ref (by omega)).mono ?_
            rintro e w13 ⟨L4, n4, c4, rfl, s4, b13⟩
            obtain rfl : q = n4 := by have := s4.n_eq; rw [List.length_append, hq] at this; exact this
            have T13 := Lib.hid (T12.out.later b13)
            have B13 := Lib.hid (below_later b13 B12.out)
            clear s4 b13 T12 B12
            go_wp2_with fail
            exact ⟨⟨k + 1, a1, b1, by omega, by go_num, T13.out, B13.out⟩, by simp [intOf]; omega⟩
        by_cases z2 : z = 2
        · as_aux_lemma =>
          subst z2
          have k0 : (kd.tmod 6 == 0) = false := by rw [hz]; rfl
          have k1 : (kd.tmod 6 == 1) = false := by rw [hz]; rfl
          have k2 : (kd.tmod 6 == 2) = true := by rw [hz]; rfl
          go_wp2_with fail
          refine (ringServed_x (fun x => x = w1.heap.size) w.heap.size a b m wr (fun x hx => by rw [hx]; exact HT.out.ref.lt) HT.out.ring (by omega)).mono ?_
          rintro e wy ⟨rfl, hr, g1⟩
          have hbY := HB.out.grown g1 HB.out.size (fun k h => by have := Option.some.inj h; omega)
          have HH := Lib.hid (HT.out.half g1)
          have HR := Lib.hid hr
          have zy := g1.size
          clear hr

          go_wp2_with fail
          refine (refServed_x (fun x => x = w.heap.size) w1.heap.size a b m wy (fun x hx => by rw [hx]; exact HR.out.lt) HH.out HT.out.nz HT.out.all (by omega)).mono ?_
          rintro e wz ⟨rfl, hf, g2⟩
          have HBz := Lib.hid (hbY.grown g2 hbY.size (fun k h => by have := Option.some.inj h; omega))
          have HTz := Lib.hid (HT.out.turn HR.out hf g2 (by intro x hx; rcases List.mem_append.1 hx with h | h; exact HT.out.pos x (by simp [h]); exact HT.out.pos x (by simp [turned_mem h])) (by rw [turned_len]; exact HT.out.len))
          clear hf g2 g1 hbY HR HH HB HT
          have hT : ∃ a1 b1, Two wz w.heap.size w1.heap.size a1 b1 m := ⟨_, _, HTz.out⟩
          have HB := HBz
          clear HBz HTz
          obtain ⟨a1, b1, hT1⟩ := hT
          have HT := Lib.hid hT1
          clear hT1


          go_wp2_with fail
          refine (ringNext_any _ a1 b1 m _ HT.out.ring.at_).mono ?_
          rintro e w6 ⟨rfl, _, b6⟩
          have HB := Lib.hid (below_later b6 HB.out)
          have HT := Lib.hid (HT.out.later b6)
          clear b6
          obtain ⟨A, n, c, A', n', c', hB, _, hs'⟩ := HT.out.ref.out
          have cL : w6.cell? ⟨w1.heap.size, 1, none⟩ = some (.slice A' n' c') := hB.cell 1
          have hl := hs'.n_eq
          have hn63 : n' ≤ 9223372036854775807 := Nat.le_trans hs'.cap_le hs'.max_le
          by_cases h0 : n' = 0
          · subst h0
            obtain rfl : b1 = [] := List.length_eq_zero_iff.1 hl
            have e1 : ([] : List Int).getD 0 0 = 0 := rfl
            have e2 : decide (0 < ([] : List Int).length) = false := rfl
            rw [e1, e2]
            clear hB hs' hl e1 e2
            obtain ⟨q, hq⟩ : ∃ q, a1.length + ([] : List Int).length = q := ⟨_, rfl⟩
            have hql : (q : Int) ≤ m := by have := HT.out.len; rw [hq] at this; exact this
            have hw : IntKind.i64.wrap (m - (q : Int)) = m - (q : Int) := IntWalk.i64_in _ (by omega)
            have q1 : ((q : Int) != (q : Int)) = false := by simp
            have q2 : ((m - (q : Int)) != (m - (q : Int))) = false := by simp
            have LE := Lib.hid (fun v h => ringLen_any w.heap.size a1 [] m v h (by omega))
            have RO := Lib.hid (fun v h => ringRoom_any w.heap.size a1 [] m v h (by omega) (by omega))
            rw [hq] at LE RO
            go_wp2_with fail
            refine (ringList_any _ a1 [] m _ HT.out.ring.at_ (by omega)).mono ?_
            rintro e w7 ⟨L1, n1, c1, rfl, s1, b7⟩
            have S1 := Lib.hid (s1.more (S' := blo w7.heap.size) (fun _ h => h.2))
            have T7 := Lib.hid (HT.out.later b7)
            have B7 := Lib.hid (below_later b7 HB.out)
            clear s1 b7
            go_wp2_with fail
            refine (refAll_any _ _ a1 [] m _ T7.out.ref (by omega)).mono ?_
            rintro e w8 ⟨L2, n2, c2, rfl, s2, b8⟩
            have S2 := Lib.hid (s2.more (S' := blo w8.heap.size) (fun _ h => h.2))
            have S1 := Lib.hid (S1.out.later b8 (Nat.le_refl _))
            have T8 := Lib.hid (T7.out.later b8)
            have B8 := Lib.hid (below_later b8 B7.out)
            clear s2 b8 T7 B7
            go_wp2_with fail
            refine (sameInt_eq L1 L2 n1 c1 n2 c2 (a1 ++ []) w8 S1.out S2.out).mono ?_
            rintro e w9 ⟨rfl, b9⟩
            have T9 := Lib.hid (T8.out.later b9)
            have B9 := Lib.hid (below_later b9 B8.out)
            clear b9 T8 B8 S1 S2
            go_wp2_with fail
            refine (LE.out w9 T9.out.ring.at_).mono ?_
            rintro e w10 ⟨rfl, b10⟩
            have T10 := Lib.hid (T9.out.later b10)
            have B10 := Lib.hid (below_later b10 B9.out)
            clear b10 T9 B9 LE
            go_wp2_with fail
            refine (refAll_any _ _ a1 [] m _ T10.out.ref (by omega)).mono ?_
            rintro e w11 ⟨L3, n3, c3, rfl, s3, b11⟩
            obtain rfl : q = n3 := by have := s3.n_eq; rw [List.length_append, hq] at this; exact this
            have T11 := Lib.hid (T10.out.later b11)
            have B11 := Lib.hid (below_later b11 B10.out)
            clear s3 b11 T10 B10
            go_wp2_with fail
            refine (RO.out w11 T11.out.ring.at_).mono ?_
            rintro e w12 ⟨rfl, b12⟩
            have T12 := Lib.hid (T11.out.later b12)
            have B12 := Lib.hid (below_later b12 B11.out)
            clear b12 T11 B11 RO
            go_wp2_with fail
            refine (refAll_any _ _ a1 [] m _ T12.out.ref (by omega)).mono ?_
            rintro e w13 ⟨L4, n4, c4, rfl, s4, b13⟩
            obtain rfl : q = n4 := by have := s4.n_eq; rw [List.length_append, hq] at this; exact this
            have T13 := Lib.hid (T12.out.later b13)
            have B13 := Lib.hid (below_later b13 B12.out)
            clear s4 b13 T12 B12
            go_wp2_with fail
            exact ⟨⟨k + 1, a1, [], by omega, by go_num, T13.out, B13.out⟩, by simp [intOf]; omega⟩
          · obtain ⟨bb, off, rfl, _, _, cc, _⟩ := hs'.int_at 0 (by omega)
            rw [Nat.add_zero] at cc
            have hp0 : 1 ≤ b1.getD 0 0 := by
              refine HT.out.pos _ ?_
              rw [List.getD_eq_getElem?_getD, List.getElem?_eq_getElem (by omega)]
              simp
            have e2 : decide (0 < b1.length) = true := by simp; omega
            rw [e2]
            obtain ⟨y, hy⟩ : ∃ y, b1.getD 0 0 = y := ⟨_, rfl⟩
            rw [hy] at cc hp0 ⊢
            have y1 : (y != y) = false := by simp
            have y2 : decide (0 < y) = true := by simp; omega
            have y3 : decide ((0 : Int) < (n' : Int)) = true := by simp; omega
            have y4 : (0 : Int) < (n' : Int) := by omega
            clear hB hs' hl e2 h0 hy
            obtain ⟨q, hq⟩ : ∃ q, a1.length + b1.length = q := ⟨_, rfl⟩
            have hql : (q : Int) ≤ m := by have := HT.out.len; rw [hq] at this; exact this
            have hw : IntKind.i64.wrap (m - (q : Int)) = m - (q : Int) := IntWalk.i64_in _ (by omega)
            have q1 : ((q : Int) != (q : Int)) = false := by simp
            have q2 : ((m - (q : Int)) != (m - (q : Int))) = false := by simp
            have LE := Lib.hid (fun v h => ringLen_any w.heap.size a1 b1 m v h (by omega))
            have RO := Lib.hid (fun v h => ringRoom_any w.heap.size a1 b1 m v h (by omega) (by omega))
            rw [hq] at LE RO
            go_wp2_with fail
            refine (ringList_any _ a1 b1 m _ HT.out.ring.at_ (by omega)).mono ?_
            rintro e w7 ⟨L1, n1, c1, rfl, s1, b7⟩
            have S1 := Lib.hid (s1.more (S' := blo w7.heap.size) (fun _ h => h.2))
            have T7 := Lib.hid (HT.out.later b7)
            have B7 := Lib.hid (below_later b7 HB.out)
            clear s1 b7
            go_wp2_with fail
            refine (refAll_any _ _ a1 b1 m _ T7.out.ref (by omega)).mono ?_
            rintro e w8 ⟨L2, n2, c2, rfl, s2, b8⟩
            have S2 := Lib.hid (s2.more (S' := blo w8.heap.size) (fun _ h => h.2))
            have S1 := Lib.hid (S1.out.later b8 (Nat.le_refl _))
            have T8 := Lib.hid (T7.out.later b8)
            have B8 := Lib.hid (below_later b8 B7.out)
            clear s2 b8 T7 B7
            go_wp2_with fail
            refine (sameInt_eq L1 L2 n1 c1 n2 c2 (a1 ++ b1) w8 S1.out S2.out).mono ?_
            rintro e w9 ⟨rfl, b9⟩
            have T9 := Lib.hid (T8.out.later b9)
            have B9 := Lib.hid (below_later b9 B8.out)
            clear b9 T8 B8 S1 S2
            go_wp2_with fail
            refine (LE.out w9 T9.out.ring.at_).mono ?_
            rintro e w10 ⟨rfl, b10⟩
            have T10 := Lib.hid (T9.out.later b10)
            have B10 := Lib.hid (below_later b10 B9.out)
            clear b10 T9 B9 LE
            go_wp2_with fail
            refine (refAll_any _ _ a1 b1 m _ T10.out.ref (by omega)).mono ?_
            rintro e w11 ⟨L3, n3, c3, rfl, s3, b11⟩
            obtain rfl : q = n3 := by have := s3.n_eq; rw [List.length_append, hq] at this; exact this
            have T11 := Lib.hid (T10.out.later b11)
            have B11 := Lib.hid (below_later b11 B10.out)
            clear s3 b11 T10 B10
            go_wp2_with fail
            refine (RO.out w11 T11.out.ring.at_).mono ?_
            rintro e w12 ⟨rfl, b12⟩
            have T12 := Lib.hid (T11.out.later b12)
            have B12 := Lib.hid (below_later b12 B11.out)
            clear b12 T11 B11 RO
            go_wp2_with fail
            refine (refAll_any _ _ a1 b1 m _ T12.out.ref (by omega)).mono ?_
            rintro e w13 ⟨L4, n4, c4, rfl, s4, b13⟩
            obtain rfl : q = n4 := by have := s4.n_eq; rw [List.length_append, hq] at this; exact this
            have T13 := Lib.hid (T12.out.later b13)
            have B13 := Lib.hid (below_later b13 B12.out)
            clear s4 b13 T12 B12
            go_wp2_with fail
            exact ⟨⟨k + 1, a1, b1, by omega, by go_num, T13.out, B13.out⟩, by simp [intOf]; omega⟩
        by_cases z3 : z = 3
        · as_aux_lemma =>
          subst z3
          have k0 : (kd.tmod 6 == 0) = false := by rw [hz]; rfl
          have k1 : (kd.tmod 6 == 1) = false := by rw [hz]; rfl
          have k2 : (kd.tmod 6 == 2) = false := by rw [hz]; rfl
          have k3 : (kd.tmod 6 == 3) = true := by rw [hz]; rfl
          go_wp2_with fail
          refine (ringDefer_x (fun x => x = w1.heap.size) w.heap.size a b m wr (fun x hx => by rw [hx]; exact HT.out.ref.lt) HT.out.ring (by omega)).mono ?_
          rintro e wy ⟨rfl, hr, g1⟩
          have hbY := HB.out.grown g1 HB.out.size (fun k h => by have := Option.some.inj h; omega)
          have HH := Lib.hid (HT.out.half g1)
          have HR := Lib.hid hr
          have zy := g1.size
          clear hr

          go_wp2_with fail
          refine (refDefer_x (fun x => x = w.heap.size) w1.heap.size a b m wy (fun x hx => by rw [hx]; exact HR.out.lt) HH.out HT.out.nz HT.out.all (by omega)).mono ?_
          rintro e wz ⟨rfl, hf, g2⟩
          have HBz := Lib.hid (hbY.grown g2 hbY.size (fun k h => by have := Option.some.inj h; omega))
          have HTz := Lib.hid (HT.out.turn HR.out hf g2 (by intro x hx; rcases List.mem_append.1 hx with h | h; exact HT.out.pos x (aside_mem h); exact HT.out.pos x (by simp [List.mem_of_mem_drop h])) (by rw [aside_len]; exact HT.out.len))
          clear hf g2 g1 hbY HR HH HB HT
          have hT : ∃ a1 b1, Two wz w.heap.size w1.heap.size a1 b1 m := ⟨_, _, HTz.out⟩
          have HB := HBz
          clear HBz HTz
          obtain ⟨a1, b1, hT1⟩ := hT
          have HT := Lib.hid hT1
          clear hT1


          go_wp2_with fail
          refine (ringNext_any _ a1 b1 m _ HT.out.ring.at_).mono ?_
          rintro e w6 ⟨rfl, _, b6⟩
          have HB := Lib.hid (below_later b6 HB.out)
          have HT := Lib.hid (HT.out.later b6)
          clear b6
          obtain ⟨A, n, c, A', n', c', hB, _, hs'⟩ := HT.out.ref.out
          have cL : w6.cell? ⟨w1.heap.size, 1, none⟩ = some (.slice A' n' c') := hB.cell 1
          have hl := hs'.n_eq
          have hn63 : n' ≤ 9223372036854775807 := Nat.le_trans hs'.cap_le hs'.max_le
          by_cases h0 : n' = 0
          · subst h0
            obtain rfl : b1 = [] := List.length_eq_zero_iff.1 hl
            have e1 : ([] : List Int).getD 0 0 = 0 := rfl
            have e2 : decide (0 < ([] : List Int).length) = false := rfl
            rw [e1, e2]
            clear hB hs' hl e1 e2
            obtain ⟨q, hq⟩ : ∃ q, a1.length + ([] : List Int).length = q := ⟨_, rfl⟩
            have hql : (q : Int) ≤ m := by have := HT.out.len; rw [hq] at this; exact this
            have hw : IntKind.i64.wrap (m - (q : Int)) = m - (q : Int) := IntWalk.i64_in _ (by omega)
            have q1 : ((q : Int) != (q : Int)) = false := by simp
            have q2 : ((m - (q : Int)) != (m - (q : Int))) = false := by simp
            have LE := Lib.hid (fun v h => ringLen_any w.heap.size a1 [] m v h (by omega))
            have RO := Lib.hid (fun v h => ringRoom_any w.heap.size a1 [] m v h (by omega) (by omega))
            rw [hq] at LE RO
            go_wp2_with fail
            refine (ringList_any _ a1 [] m _ HT.out.ring.at_ (by omega)).mono ?_
            rintro e w7 ⟨L1, n1, c1, rfl, s1, b7⟩
            have S1 := Lib.hid (s1.more (S' := blo w7.heap.size) (fun _ h => h.2))
            have T7 := Lib.hid (HT.out.later b7)
            have B7 := Lib.hid (below_later b7 HB.out)
            clear s1 b7
            go_wp2_with fail
            refine (refAll_any _ _ a1 [] m _ T7.out.ref (by omega)).mono ?_
            rintro e w8 ⟨L2, n2, c2, rfl, s2, b8⟩
            have S2 := Lib.hid (s2.more (S' := blo w8.heap.size) (fun _ h => h.2))
            have S1 := Lib.hid (S1.out.later b8 (Nat.le_refl _))
            have T8 := Lib.hid (T7.out.later b8)
            have B8 := Lib.hid (below_later b8 B7.out)
            clear s2 b8 T7 B7
            go_wp2_with fail
            refine (sameInt_eq L1 L2 n1 c1 n2 c2 (a1 ++ []) w8 S1.out S2.out).mono ?_
            rintro e w9 ⟨rfl, b9⟩
            have T9 := Lib.hid (T8.out.later b9)
            have B9 := Lib.hid (below_later b9 B8.out)
            clear b9 T8 B8 S1 S2
            go_wp2_with fail
            refine (LE.out w9 T9.out.ring.at_).mono ?_
            rintro e w10 ⟨rfl, b10⟩
            have T10 := Lib.hid (T9.out.later b10)
            have B10 := Lib.hid (below_later b10 B9.out)
            clear b10 T9 B9 LE
            go_wp2_with fail
            refine (refAll_any _ _ a1 [] m _ T10.out.ref (by omega)).mono ?_
            rintro e w11 ⟨L3, n3, c3, rfl, s3, b11⟩
            obtain rfl : q = n3 := by have := s3.n_eq; rw [List.length_append, hq] at this; exact this
            have T11 := Lib.hid (T10.out.later b11)
            have B11 := Lib.hid (below_later b11 B10.out)
            clear s3 b11 T10 B10
            go_wp2_with fail
            refine (RO.out w11 T11.out.ring.at_).mono ?_
            rintro e w12 ⟨rfl, b12⟩
            have T12 := Lib.hid (T11.out.later b12)
            have B12 := Lib.hid (below_later b12 B11.out)
            clear b12 T11 B11 RO
            go_wp2_with fail
            refine (refAll_any _ _ a1 [] m _ T12.out.ref (by omega)).mono ?_
            rintro e w13 ⟨L4, n4, c4, rfl, s4, b13⟩
            obtain rfl : q = n4 := by have := s4.n_eq; rw [List.length_append, hq] at this; exact this
            have T13 := Lib.hid (T12.out.later b13)
            have B13 := Lib.hid (below_later b13 B12.out)
            clear s4 b13 T12 B12
            go_wp2_with fail
            exact ⟨⟨k + 1, a1, [], by omega, by go_num, T13.out, B13.out⟩, by simp [intOf]; omega⟩
          · obtain ⟨bb, off, rfl, _, _, cc, _⟩ := hs'.int_at 0 (by omega)
            rw [Nat.add_zero] at cc
            have hp0 : 1 ≤ b1.getD 0 0 := by
              refine HT.out.pos _ ?_
              rw [List.getD_eq_getElem?_getD, List.getElem?_eq_getElem (by omega)]
              simp
            have e2 : decide (0 < b1.length) = true := by simp; omega
            rw [e2]
            obtain ⟨y, hy⟩ : ∃ y, b1.getD 0 0 = y := ⟨_, rfl⟩
            rw [hy] at cc hp0 ⊢
            have y1 : (y != y) = false := by simp
            have y2 : decide (0 < y) = true := by simp; omega
            have y3 : decide ((0 : Int) < (n' : Int)) = true := by simp; omega
            have y4 : (0 : Int) < (n' : Int) := by omega
            clear hB hs' hl e2 h0 hy
            obtain ⟨q, hq⟩ : ∃ q, a1.length + b1.length = q := ⟨_, rfl⟩
            have hql : (q : Int) ≤ m := by have := HT.out.len; rw [hq] at this; exact this
            have hw : IntKind.i64.wrap (m - (q : Int)) = m - (q : Int) := IntWalk.i64_in _ (by omega)
            have q1 : ((q : Int) != (q : Int)) = false := by simp
            have q2 : ((m - (q : Int)) != (m - (q : Int))) = false := by simp
            have LE := Lib.hid (fun v h => ringLen_any w.heap.size a1 b1 m v h (by omega))
            have RO := Lib.hid (fun v h => ringRoom_any w.heap.size a1 b1 m v h (by omega) (by omega))
            rw [hq] at LE RO
            go_wp2_with fail
            refine (ringList_any _ a1 b1 m _ HT.out.ring.at_ (by omega)).mono ?_
            rintro e w7 ⟨L1, n1, c1, rfl, s1, b7⟩
            have S1 := Lib.hid (s1.more (S' := blo w7.heap.size) (fun _ h => h.2))
            have T7 := Lib.hid (HT.out.later b7)
            have B7 := Lib.hid (below_later b7 HB.out)
            clear s1 b7
            go_wp2_with fail
            refine (refAll_any _ _ a1 b1 m _ T7.out.ref (by omega)).mono ?_
            rintro e w8 ⟨L2, n2, c2, rfl, s2, b8⟩
            have S2 := Lib.hid (s2.more (S' := blo w8.heap.size) (fun _ h => h.2))
            have S1 := Lib.hid (S1.out.later b8 (Nat.le_refl _))
            have T8 := Lib.hid (T7.out.later b8)
            have B8 := Lib.hid (below_later b8 B7.out)
            clear s2 b8 T7 B7
            go_wp2_with fail
            refine (sameInt_eq L1 L2 n1 c1 n2 c2 (a1 ++ b1) w8 S1.out S2.out).mono ?_
            rintro e w9 ⟨rfl, b9⟩
            have T9 := Lib.hid (T8.out.later b9)
            have B9 := Lib.hid (below_later b9 B8.out)
            clear b9 T8 B8 S1 S2
            go_wp2_with fail
            refine (LE.out w9 T9.out.ring.at_).mono ?_
            rintro e w10 ⟨rfl, b10⟩
            have T10 := Lib.hid (T9.out.later b10)
            have B10 := Lib.hid (below_later b10 B9.out)
            clear b10 T9 B9 LE
            go_wp2_with fail
            refine (refAll_any _ _ a1 b1 m _ T10.out.ref (by omega)).mono ?_
            rintro e w11 ⟨L3, n3, c3, rfl, s3, b11⟩
            obtain rfl : q = n3 := by have := s3.n_eq; rw [List.length_append, hq] at this; exact this
            have T11 := Lib.hid (T10.out.later b11)
            have B11 := Lib.hid (below_later b11 B10.out)
            clear s3 b11 T10 B10
            go_wp2_with fail
            refine (RO.out w11 T11.out.ring.at_).mono ?_
            rintro e w12 ⟨rfl, b12⟩
            have T12 := Lib.hid (T11.out.later b12)
            have B12 := Lib.hid (below_later b12 B11.out)
            clear b12 T11 B11 RO
            go_wp2_with fail
            refine (refAll_any _ _ a1 b1 m _ T12.out.ref (by omega)).mono ?_
            rintro e w13 ⟨L4, n4, c4, rfl, s4, b13⟩
            obtain rfl : q = n4 := by have := s4.n_eq; rw [List.length_append, hq] at this; exact this
            have T13 := Lib.hid (T12.out.later b13)
            have B13 := Lib.hid (below_later b13 B12.out)
            clear s4 b13 T12 B12
            go_wp2_with fail
            exact ⟨⟨k + 1, a1, b1, by omega, by go_num, T13.out, B13.out⟩, by simp [intOf]; omega⟩
        by_cases z4 : z = 4
        · as_aux_lemma =>
          subst z4
          have k0 : (kd.tmod 6 == 0) = false := by rw [hz]; rfl
          have k1 : (kd.tmod 6 == 1) = false := by rw [hz]; rfl
          have k2 : (kd.tmod 6 == 2) = false := by rw [hz]; rfl
          have k3 : (kd.tmod 6 == 3) = false := by rw [hz]; rfl
          have k4 : (kd.tmod 6 == 4) = true := by rw [hz]; rfl
          go_wp2_with fail
          refine (ringLeave_x (fun x => x = w1.heap.size) w.heap.size a b m wr HT.out.ring).mono ?_
          rintro e wy ⟨rfl, hr, g1⟩
          have hbY := HB.out.grown g1 HB.out.size (fun k h => by have := Option.some.inj h; omega)
          have HH := Lib.hid (HT.out.half g1)
          have HR := Lib.hid hr
          have zy := g1.size
          clear hr

          go_wp2_with fail
          refine (refLeave_x (fun x => x = w.heap.size) w1.heap.size a b m wy HH.out HT.out.nz).mono ?_
          rintro e wz ⟨rfl, hf, g2⟩
          have HBz := Lib.hid (hbY.grown g2 hbY.size (fun k h => by have := Option.some.inj h; omega))
          have HTz := Lib.hid (HT.out.turn HR.out hf g2 (by intro x hx; rcases List.mem_append.1 hx with h | h; exact HT.out.pos x (by simp [h]); exact HT.out.pos x (by simp [List.mem_of_mem_drop h])) (by have := HT.out.len; simp only [List.length_drop]; omega))
          clear hf g2 g1 hbY HR HH HB HT
          have hT : ∃ a1 b1, Two wz w.heap.size w1.heap.size a1 b1 m := ⟨_, _, HTz.out⟩
          have HB := HBz
          clear HBz HTz
          obtain ⟨a1, b1, hT1⟩ := hT
          have HT := Lib.hid hT1
          clear hT1


          go_wp2_with fail
          refine (ringNext_any _ a1 b1 m _ HT.out.ring.at_).mono ?_
          rintro e w6 ⟨rfl, _, b6⟩
          have HB := Lib.hid (below_later b6 HB.out)
          have HT := Lib.hid (HT.out.later b6)
          clear b6
          obtain ⟨A, n, c, A', n', c', hB, _, hs'⟩ := HT.out.ref.out
          have cL : w6.cell? ⟨w1.heap.size, 1, none⟩ = some (.slice A' n' c') := hB.cell 1
          have hl := hs'.n_eq
          have hn63 : n' ≤ 9223372036854775807 := Nat.le_trans hs'.cap_le hs'.max_le
          by_cases h0 : n' = 0
          · subst h0
            obtain rfl : b1 = [] := List.length_eq_zero_iff.1 hl
            have e1 : ([] : List Int).getD 0 0 = 0 := rfl
            have e2 : decide (0 < ([] : List Int).length) = false := rfl
            rw [e1, e2]
            clear hB hs' hl e1 e2
            obtain ⟨q, hq⟩ : ∃ q, a1.length + ([] : List Int).length = q := ⟨_, rfl⟩
            have hql : (q : Int) ≤ m := by have := HT.out.len; rw [hq] at this; exact this
            have hw : IntKind.i64.wrap (m - (q : Int)) = m - (q : Int) := IntWalk.i64_in _ (by omega)
            have q1 : ((q : Int) != (q : Int)) = false := by simp
            have q2 : ((m - (q : Int)) != (m - (q : Int))) = false := by simp
            have LE := Lib.hid (fun v h => ringLen_any w.heap.size a1 [] m v h (by omega))
            have RO := Lib.hid (fun v h => ringRoom_any w.heap.size a1 [] m v h (by omega) (by omega))
            rw [hq] at LE RO
            go_wp2_with fail
            refine (ringList_any _ a1 [] m _ HT.out.ring.at_ (by omega)).mono ?_
            rintro e w7 ⟨L1, n1, c1, rfl, s1, b7⟩
            have S1 := Lib.hid (s1.more (S' := blo w7.heap.size) (fun _ h => h.2))
            have T7 := Lib.hid (HT.out.later b7)
            have B7 := Lib.hid (below_later b7 HB.out)
            clear s1 b7
            go_wp2_with fail
            refine (refAll_any _ _ a1 [] m _ T7.out.ref (by omega)).mono ?_
            rintro e w8 ⟨L2, n2, c2, rfl, s2, b8⟩
            have S2 := Lib.hid (s2.more (S' := blo w8.heap.size) (fun _ h => h.2))
            have S1 := Lib.hid (S1.out.later b8 (Nat.le_refl _))
            have T8 := Lib.hid (T7.out.later b8)
            have B8 := Lib.hid (below_later b8 B7.out)
            clear s2 b8 T7 B7
            go_wp2_with fail
            refine (sameInt_eq L1 L2 n1 c1 n2 c2 (a1 ++ []) w8 S1.out S2.out).mono ?_
            rintro e w9 ⟨rfl, b9⟩
            have T9 := Lib.hid (T8.out.later b9)
            have B9 := Lib.hid (below_later b9 B8.out)
            clear b9 T8 B8 S1 S2
            go_wp2_with fail
            refine (LE.out w9 T9.out.ring.at_).mono ?_
            rintro e w10 ⟨rfl, b10⟩
            have T10 := Lib.hid (T9.out.later b10)
            have B10 := Lib.hid (below_later b10 B9.out)
            clear b10 T9 B9 LE
            go_wp2_with fail
            refine (refAll_any _ _ a1 [] m _ T10.out.ref (by omega)).mono ?_
            rintro e w11 ⟨L3, n3, c3, rfl, s3, b11⟩
            obtain rfl : q = n3 := by have := s3.n_eq; rw [List.length_append, hq] at this; exact this
            have T11 := Lib.hid (T10.out.later b11)
            have B11 := Lib.hid (below_later b11 B10.out)
            clear s3 b11 T10 B10
            go_wp2_with fail
            refine (RO.out w11 T11.out.ring.at_).mono ?_
            rintro e w12 ⟨rfl, b12⟩
            have T12 := Lib.hid (T11.out.later b12)
            have B12 := Lib.hid (below_later b12 B11.out)
            clear b12 T11 B11 RO
            go_wp2_with fail
            refine (refAll_any _ _ a1 [] m _ T12.out.ref (by omega)).mono ?_
            rintro e w13 ⟨L4, n4, c4, rfl, s4, b13⟩
            obtain rfl : q = n4 := by have := s4.n_eq; rw [List.length_append, hq] at this; exact this
            have T13 := Lib.hid (T12.out.later b13)
            have B13 := Lib.hid (below_later b13 B12.out)
            clear s4 b13 T12 B12
            go_wp2_with fail
            exact ⟨⟨k + 1, a1, [], by omega, by go_num, T13.out, B13.out⟩, by simp [intOf]; omega⟩
          · obtain ⟨bb, off, rfl, _, _, cc, _⟩ := hs'.int_at 0 (by omega)
            rw [Nat.add_zero] at cc
            have hp0 : 1 ≤ b1.getD 0 0 := by
              refine HT.out.pos _ ?_
              rw [List.getD_eq_getElem?_getD, List.getElem?_eq_getElem (by omega)]
              simp
            have e2 : decide (0 < b1.length) = true := by simp; omega
            rw [e2]
            obtain ⟨y, hy⟩ : ∃ y, b1.getD 0 0 = y := ⟨_, rfl⟩
            rw [hy] at cc hp0 ⊢
            have y1 : (y != y) = false := by simp
            have y2 : decide (0 < y) = true := by simp; omega
            have y3 : decide ((0 : Int) < (n' : Int)) = true := by simp; omega
            have y4 : (0 : Int) < (n' : Int) := by omega
            clear hB hs' hl e2 h0 hy
            obtain ⟨q, hq⟩ : ∃ q, a1.length + b1.length = q := ⟨_, rfl⟩
            have hql : (q : Int) ≤ m := by have := HT.out.len; rw [hq] at this; exact this
            have hw : IntKind.i64.wrap (m - (q : Int)) = m - (q : Int) := IntWalk.i64_in _ (by omega)
            have q1 : ((q : Int) != (q : Int)) = false := by simp
            have q2 : ((m - (q : Int)) != (m - (q : Int))) = false := by simp
            have LE := Lib.hid (fun v h => ringLen_any w.heap.size a1 b1 m v h (by omega))
            have RO := Lib.hid (fun v h => ringRoom_any w.heap.size a1 b1 m v h (by omega) (by omega))
            rw [hq] at LE RO
            go_wp2_with fail
            refine (ringList_any _ a1 b1 m _ HT.out.ring.at_ (by omega)).mono ?_
            rintro e w7 ⟨L1, n1, c1, rfl, s1, b7⟩
            have S1 := Lib.hid (s1.more (S' := blo w7.heap.size) (fun _ h => h.2))
            have T7 := Lib.hid (HT.out.later b7)
            have B7 := Lib.hid (below_later b7 HB.out)
            clear s1 b7
            go_wp2_with fail
            refine (refAll_any _ _ a1 b1 m _ T7.out.ref (by omega)).mono ?_
            rintro e w8 ⟨L2, n2, c2, rfl, s2, b8⟩
            have S2 := Lib.hid (s2.more (S' := blo w8.heap.size) (fun _ h => h.2))
            have S1 := Lib.hid (S1.out.later b8 (Nat.le_refl _))
            have T8 := Lib.hid (T7.out.later b8)
            have B8 := Lib.hid (below_later b8 B7.out)
            clear s2 b8 T7 B7
            go_wp2_with fail
            refine (sameInt_eq L1 L2 n1 c1 n2 c2 (a1 ++ b1) w8 S1.out S2.out).mono ?_
            rintro e w9 ⟨rfl, b9⟩
            have T9 := Lib.hid (T8.out.later b9)
            have B9 := Lib.hid (below_later b9 B8.out)
            clear b9 T8 B8 S1 S2
            go_wp2_with fail
            refine (LE.out w9 T9.out.ring.at_).mono ?_
            rintro e w10 ⟨rfl, b10⟩
            have T10 := Lib.hid (T9.out.later b10)
            have B10 := Lib.hid (below_later b10 B9.out)
            clear b10 T9 B9 LE
            go_wp2_with fail
            refine (refAll_any _ _ a1 b1 m _ T10.out.ref (by omega)).mono ?_
            rintro e w11 ⟨L3, n3, c3, rfl, s3, b11⟩
            obtain rfl : q = n3 := by have := s3.n_eq; rw [List.length_append, hq] at this; exact this
            have T11 := Lib.hid (T10.out.later b11)
            have B11 := Lib.hid (below_later b11 B10.out)
            clear s3 b11 T10 B10
            go_wp2_with fail
            refine (RO.out w11 T11.out.ring.at_).mono ?_
            rintro e w12 ⟨rfl, b12⟩
            have T12 := Lib.hid (T11.out.later b12)
            have B12 := Lib.hid (below_later b12 B11.out)
            clear b12 T11 B11 RO
            go_wp2_with fail
            refine (refAll_any _ _ a1 b1 m _ T12.out.ref (by omega)).mono ?_
            rintro e w13 ⟨L4, n4, c4, rfl, s4, b13⟩
            obtain rfl : q = n4 := by have := s4.n_eq; rw [List.length_append, hq] at this; exact this
            have T13 := Lib.hid (T12.out.later b13)
            have B13 := Lib.hid (below_later b13 B12.out)
            clear s4 b13 T12 B12
            go_wp2_with fail
            exact ⟨⟨k + 1, a1, b1, by omega, by go_num, T13.out, B13.out⟩, by simp [intOf]; omega⟩
        · as_aux_lemma =>
          obtain rfl : z = 5 := by omega
          have k0 : (kd.tmod 6 == 0) = false := by rw [hz]; rfl
          have k1 : (kd.tmod 6 == 1) = false := by rw [hz]; rfl
          have k2 : (kd.tmod 6 == 2) = false := by rw [hz]; rfl
          have k3 : (kd.tmod 6 == 3) = false := by rw [hz]; rfl
          have k4 : (kd.tmod 6 == 4) = false := by rw [hz]; rfl
          obtain ⟨t, ht⟩ : ∃ t, (a ++ b).contains id = t := ⟨_, rfl⟩
          have tt : (t == t) = true := by simp
          have RR := Lib.hid (ringRemove_x (fun x => x = w1.heap.size) w.heap.size a b m id wr (fun x hx => by rw [hx]; exact HT.out.ref.lt) HT.out.ring (by omega))
          rw [ht] at RR
          go_wp2_with fail
          refine RR.out.mono ?_
          rintro e wy ⟨rfl, hr, g1⟩
          have hbY := HB.out.grown g1 HB.out.size (fun k h => by have := Option.some.inj h; omega)
          have HH := Lib.hid (HT.out.half g1)
          have HR := Lib.hid hr
          have zy := g1.size
          have lgY : w.heap.size < wy.heap.size := Nat.lt_of_lt_of_le HT.out.ring.lt zy
          clear hr RR
          have FR := Lib.hid (refRemove_x (fun x => x = w.heap.size) w1.heap.size a b m id wy (fun x hx => by rw [hx]; exact lgY) HH.out (by omega))
          rw [ht] at FR
          go_wp2_with fail
          refine FR.out.mono ?_
          rintro e wz ⟨rfl, hf, g2⟩
          have HBz := Lib.hid (hbY.grown g2 hbY.size (fun k h => by have := Option.some.inj h; omega))
          have hT : ∃ a1 b1, Two wz w.heap.size w1.heap.size a1 b1 m := by
            have hR := HR.out
            cases t
            · rw [if_neg (by simp)] at hf hR
              exact ⟨_, _, HT.out.turn hR hf g2 HT.out.pos HT.out.len⟩
            · rw [if_pos rfl] at hf hR
              refine ⟨_, _, HT.out.turn hR hf g2 (fun x hx => ?_) ?_⟩
              · rcases List.mem_append.1 hx with h | h
                · exact HT.out.pos x (by simp [without_mem h])
                · exact HT.out.pos x (by simp [without_mem h])
              · have h1 := without_len a id
                have h2 := without_len b id
                have := HT.out.len
                omega
          have HB := HBz
          clear hf g2 g1 hbY HR HH HBz HT FR ht
          obtain ⟨a1, b1, hT1⟩ := hT
          have HT := Lib.hid hT1
          clear hT1


          go_wp2_with fail
          refine (ringNext_any _ a1 b1 m _ HT.out.ring.at_).mono ?_
          rintro e w6 ⟨rfl, _, b6⟩
          have HB := Lib.hid (below_later b6 HB.out)
          have HT := Lib.hid (HT.out.later b6)
          clear b6
          obtain ⟨A, n, c, A', n', c', hB, _, hs'⟩ := HT.out.ref.out
          have cL : w6.cell? ⟨w1.heap.size, 1, none⟩ = some (.slice A' n' c') := hB.cell 1
          have hl := hs'.n_eq
          have hn63 : n' ≤ 9223372036854775807 := Nat.le_trans hs'.cap_le hs'.max_le
          by_cases h0 : n' = 0
          · subst h0
            obtain rfl : b1 = [] := List.length_eq_zero_iff.1 hl
            have e1 : ([] : List Int).getD 0 0 = 0 := rfl
            have e2 : decide (0 < ([] : List Int).length) = false := rfl
            rw [e1, e2]
            clear hB hs' hl e1 e2
            obtain ⟨q, hq⟩ : ∃ q, a1.length + ([] : List Int).length = q := ⟨_, rfl⟩
            have hql : (q : Int) ≤ m := by have := HT.out.len; rw [hq] at this; exact this
            have hw : IntKind.i64.wrap (m - (q : Int)) = m - (q : Int) := IntWalk.i64_in _ (by omega)
            have q1 : ((q : Int) != (q : Int)) = false := by simp
            have q2 : ((m - (q : Int)) != (m - (q : Int))) = false := by simp
            have LE := Lib.hid (fun v h => ringLen_any w.heap.size a1 [] m v h (by omega))
            have RO := Lib.hid (fun v h => ringRoom_any w.heap.size a1 [] m v h (by omega) (by omega))
            rw [hq] at LE RO
            go_wp2_with fail
            refine (ringList_any _ a1 [] m _ HT.out.ring.at_ (by omega)).mono ?_
            rintro e w7 ⟨L1, n1, c1, rfl, s1, b7⟩
            have S1 := Lib.hid (s1.more (S' := blo w7.heap.size) (fun _ h => h.2))
            have T7 := Lib.hid (HT.out.later b7)
            have B7 := Lib.hid (below_later b7 HB.out)
            clear s1 b7
            go_wp2_with fail
            refine (refAll_any _ _ a1 [] m _ T7.out.ref (by omega)).mono ?_
            rintro e w8 ⟨L2, n2, c2, rfl, s2, b8⟩
            have S2 := Lib.hid (s2.more (S' := blo w8.heap.size) (fun _ h => h.2))
            have S1 := Lib.hid (S1.out.later b8 (Nat.le_refl _))
            have T8 := Lib.hid (T7.out.later b8)
            have B8 := Lib.hid (below_later b8 B7.out)
            clear s2 b8 T7 B7
            go_wp2_with fail
            refine (sameInt_eq L1 L2 n1 c1 n2 c2 (a1 ++ []) w8 S1.out S2.out).mono ?_
            rintro e w9 ⟨rfl, b9⟩
            have T9 := Lib.hid (T8.out.later b9)
            have B9 := Lib.hid (below_later b9 B8.out)
            clear b9 T8 B8 S1 S2
            go_wp2_with fail
            refine (LE.out w9 T9.out.ring.at_).mono ?_
            rintro e w10 ⟨rfl, b10⟩
            have T10 := Lib.hid (T9.out.later b10)
            have B10 := Lib.hid (below_later b10 B9.out)
            clear b10 T9 B9 LE
            go_wp2_with fail
            refine (refAll_any _ _ a1 [] m _ T10.out.ref (by omega)).mono ?_
            rintro e w11 ⟨L3, n3, c3, rfl, s3, b11⟩
            obtain rfl : q = n3 := by have := s3.n_eq; rw [List.length_append, hq] at this; exact this
            have T11 := Lib.hid (T10.out.later b11)
            have B11 := Lib.hid (below_later b11 B10.out)
            clear s3 b11 T10 B10
            go_wp2_with fail
            refine (RO.out w11 T11.out.ring.at_).mono ?_
            rintro e w12 ⟨rfl, b12⟩
            have T12 := Lib.hid (T11.out.later b12)
            have B12 := Lib.hid (below_later b12 B11.out)
            clear b12 T11 B11 RO
            go_wp2_with fail
            refine (refAll_any _ _ a1 [] m _ T12.out.ref (by omega)).mono ?_
            rintro e w13 ⟨L4, n4, c4, rfl, s4, b13⟩
            obtain rfl : q = n4 := by have := s4.n_eq; rw [List.length_append, hq] at this; exact this
            have T13 := Lib.hid (T12.out.later b13)
            have B13 := Lib.hid (below_later b13 B12.out)
            clear s4 b13 T12 B12
            go_wp2_with fail
            exact ⟨⟨k + 1, a1, [], by omega, by go_num, T13.out, B13.out⟩, by simp [intOf]; omega⟩
          · obtain ⟨bb, off, rfl, _, _, cc, _⟩ := hs'.int_at 0 (by omega)
            rw [Nat.add_zero] at cc
            have hp0 : 1 ≤ b1.getD 0 0 := by
              refine HT.out.pos _ ?_
              rw [List.getD_eq_getElem?_getD, List.getElem?_eq_getElem (by omega)]
              simp
            have e2 : decide (0 < b1.length) = true := by simp; omega
            rw [e2]
            obtain ⟨y, hy⟩ : ∃ y, b1.getD 0 0 = y := ⟨_, rfl⟩
            rw [hy] at cc hp0 ⊢
            have y1 : (y != y) = false := by simp
            have y2 : decide (0 < y) = true := by simp; omega
            have y3 : decide ((0 : Int) < (n' : Int)) = true := by simp; omega
            have y4 : (0 : Int) < (n' : Int) := by omega
            clear hB hs' hl e2 h0 hy
            obtain ⟨q, hq⟩ : ∃ q, a1.length + b1.length = q := ⟨_, rfl⟩
            have hql : (q : Int) ≤ m := by have := HT.out.len; rw [hq] at this; exact this
            have hw : IntKind.i64.wrap (m - (q : Int)) = m - (q : Int) := IntWalk.i64_in _ (by omega)
            have q1 : ((q : Int) != (q : Int)) = false := by simp
            have q2 : ((m - (q : Int)) != (m - (q : Int))) = false := by simp
            have LE := Lib.hid (fun v h => ringLen_any w.heap.size a1 b1 m v h (by omega))
            have RO := Lib.hid (fun v h => ringRoom_any w.heap.size a1 b1 m v h (by omega) (by omega))
            rw [hq] at LE RO
            go_wp2_with fail
            refine (ringList_any _ a1 b1 m _ HT.out.ring.at_ (by omega)).mono ?_
            rintro e w7 ⟨L1, n1, c1, rfl, s1, b7⟩
            have S1 := Lib.hid (s1.more (S' := blo w7.heap.size) (fun _ h => h.2))
            have T7 := Lib.hid (HT.out.later b7)
            have B7 := Lib.hid (below_later b7 HB.out)
            clear s1 b7
            go_wp2_with fail
            refine (refAll_any _ _ a1 b1 m _ T7.out.ref (by omega)).mono ?_
            rintro e w8 ⟨L2, n2, c2, rfl, s2, b8⟩
            have S2 := Lib.hid (s2.more (S' := blo w8.heap.size) (fun _ h => h.2))
            have S1 := Lib.hid (S1.out.later b8 (Nat.le_refl _))
            have T8 := Lib.hid (T7.out.later b8)
            have B8 := Lib.hid (below_later b8 B7.out)
            clear s2 b8 T7 B7
            go_wp2_with fail
            refine (sameInt_eq L1 L2 n1 c1 n2 c2 (a1 ++ b1) w8 S1.out S2.out).mono ?_
            rintro e w9 ⟨rfl, b9⟩
            have T9 := Lib.hid (T8.out.later b9)
            have B9 := Lib.hid (below_later b9 B8.out)
            clear b9 T8 B8 S1 S2
            go_wp2_with fail
            refine (LE.out w9 T9.out.ring.at_).mono ?_
            rintro e w10 ⟨rfl, b10⟩
            have T10 := Lib.hid (T9.out.later b10)
            have B10 := Lib.hid (below_later b10 B9.out)
            clear b10 T9 B9 LE
            go_wp2_with fail
            refine (refAll_any _ _ a1 b1 m _ T10.out.ref (by omega)).mono ?_
            rintro e w11 ⟨L3, n3, c3, rfl, s3, b11⟩
            obtain rfl : q = n3 := by have := s3.n_eq; rw [List.length_append, hq] at this; exact this
            have T11 := Lib.hid (T10.out.later b11)
            have B11 := Lib.hid (below_later b11 B10.out)
            clear s3 b11 T10 B10
            go_wp2_with fail
            refine (RO.out w11 T11.out.ring.at_).mono ?_
            rintro e w12 ⟨rfl, b12⟩
            have T12 := Lib.hid (T11.out.later b12)
            have B12 := Lib.hid (below_later b12 B11.out)
            clear b12 T11 B11 RO
            go_wp2_with fail
            refine (refAll_any _ _ a1 b1 m _ T12.out.ref (by omega)).mono ?_
            rintro e w13 ⟨L4, n4, c4, rfl, s4, b13⟩
            obtain rfl : q = n4 := by have := s4.n_eq; rw [List.length_append, hq] at this; exact this
            have T13 := Lib.hid (T12.out.later b13)
            have B13 := Lib.hid (below_later b13 B12.out)
            clear s4 b13 T12 B12
            go_wp2_with fail
            exact ⟨⟨k + 1, a1, b1, by omega, by go_num, T13.out, B13.out⟩, by simp [intOf]; omega⟩
      · have u0 : nt ≤ k ∨ 200 ≤ k := by omega
        clear hlt
        go_wp2_with fail
        all_goals (try (exfalso; omega))
        all_goals
          refine (known41_any wr).mono ?_
          rintro e w2 ⟨rfl, b2⟩
          have g2 := below_later b2 HB.out
          clear b2
          go_wp2_with fail
          go_ret
          exact ⟨rfl, g2⟩

theorem ringPlays_walk (m : Int) (hm : InK .i64 m) (A : Option Addr) (n c : Nat) (l : List (Int × Int)) {W : World} (h : Sl tOp41 W (blo W.heap.size) A n c l) (w : World) (e : W = w) :
    Calls Try.prog 3 #[.int .i64 m, .slice A n c] w fun e w' => e = .returned (.bool true) ∧ Below w.heap.size w w' := by
  subst e
  exact ringPlays_any m A n c l W hm h
end Go.Proofs.Ytlbijkafcododaa
