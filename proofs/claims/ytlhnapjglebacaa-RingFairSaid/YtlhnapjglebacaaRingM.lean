/-
  The walk of the law RingFair.
  Conditions: none.
-/
import Derived.Test.YtlhnapjglebacaaChecked
import Derived.Test.YtlhnapjglebacaaRingK
import Derived.Test.YtlhnapjglebacaaRingL
namespace Go.Proofs.Ytlhnapjglebacaa
set_option linter.unusedVariables false
set_option linter.unusedSimpArgs false
open Go.RowKit Go.ChangeShapes Go.WideShapes
set_option maxRecDepth 100000
set_option maxHeartbeats 2000000

def upto (k : Nat) : List Int := (List.range k).map fun (i : Nat) => (i : Int) + 1
theorem upto_succ (k : Nat) : upto (k + 1) = upto k ++ [(k : Int) + 1] := by unfold upto; rw [List.range_succ, List.map_append]; rfl
theorem upto_length (k : Nat) : (upto k).length = k := by simp [upto]
theorem upto_fresh (k : Nat) : (upto k).contains ((k : Int) + 1) = false := by
  rw [← Bool.not_eq_true, List.contains_iff_mem]
  intro h
  obtain ⟨i, hi, e⟩ := List.mem_map.1 h
  have := List.mem_range.1 hi
  omega

theorem Own.lit1 {W : World} {k : IntKind} {E : TypeId} {base : Nat} (y : Int) (hy : InK k y) (hb : base ≤ W.heap.size) :
    Own (tInt k) (W.alloc (.cells #[.int k y] E)) (fun _ => False) base E (.slice (some ⟨W.heap.size, 0, none⟩) 1 1) 1 [y] :=
  ⟨[.int k y], ⟨rfl, .inr ⟨_, 1, #[.int k y], rfl, hb, heap_alloc_new _ _, Nat.le_refl _, by decide, rfl, rfl⟩⟩, RowsOf.ints (l := [y]) (by simpa using hy)⟩

/-- A row in blocks below B, but for g. -/
def offB (B g : Nat) : Nat → Prop := fun x => x < B ∧ x ≠ g
theorem Sl.off_grown {α : Type} {t : Ty α} {w w' : World} {B g n c : Nat} {A : Option Addr} {l : List α} (h : Sl t w (offB B g) A n c l) (hB : B ≤ w.heap.size) (hg : w.grownBy w' (some g)) : Sl t w' (offB B g) A n c l :=
  h.keep fun b hb => hg.block b (Nat.lt_of_lt_of_le hb.1 hB) (by simpa using hb.2)

theorem RingX.push {W w' : World} {g : Nat} {v v' : Value} {a b : List Int} {m : Int} (h : RingX (fun x => some x = v.ownBlock) W g a b m) (hg : W.grownBy w' v.ownBlock) (hv : v'.ownBlock = v.ownBlock ∨ v'.ownBlock = some (W.heap.size + 1)) (hne : some g ≠ v.ownBlock) :
    RingX (fun x => some x = v'.ownBlock) w' g a b m := by
  obtain ⟨A, n, c, A', n', c', h1, h2, h3⟩ := h.out
  have k : ∀ x, ((x < W.heap.size ∧ ¬ some x = v.ownBlock) ∧ x ≠ g) → ((x < w'.heap.size ∧ ¬ some x = v'.ownBlock) ∧ x ≠ g) := fun x hx => ⟨⟨Nat.lt_of_lt_of_le hx.1.1 hg.size, by
    rcases hv with e | e
    · rw [e]; exact hx.1.2
    · rw [e]; intro e2; cases e2; have := hx.1.1; omega⟩, hx.2⟩
  exact ⟨A, n, c, A', n', c', ⟨(hg.block g h1.lt hne).trans h1.heap⟩, (h2.keep fun b hb => hg.block b hb.1.1 hb.1.2).more k, (h3.keep fun b hb => hg.block b hb.1.1 hb.1.2).more k⟩

theorem turned_pos {b : List Int} (h : 0 < b.length) : turned b = b.drop 1 ++ [b.getD 0 0] := by unfold turned; rw [if_neg (by omega)]
theorem aside_pos {a b : List Int} (h : 0 < b.length) : aside a b = a ++ [b.getD 0 0] := by unfold aside; rw [if_neg (by omega)]

theorem fair_any (z : Int) (A : Option Addr) (nt ct : Nat) (turns : List Bool) (w : World) (hz : InK .u8 z) (h : Sl tBool w (blo w.heap.size) A nt ct turns) :
    Calls Try.prog 10 #[.int .u8 z, .slice A nt ct] w fun e w' => e = .returned (.bool true) ∧ Below w.heap.size w w' := by
  rw [inK_u8] at hz
  obtain ⟨z1, z2⟩ := hz
  have hm : nt ≤ 9223372036854775807 := Nat.le_trans h.cap_le h.max_le
  have H := Lib.hid h
  clear h
  go_enter Try.func10, Try.ntmps10
  go_wp2_with fail
  obtain ⟨n, hn, n1, n2⟩ : ∃ n : Nat, z % 16 + 1 = (n : Int) ∧ 1 ≤ n ∧ n ≤ 16 := ⟨(z % 16 + 1).toNat, by omega, by omega, by omega⟩
  rw [hn]
  refine (ringNew_any n w (by omega) (by omega)).mono ?_
  rintro e w1 ⟨rfl, r1, b1⟩
  have R1 := Lib.hid r1
  have B1 := Lib.hid b1
  clear r1 b1 hn
  go_wp2_with fail
  go_loopw [8] (fun i wr => ∃ k : Nat, k ≤ n ∧ i = .int .i64 ((k : Int) + 1) ∧ Below w.heap.size w wr ∧ RingAt wr w.heap.size [] (upto k) n) (fun i _ => n + 1 - (intOf i).toNat)
  case atStart => exact ⟨0, Nat.zero_le _, rfl, B1.out, R1.out⟩
  case round =>
    obtain ⟨k, hk, rfl, hb, hr⟩ := hrel
    have HB := Lib.hid hb
    have HR := Lib.hid hr
    clear hb hr
    by_cases hlt : k < n
    · have t1 : decide ((k : Int) + 1 ≤ n) = true := by simp; omega
      go_wp2_with fail
      refine (ringAdd_any w.heap.size [] (upto k) n ((k : Int) + 1) wr HR.out (by simp [upto_length]; omega) (by omega) (by omega) (by rw [inK_i64]; omega) (by simpa using upto_fresh k)).mono ?_
      rintro e w2 ⟨rfl, r2, g2⟩
      have b2 := below_grown HB.out g2
      rw [← upto_succ] at r2
      have R2 := Lib.hid r2
      clear r2 g2
      go_wp2_with fail
      exact ⟨⟨k + 1, by omega, by go_num, b2, R2.out⟩, by simp [intOf]; omega⟩
    · obtain rfl : k = n := by omega
      have t1 : decide ((k : Int) + 1 ≤ k) = false := by simp; omega
      go_wp2_with fail
      clear t1 hlt hk R1 B1
      go_loopw [9] (fun i wr2 => ∃ j : Nat, j ≤ 250 ∧ i = .int .i64 j ∧ Below w.heap.size w wr2 ∧ ∃ a b, RingAt wr2 w.heap.size a b k ∧ a.length + b.length = k) (fun i _ => 300 - (intOf i).toNat)
      case atStart => exact ⟨0, Nat.zero_le _, rfl, HB.out, [], upto k, HR.out, by simp [upto_length]⟩
      case round =>
        clear HB HR
        obtain ⟨j, hj, rfl, hb, a, b, hr, hab⟩ := hrel
        have HB := Lib.hid hb
        have HR := Lib.hid hr
        clear hb hr
        by_cases hlt : j < nt ∧ j < 200
        rotate_left
        · have u0 : nt ≤ j ∨ 200 ≤ j := by omega
          clear hlt
          go_wp2_with fail
          all_goals (try (exfalso; omega))
          all_goals
            refine (ringLen_any w.heap.size a b k _ HR.out (by omega)).mono ?_
            rintro e w5 ⟨rfl, b5⟩
            have c5 := below_call HB.out b5 HB.out.size
            rw [hab]
            have ty : ((k : Int) == (k : Int)) = true := by simp
            clear b5
            go_wp2_with fail
            refine (known41_any w5).mono ?_
            rintro e w6 ⟨rfl, b6⟩
            have c6 := below_call c5 b6 c5.size
            go_wp2_with fail
            go_ret
            exact ⟨rfl, c6⟩
        obtain ⟨hj1, hj2⟩ := hlt
        have u1 : decide ((j : Int) < (nt : Int)) = true := by simp; omega
        have u2 : decide ((j : Int) < 200) = true := by simp; omega
        go_wp2_with fail
        refine (ringBegin_any w.heap.size a b k wr HR.out (by omega)).mono ?_
        rintro e w1 ⟨rfl, r1, g1⟩
        have b1 := below_grown HB.out g1
        have R1 := Lib.hid r1
        obtain ⟨was, hwas⟩ : ∃ was, a ++ b = was := ⟨_, rfl⟩
        rw [hwas] at R1
        have hlen : was.length = k := by rw [← hwas, List.length_append]; exact hab
        clear hwas r1 g1 HR HB hab
        go_wp2_with fail
        refine (ringList_any w.heap.size [] was k w1 R1.out (by simp; omega)).mono ?_
        rintro e w2 ⟨W1, q, r, rfl, s2, b2⟩
        rw [List.nil_append] at s2
        have z1 : w.heap.size < w1.heap.size := by obtain ⟨A, n, c, A', n', c', h1, _, _⟩ := R1.out.out; exact h1.lt
        have hq : was.length = q := s2.n_eq
        obtain rfl : q = k := by omega
        have b2' := below_call b1 b2 b1.size
        obtain ⟨bb, off, rfl, hbb1, hbb2, cc, hcc⟩ := s2.int_at 0 (by omega)
        rw [Nat.add_zero] at cc
        have S2 := Lib.hid (s2.more (S' := offB w2.heap.size w.heap.size) (fun x hx => ⟨hx.2, fun e => by have := hx.1; omega⟩))
        have R2 := Lib.hid (R1.out.later b2)
        have B2 := Lib.hid b2'
        have z2 : w.heap.size < w2.heap.size := Nat.lt_of_lt_of_le z1 b2.size
        obtain ⟨y, hy⟩ : ∃ y, was.getD 0 0 = y := ⟨_, rfl⟩
        rw [hy] at cc hcc
        have t2 : ((q : Int) == (q : Int)) = true := by simp
        have hpos : (0 : Int) < (q : Int) := by omega
        clear s2 b1 b2 b2' R1 hbb1 hbb2
        go_wp2_with fail
        obtain ⟨v0, hv0⟩ : ∃ v0, Value.slice (some ⟨w2.heap.size, 0, none⟩) 1 1 = v0 := ⟨_, rfl⟩
        obtain ⟨w3, hw3⟩ : ∃ w3, w2.alloc (Obj.cells #[Value.int IntKind.i64 y] 3) = w3 := ⟨_, rfl⟩
        have k3 : Below w2.heap.size w2 w3 := by rw [← hw3]; exact (Below.refl _ _).alloc (Nat.le_refl _) _
        have o3 : Own (tInt .i64) w3 (fun _ => False) w2.heap.size 3 v0 1 [y] := by rw [← hw3, ← hv0]; exact Own.lit1 y hcc (Nat.le_refl _)
        have r3 : RingX (fun x => some x = v0.ownBlock) w3 w.heap.size [] was q := by
          refine (R2.out.x fun x hx e => ?_).later k3
          rw [← hv0] at e
          have := Option.some.inj e
          simp at this
          omega
        have b3 := below_call B2.out k3 B2.out.size
        have s3 := S2.out.below k3 (fun _ h => h.1)
        rw [hv0, hw3]
        have hz3 := k3.size
        clear cc hcc hw3 S2 R2 B2 k3 t2 hv0
        refine (ringServed_x _ w.heap.size [] was q w3 (fun x hx => (o3.lt x hx.symm).2) r3 (by omega)).mono ?_
        rintro e w4 ⟨rfl, r4, g4⟩
        rw [turned_pos (by omega), hy] at r4
        have F4 := Fair.start was (by omega)
        rw [hy] at F4
        have o4 := o3.flat g4 (by right; intro e; have := (o3.lt _ e).1; omega) (fun _ h => h)
        have s4 := s3.off_grown hz3 g4
        have b4 := below_grown b3 g4
        have z4 := Nat.le_trans hz3 g4.size
        clear o3 r3 b3 s3 g4 hz3
        go_wp2_with fail
        go_loopw [11, 12] (fun s i wr3 => ∃ d out line sv p, d + 1 ≤ q ∧ p = j + 1 + d ∧ i = .int .i64 (p : Nat) ∧ Below w.heap.size w wr3 ∧ w2.heap.size ≤ wr3.heap.size ∧ RingX (fun x => some x = s.ownBlock) wr3 w.heap.size out line q ∧
          Own (tInt .i64) wr3 (fun _ => False) w2.heap.size 3 s sv.length sv ∧ Sl (tInt .i64) wr3 (offB w2.heap.size w.heap.size) (some ⟨bb, off, none⟩) q r was ∧ Fair was d out line sv) (fun _ i _ => 300 - (intOf i).toNat)
        case atStart => exact ⟨0, [], was.drop 1 ++ [y], [y], j + 1, by omega, rfl, by go_num, b4, z4, r4, o4, s4, F4⟩
        case round =>
          clear b4 z4 r4 o4 s4 F4
          obtain ⟨d, out, line, sv, p, hd, hp, rfl, hb, hz, hr, ho, hs, hF⟩ := hrel
          have HB := Lib.hid hb
          have HR := Lib.hid hr
          have HO := Lib.hid ho
          have HS := Lib.hid hs
          clear hb hr ho hs
          by_cases hlt : d + 1 < q ∧ p < nt
          · obtain ⟨hl1, hl2⟩ := hlt
            obtain ⟨h1, h2, h3⟩ := hF.head (by omega)
            obtain ⟨x, bx, offx, xv, hx, rfl, hbx, hbx2, hrx, cx⟩ := (H.out.below HB.out (fun _ h => h)).cell1 rfl p hl2
            obtain rfl : xv = .bool x := List.head_eq_of_cons_eq hrx
            have v1 : decide ((p : Int) < (j : Int) + (q : Int)) = true := by simp; omega
            have v2 : decide ((p : Int) < (nt : Int)) = true := by simp; omega
            have p0 : (0 : Int) ≤ (p : Int) := by omega
            have p1 : p ≤ 300 := by omega
            have HP := Lib.hid hp
            clear hp
            go_wp2_with fail
            refine (ringNext_any w.heap.size out line q wr HR.out.at_).mono ?_
            rintro e w5 ⟨he, hw5, b5⟩
            have hl0 : decide (0 < line.length) = true := by simp; omega
            obtain ⟨y5, hy5⟩ : ∃ y5, line.getD 0 0 = y5 := ⟨_, rfl⟩
            have hi5 := HR.out.at_.inAll 0
            rw [hl0, hy5] at he
            rw [hy5] at hi5
            subst he
            have tot := hF.tot
            have ll : line.length ≤ 32 := by rw [hF.line_eq]; simp; omega
            have sl : sv.length + 1 ≤ 32 := by omega
            have cx5 := cell_later b5 cx
            have B5 := Lib.hid (below_later b5 HB.out)
            have Z5 := Lib.hid (Nat.le_trans hz b5.size)
            have R5 := Lib.hid (HR.out.later b5)
            have O5 := Lib.hid (HO.out.below b5 (Nat.le_refl _) (fun _ h => h.elim))
            have S5 := Lib.hid (HS.out.below b5 (fun _ h => Nat.lt_of_lt_of_le h.1 hz))
            have HF := Lib.hid hF
            have H1 := Lib.hid h1
            have H2 := Lib.hid h2
            have HY := Lib.hid hy5
            clear HB HR HO HS b5 hw5 cx hF h1 h2 h3 hy5
            cases x
            · go_wp2_with fail
              refine (ringDefer_x _ w.heap.size out line q w5 (fun x hx => (O5.out.lt x hx.symm).2) R5.out (by omega)).mono ?_
              rintro e w6 ⟨rfl, r6, g6⟩
              rw [aside_pos H2.out] at r6
              have o6 := O5.out.flat g6 (by right; intro e; have := (O5.out.lt _ e).1; omega) (fun _ h => h)
              have s6 := S5.out.off_grown Z5.out g6
              have b6 := below_grown B5.out g6
              have z6 := Nat.le_trans Z5.out g6.size
              have f6 := HF.out.defer (by omega)
              go_wp2_with fail
              exact ⟨⟨d + 1, _, _, sv, p + 1, by omega, by have := HP.out; omega, by go_num, b6, z6, r6, o6, s6, f6⟩, by have := HP.out; simp [intOf]; omega⟩
            · go_wp2_with (at_builtin; refine wpList_push (t := tInt .i64) rfl _ _ rfl ei_int (v := u11) rfl O5.out 1 rfl y5 ⟨rfl, hi5⟩ (Nat.le_trans sl (by decide)) (Nat.le_trans (Nat.mul_le_mul_right _ sl) (by decide)) Z5.out (fun _ h => h.elim) ?_; intro v6 w6 o6 g6 at6)
              have hne : some w.heap.size ≠ u11.ownBlock := by intro e; have := (O5.out.lt _ e.symm).1; omega
              have r6 := R5.out.push g6 at6 hne
              have s6 := S5.out.keep (w' := w6) (fun b hb => g6.block b (Nat.lt_of_lt_of_le hb.1 Z5.out) (by intro e; have := (O5.out.lt _ e.symm).1; have := hb.1; omega))
              have b6 := B5.out.grown g6 B5.out.size (fun k e => by have := (O5.out.lt _ e).1; omega)
              have z6 := Nat.le_trans Z5.out g6.size
              refine (ringServed_x _ w.heap.size out line q w6 (fun x hx => (o6.lt x hx.symm).2) r6 (by omega)).mono ?_
              rintro e w7 ⟨rfl, r7, g7⟩
              rw [turned_pos H2.out] at r7
              have o7 := o6.flat g7 (by right; intro e; have := (o6.lt _ e).1; omega) (fun _ h => h)
              have s7 := s6.off_grown z6 g7
              have b7 := below_grown b6 g7
              have z7 := Nat.le_trans z6 g7.size
              have f7 := HF.out.serve (by omega)
              rw [HY.out] at f7 r7
              clear o6 r6 s6 b6 z6 g6 g7
              go_wp2_with fail
              exact ⟨⟨d + 1, _, _, sv ++ [y5], p + 1, by omega, by have := HP.out; omega, by go_num, b7, z7, r7, by simpa using o7, s7, f7⟩, by have := HP.out; simp [intOf]; omega⟩
          · have u0 : q ≤ d + 1 ∨ nt ≤ p := by omega
            have p1 : p ≤ 300 := by omega
            have pq : p < j + q → d + 1 < q := by omega
            clear hlt
            have tot := hF.tot
            have ll : out.length + line.length = q := by rw [hF.line_eq]; simp; omega
            have HF := Lib.hid hF
            have HP := Lib.hid hp
            clear hF hp
            go_wp2_with fail
            all_goals (try (exfalso; omega))
            all_goals
              refine (ringList_any w.heap.size out line q wr HR.out.at_ (by omega)).mono ?_
              rintro e w5 ⟨W5, q5, r5, rfl, s5, b5⟩
              have B5 := Lib.hid (below_later b5 HB.out)
              have R5 := Lib.hid (HR.out.at_.later b5)
              have S5 := Lib.hid ((HS.out.below b5 (fun _ h => Nat.lt_of_lt_of_le h.1 hz)).more (S' := blo w5.heap.size) (fun x hx => Nat.lt_of_lt_of_le hx.1 (Nat.le_trans hz b5.size)))
              have N5 := Lib.hid (s5.more (S' := blo w5.heap.size) (fun x hx => hx.2))
              obtain ⟨As, cs, rfl, sv5⟩ := HO.out.sl (S' := blo wr.heap.size) (by decide) (fun b _ h => h) (fun _ h => h.elim)
              have V5 := Lib.hid (sv5.later b5 (Nat.le_refl _))
              have q5' : q5 = q := by have := s5.n_eq; rw [List.length_append] at this; omega
              subst q5'
              clear HB HR HO HS s5 sv5 b5
              go_wp2_with fail
              go_loopw [16] (fun i w6 => ∃ m : Nat, 1 ≤ m ∧ m ≤ q5 ∧ i = .int .i64 m ∧ Below w5.heap.size w5 w6) (fun i _ => 300 - (intOf i).toNat)
              case atStart => exact ⟨1, Nat.le_refl _, by omega, rfl, Below.refl _ _⟩
              case round =>
                obtain ⟨m, m1, m2, rfl, b6⟩ := hrel
                by_cases hm2 : m < q5
                · have T0 : decide ((m : Int) < (q5 : Int)) = true := by simp; omega
                  obtain ⟨b', o', hA, _, _, cm, im⟩ := (S5.out.later b6 (Nat.le_refl _)).int_at m hm2
                  cases hA
                  have D := HF.out.done m (by omega)
                  have E1 := Lib.hid (fun x : Ext w5 => (find_any As sv.length cs sv (was.getD m 0) x.1 (V5.out.later x.2 (Nat.le_refl _))))
                  have E2 := Lib.hid (fun x : Ext w5 => (find_any W5 q5 r5 (out ++ line) (was.getD m 0) x.1 (N5.out.later x.2 (Nat.le_refl _))))
                  generalize was.getD m 0 = xm at *
                  generalize spot sv xm = s1 at *
                  generalize spot (out ++ line) xm = s2 at *
                  generalize hn0 : sv.length = ns at *
                  have C6 := Lib.hid b6
                  have m0 : (0 : Int) ≤ (m : Int) := by omega
                  have m3 : m ≤ 300 := by omega
                  clear b6 hn0
                  rcases D with D | ⟨D, D2⟩
                  · have d1 : decide (s1 < 0) = false := by simp; omega
                    go_wp2_with fail
                    refine (E1.out ⟨wr, C6.out⟩).mono ?_
                    rintro e w7 ⟨rfl, b7⟩
                    have b8 := below_later b7 C6.out
                    go_wp2_with fail
                    exact ⟨⟨m + 1, by omega, by omega, by go_num, b8⟩, by simp [intOf]; omega⟩
                  · have d2 : decide (s2 < 0) = false := by simp; omega
                    have d3 : decide ((m : Int) ≤ s2) = false := by simp; omega
                    go_wp2_with fail
                    refine (E1.out ⟨wr, C6.out⟩).mono ?_
                    rintro e w7 ⟨rfl, b7⟩
                    have b8 := below_later b7 C6.out
                    have cm := cell_later b7 cm
                    clear E1 b7
                    by_cases hs1 : s1 < 0
                    · have d1 : decide (s1 < 0) = true := by simp; omega
                      clear hs1
                      go_wp2_with fail
                      refine (E2.out ⟨w7, b8⟩).mono ?_
                      rintro e w8 ⟨rfl, b9⟩
                      have b8 := below_later b9 b8
                      have cm := cell_later b9 cm
                      clear b9
                      go_wp2_with fail
                      refine (E2.out ⟨w8, b8⟩).mono ?_
                      rintro e w9 ⟨rfl, b9⟩
                      have b8 := below_later b9 b8
                      go_wp2_with fail
                      exact ⟨⟨m + 1, by omega, by omega, by go_num, b8⟩, by simp [intOf]; omega⟩
                    · have d1 : decide (s1 < 0) = false := by simp; omega
                      go_wp2_with fail
                      exact ⟨⟨m + 1, by omega, by omega, by go_num, b8⟩, by simp [intOf]; omega⟩
                · obtain rfl : m = q5 := by omega
                  have T0 : decide ((m : Int) < (m : Int)) = false := by simp
                  have b7 := below_later b6 B5.out
                  have r7 := R5.out.later b6
                  have j0 : j + m ≤ 250 := by omega
                  have j1 : 1 ≤ m := by omega
                  clear hm2 b6 m1 m2 hpos
                  go_wp2_with fail
                  exact ⟨⟨j + m, by omega, by go_num, b7, out, line, r7, ll⟩, by simp [intOf]; omega⟩
theorem ringFair_walk (z : Int) (hz : InK .u8 z) (A : Option Addr) (n c : Nat) (l : List Bool) {W : World} (h : Sl tBool W (blo W.heap.size) A n c l) (w : World) (e : W = w) :
    Calls Try.prog 10 #[.int .u8 z, .slice A n c] w fun e w' => e = .returned (.bool true) ∧ Below w.heap.size w w' := by
  subst e
  exact fair_any z A n c l W hz h
end Go.Proofs.Ytlhnapjglebacaa
