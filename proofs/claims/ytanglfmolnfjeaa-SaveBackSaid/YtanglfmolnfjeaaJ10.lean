/-
  A reader of bytes (layer 8): byte8, Small, Read.
  Conditions: at most 2^30 bytes.
-/
import Derived.Test.YtanglfmolnfjeaaChecked
import Derived.Test.YtanglfmolnfjeaaJ07
import Derived.Test.YtanglfmolnfjeaaJ08
import Derived.Test.YtanglfmolnfjeaaJ09
namespace Go.Proofs.Ytanglfmolnfjeaa
set_option linter.unusedVariables false
set_option linter.unusedSimpArgs false
open Go.RowKit Go.ChangeShapes Go.WideShapes
set_option maxRecDepth 100000
set_option maxHeartbeats 4000000

theorem RdAt.more {X Y : Nat → Prop} {w : World} {g : Nat} {s : List Int × Int} (h : RdAt X w g s) (hY : ∀ k, k < w.heap.size → Y k → X k) : RdAt Y w g s := by
  obtain ⟨A, n, c, h1, h2⟩ := h.out
  exact ⟨A, n, c, h1, h2.more fun k hk => ⟨hk.1, fun e => hk.2 (hY k hk.1 e)⟩⟩

/-- New blocks are none of the reader's. -/
theorem RdAt.grow {X : Nat → Prop} {w w' : World} {g : Nat} {s : List Int × Int} (h : RdAt X w g s) (hb : Below w.heap.size w w') : RdAt (fun x => X x ∨ w.heap.size ≤ x) w' g s := by
  obtain ⟨A, n, c, h1, h2⟩ := h.out
  exact ⟨A, n, c, h1.later hb, (h2.below hb (fun _ h => h.1)).more (fun x hx => ⟨Nat.lt_of_lt_of_le hx.1 hb.size, fun e => by rcases e with e | e; exact hx.2 e; have := hx.1; omega⟩)⟩

/-- A byte as a small number. -/
def s8 (c : Int) : Int := IntKind.i8.wrap c

theorem byte8_any (X : Nat → Prop) (g : Nat) (l : List Int) (bad : Int) (hl : 0 < l.length) (w : World) (h : RdAt X w g (l, bad)) (hX : X g) :
    Calls Try.prog 60 #[.pointer (some ⟨g, 0, none⟩)] w fun e' w' => e' = .returned (.int .i8 (s8 (l.getD 0 0))) ∧ RdAt X w' g (l.drop 1, bad) ∧ But (one g) w w' := by
  obtain ⟨A, n, c, hB, hs⟩ := h.out
  have BB := Lib.hid hB
  have c0 : w.cell? ⟨g, 0, none⟩ = some (.slice A n c) := hB.cell 0
  have f0 := hB.frozen 0
  have lt := hB.lt
  have hn := hs.n_eq
  rw [show (l, bad).1 = l from rfl] at hn
  obtain ⟨b, off, rfl, _, _, cc, ic⟩ := hs.int_at 0 (by omega)
  have hc := hs.cap_le
  have hmx := hs.max_le
  unfold maxLen at hmx
  have SS := Lib.hid hs
  have LL := Lib.hid (show (l.drop 1).length = n - 1 by rw [List.length_drop, hn])
  have DT := Lib.hid (show (l.drop 1).take (n - 1) = l.drop 1 from List.take_of_length_le (by rw [LL.out]; exact Nat.le_refl _))
  have S1 := Lib.hid (fun (h1 : n - 1 ≤ c - 1) (h2 : 1 + (c - 1) ≤ c) => hs.sub 1 (n - 1) 1 (c - 1) (by simp [tInt]) (by omega) h1 (by omega))
  rw [show (l, bad).1 = l from rfl, DT.out] at S1
  obtain ⟨l1, hl1⟩ : ∃ x, l.drop 1 = x := ⟨_, rfl⟩
  rw [hl1] at LL S1 ⊢
  clear hl1 DT
  have VD := Lib.hid (show s8 (l.getD 0 0) = IntKind.i8.wrap (l.getD 0 0) from rfl)
  rw [Nat.add_zero] at cc
  rw [show (l, bad).1 = l from rfl] at cc ic
  obtain ⟨x, hx⟩ : ∃ x, l.getD 0 0 = x := ⟨_, rfl⟩
  rw [hx] at cc ic VD ⊢
  rw [inK_u8] at ic
  obtain ⟨i1, i2⟩ := ic
  have n1 : 1 ≤ n := by omega
  rw [VD.out]
  clear hx h hB hs VD
  by_cases hck : c = 1
  · have DN := Lib.hid (show l1 = [] from List.length_eq_zero_iff.1 (by rw [LL.out]; omega))
    have hn1 : n = 1 := by omega
    clear hn hl
    subst hn1 hck
    go_enter Try.func60, Try.ntmps60
    go_wp2_with fail
    go_ret
    rw [DN.out]
    refine ⟨rfl, ⟨_, _, _, BB.out.set_ 0 _, ?_⟩, But.one_set _ _ _ _⟩
    exact ⟨by simp, by omega, by unfold maxLen; omega, (fun h => by cases h), fun i x hx => by simp at hx⟩
  · have S2 := Lib.hid (S1.out (by omega) (by omega))
    clear hn hl S1
    go_enter Try.func60, Try.ntmps60
    go_wp2_with fail
    go_ret
    refine ⟨rfl, ⟨_, _, _, BB.out.set_ 0 _, ?_⟩, But.one_set _ _ _ _⟩
    exact (S2.out.but' (But.one_set _ g 0 _) (fun x hx => ⟨hx.1, fun e => hx.2 (by cases e; exact hX)⟩)).more (fun x hx => ⟨by simpa using hx.1, hx.2⟩)

/-- The next n bytes as small numbers, what is left. -/
def smallV (n : Nat) (s : List Int × Int) : List Int × (List Int × Int) :=
  if s.2 = 0 ∧ 0 < n then (if s.1.length < n then ([], fails 20 s) else ((s.1.take n).map s8, (s.1.drop n, 0))) else ([], s)
theorem smalls_take (l : List Int) (k : Nat) (h : k < l.length) : (l.take (k + 1)).map s8 = (l.take k).map s8 ++ [s8 (l.getD k 0)] := by
  rw [take_snoc l k (l.getD k 0) (by rw [List.getD_eq_getElem?_getD, List.getElem?_eq_getElem h]; rfl)]
  simp
theorem s8_in (c : Int) : InK .i8 (s8 c) := by
  unfold s8
  rw [inK_i8]
  simp only [IntKind.wrap, IntKind.signed, IntKind.bits]
  simp
  omega
theorem ei_i8 : EI Try.prog 24 47 (.int .i8 0) 1 1 := ⟨Try.underlying24, by kernel_rfl, rfl, by decide⟩

/-- A row of small numbers in new memory, and the reader's next state. -/
structure RetSmall (X : Nat → Prop) (w : World) (g : Nat) (r : List Int × (List Int × Int)) (e : Ending) (w' : World) : Prop where
  out : ∃ A m c, e = .returned (.slice A m c) ∧ Sl (tInt .i8) w' (bin w.heap.size w'.heap.size) A m c r.1
  rd : RdAt X w' g r.2
  but : But (one g) w w'

theorem all_any (X : Nat → Prop) (g : Nat) (s : List Int × Int) (n : Nat) (hn : n ≤ 1000000) (w : World) (h : RdAt X w g s) (hX : X g) :
    Calls Try.prog 59 #[.pointer (some ⟨g, 0, none⟩), .int .i64 (n : Int), .func (.func 60) #[.pointer (some ⟨g, 0, none⟩)] #[]] w (RetSmall X w g (smallV n s)) := by
  have H := Lib.hid h
  obtain ⟨A, m, c, hB, hs⟩ := h.out
  have BB := Lib.hid hB
  have c1 : w.cell? ⟨g, 1, none⟩ = some (.int .i64 s.2) := hB.cell 1
  have c0 : w.cell? ⟨g, 0, none⟩ = some (.slice A m c) := hB.cell 0
  have lt := hB.lt
  have hm := hs.n_eq
  have hmx : m ≤ 9223372036854775807 := Nat.le_trans hs.cap_le hs.max_le
  have SV := Lib.hid (show smallV n s = if s.2 = 0 ∧ 0 < n then (if s.1.length < n then ([], fails 20 s) else ((s.1.take n).map s8, (s.1.drop n, 0))) else ([], s) from rfl)
  obtain ⟨r, hr⟩ : ∃ r, smallV n s = r := ⟨_, rfl⟩
  rw [hr] at SV ⊢
  obtain ⟨l, bad⟩ := s
  simp only at c1 SV hm
  rw [hm] at SV
  have LEN := Lib.hid hm
  clear h hB hs hr hm
  by_cases q : bad = 0 ∧ 0 < n
  rotate_left
  · rw [if_neg q] at SV
    by_cases q1 : bad = 0
    · subst q1
      obtain rfl : n = 0 := by omega
      go_enter Try.func59, Try.ntmps59
      go_wp2_with fail
      go_ret
      rw [SV.out]
      exact ⟨⟨none, 0, 0, rfl, Sl.nil _ _ _⟩, H.out, But.refl _ _⟩
    · have t1 : (bad != 0) = true := by simpa using q1
      go_enter Try.func59, Try.ntmps59
      go_wp2_with fail
      go_ret
      rw [SV.out]
      exact ⟨⟨none, 0, 0, rfl, Sl.nil _ _ _⟩, H.out, But.refl _ _⟩
  rw [if_pos q] at SV
  obtain ⟨rfl, hn0⟩ := q
  have t1 : decide ((n : Int) < 1) = false := by simp; omega
  have t2 : (n == 0) = false := by simp; omega
  by_cases hc : m < n
  · rw [if_pos hc] at SV
    have t3 : decide ((m : Int) < (n : Int)) = true := by simp; omega
    have t4 : decide (m < n) = true := by simp; omega
    go_enter Try.func59, Try.ntmps59
    go_wp2_with fail
    refine (fail_any X g (l, 0) 20 _ H.out hX).mono ?_
    rintro e' w' ⟨rfl, hr, hb⟩
    have HR := Lib.hid hr
    have HB := Lib.hid hb
    clear hr hb
    go_wp2_with fail
    go_ret
    rw [SV.out]
    exact ⟨⟨none, 0, 0, rfl, Sl.nil _ _ _⟩, HR.out, HB.out⟩
  · rw [if_neg hc] at SV
    have t3 : decide ((m : Int) < (n : Int)) = false := by simp; omega
    have t4 : decide (m < n) = false := by simp; omega
    have H2 := Lib.hid (H.out.more (Y := fun x => X x ∨ w.heap.size ≤ x) (fun k hk hy => by rcases hy with hy | hy; exact hy; omega))
    have hnm : n ≤ m := by omega
    clear hc H BB
    go_enter Try.func59, Try.ntmps59
    go_wp2_with fail
    clear c0 c1 t1 t2 t3 t4
    go_loopw [7, 31] (fun u i wr => ∃ k : Nat, k ≤ n ∧ i = .int .i64 k ∧ Own (tInt .i8) wr (fun _ => False) w.heap.size 47 u k ((l.take k).map s8) ∧ RdAt (fun x => X x ∨ w.heap.size ≤ x) wr g (l.drop k, 0) ∧ But (one g) w wr) (fun _ i _ => n - (intOf i).toNat)
    case atStart => exact ⟨0, Nat.zero_le _, rfl, by simpa using Own.nil _ _ _ _ _, by simpa using H2.out, But.refl _ _⟩
    case round =>
      obtain ⟨k, hk, rfl, hown, hrd, hb⟩ := hrel
      have ON := Lib.hid hown
      have RD := Lib.hid hrd
      have HB := Lib.hid hb
      have zr := hb.size
      clear hown hrd hb H2
      by_cases hlt : k < n
      · have p1 : (k : Int) < (n : Int) := by omega
        have ST := Lib.hid (smalls_take l k (by rw [LEN.out]; omega))
        have BY := Lib.hid (byte8_any (fun x => X x ∨ w.heap.size ≤ x) g (l.drop k) 0 (by rw [List.length_drop, LEN.out]; omega) wr RD.out (.inl hX))
        have D0 := Lib.hid (show (l.drop k).getD 0 0 = l.getD k 0 by simp [List.getD_eq_getElem?_getD])
        have D1 := Lib.hid (show (l.drop k).drop 1 = l.drop (k + 1) by rw [List.drop_drop])
        rw [D0.out, D1.out] at BY
        obtain ⟨y, hy⟩ : ∃ y, s8 (l.getD k 0) = y := ⟨_, rfl⟩
        have hyi := s8_in (l.getD k 0)
        rw [hy] at ST BY hyi
        have YI := Lib.hid hyi
        clear hy D0 D1 hyi
        go_wp2_with fail
        refine BY.out.mono ?_
        rintro e' w2 ⟨rfl, hr2, hb2⟩
        have R2 := Lib.hid hr2
        have O2 := Lib.hid (ON.out.but1 hb2 lt)
        have B2 := Lib.hid (HB.out.trans hb2)
        have z2 := B2.out.size
        clear hr2 hb2 ON RD HB BY
        go_wp2_with (at_builtin; refine wpList_push (t := tInt .i8) rfl (.tmp 33) (.tmp 36) rfl ei_i8 rfl O2.out 1 rfl y ⟨rfl, YI.out⟩ (by unfold maxLen; omega) (by omega) z2 (fun _ h => h.elim) ?_; intro v' w3 own3 g3 at3)
        have b3 : But (fun x => w.heap.size ≤ x) w2 w3 := But.of_row g3 (fun j hj => (O2.out.lt j hj).1)
        refine ⟨⟨k + 1, by omega, by go_num, by rw [ST.out]; exact own3, R2.out.but b3 (fun x hx => .inr hx) (by omega), ?_⟩, by simp [intOf]; omega⟩
        exact B2.out.step b3 (fun x h1 h2 => by omega)
      · obtain rfl : k = n := by omega
        obtain ⟨A', m', c', hB, hs⟩ := RD.out.out
        have c1 : wr.cell? ⟨g, 1, none⟩ = some (.int .i64 0) := hB.cell 1
        obtain ⟨A8, c8, rfl, s8'⟩ := ON.out.sl (S' := bin w.heap.size wr.heap.size) (by decide) (fun b h1 h2 => ⟨h1, h2⟩) (fun _ h => h.elim)
        have S8 := Lib.hid s8'
        clear hB hs s8' ON hlt hk
        go_wp2_with fail
        go_ret
        rw [SV.out]
        exact ⟨⟨A8, _, c8, rfl, S8.out⟩, RD.out.more (fun x _ hx => .inl hx), HB.out⟩

theorem rdSmall_any (X : Nat → Prop) (g : Nat) (s : List Int × Int) (n : Nat) (hn : n ≤ 1000000) (w : World) (h : RdAt X w g s) (hX : X g) :
    Calls Try.prog 56 #[.pointer (some ⟨g, 0, none⟩), .int .i64 (n : Int)] w (RetSmall X w g (smallV n s)) := by
  have AA := Lib.hid (all_any X g s n hn w h hX)
  clear h
  go_enter Try.func56, Try.ntmps56
  go_wp2_with fail
  refine AA.out.mono ?_
  rintro e' w2 ⟨⟨A, m, c, rfl, hs⟩, hr, hb⟩
  have HS := Lib.hid hs
  have HR := Lib.hid hr
  have HB := Lib.hid hb
  clear hs hr hb
  go_wp2_with fail
  go_ret
  exact ⟨⟨A, m, c, rfl, HS.out⟩, HR.out, HB.out⟩

theorem rdRead_any (A : Option Addr) (n cap : Nat) (l : List Int) (w : World) (hs : Sl (tInt .u8) w (blo w.heap.size) A n cap l) (hn : n ≤ 100000) :
    Calls Try.prog 27 #[.slice A n cap] w fun e' w' => ∃ g, e' = .returned (.pointer (some ⟨g, 0, none⟩)) ∧ w.heap.size ≤ g ∧ RdAt (fun x => x < w.heap.size ∨ x = g) w' g (l, 0) ∧ Below w.heap.size w w' := by
  have H := Lib.hid hs
  clear hs
  go_enter Try.func27, Try.ntmps27
  go_wp2_with (at_builtin; (refine wpList_extend (base := w.heap.size) rfl (.const (.slice none 0 0)) (.tmp 3) rfl ei_u8 rfl (Own.nil _ _ _ _ _) rfl H.out (by unfold maxLen; omega) (by omega) (Nat.le_refl _) ?_; intro v3 w3 own3 g3 at3; obtain ⟨A3, c3, rfl, sl3⟩ := own3.sl (S' := bin w.heap.size w3.heap.size) (by decide) (fun b h1 h2 => ⟨h1, h2⟩) (fun _ h => h.elim); have S3 := Lib.hid sl3; have G3 := Lib.hid ((Below.refl w.heap.size w).grown g3 (Nat.le_refl _) (fun k h => by cases h)); clear own3 g3 at3 sl3))
  go_ret
  rw [Nat.zero_add, List.nil_append] at S3
  have k1 : Below w3.heap.size w3 (w3.alloc (.cells #[.slice A3 n c3, .int .i64 0] 80)) := (Below.refl _ _).alloc (Nat.le_refl _) _
  refine ⟨w3.heap.size, rfl, G3.out.size, ⟨A3, n, c3, Blk.now _ _ _ _ rfl, ?_⟩, below_later k1 G3.out⟩
  refine (S3.out.below k1 (fun _ h => h.2)).more fun x hx => ⟨?_, ?_⟩
  · have := hx.2; have := k1.size; omega
  · have := hx.1; have := hx.2; omega
end Go.Proofs.Ytanglfmolnfjeaa
