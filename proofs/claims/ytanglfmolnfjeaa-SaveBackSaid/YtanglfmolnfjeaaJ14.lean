/-
  Tensors that may be (layer 5).
  Conditions: none.
  Numbers as bytes (layer 6): the document's Put. 
  Conditions: numbers below 2^64.
  Numbers one behind the other as bytes (layer 37): save.numbers.
  Conditions: at most 1000 numbers, none below zero.
-/
import Derived.Test.YtanglfmolnfjeaaChecked
import Derived.Test.YtanglfmolnfjeaaJ13
import Derived.Test.YtanglfmolnfjeaaJ04
import Derived.Test.YtanglfmolnfjeaaJ09
namespace Go.Proofs.Ytanglfmolnfjeaa
open Go.RowKit Go.ChangeShapes Go.WideShapes
set_option maxRecDepth 100000
set_option linter.unusedVariables false
set_option linter.unusedSimpArgs false

theorem tensorRight_any (h v c : Int) (A : Option Addr) (n cap : Nat) (w : World) (h0 : InK .i64 h) (h1 : InK .i64 v) (h2 : InK .i64 c) (hn : n ≤ maxLen) :
    Calls Try.prog 16 #[.agg #[.int .i64 h, .int .i64 v, .int .i64 c, .slice A n cap]] w fun e w' => e = .returned (.bool (decide (0 < elems h v c ∧ elems h v c = n))) ∧ Below w.heap.size w w' := by
  have H0 := Lib.hid h0
  have H1 := Lib.hid h1
  have H2 := Lib.hid h2
  unfold maxLen at hn
  clear h0 h1 h2
  go_enter Try.func16, Try.ntmps16
  go_wp2_with fail
  refine (elems_any h c v _ H0.out H1.out H2.out).mono ?_
  rintro e w' ⟨rfl, hb⟩
  have hc := cell_below hb (p := ⟨w.heap.size, 3, none⟩) (v := .slice A n cap) (by simp [go_sem]) (by simp)
  generalize he : elems h v c = m at *
  have HE := Lib.hid he
  clear he
  by_cases hm : 0 < m
  · go_wp2_with fail
    go_ret
    exact ⟨ret_bool (by rw [HE.out, Bool.eq_iff_iff]; simp [hm]), ((Below.refl _ _).alloc (Nat.le_refl _) _).trans (hb.mono (by simp))⟩
  · go_wp2_with fail
    go_ret
    exact ⟨ret_bool (by rw [HE.out, Bool.eq_iff_iff]; simp; omega), ((Below.refl _ _).alloc (Nat.le_refl _) _).trans (hb.mono (by simp))⟩

theorem rtensorRight_any (h v c : Int) (A : Option Addr) (n cap : Nat) (w : World) (h0 : InK .i64 h) (h1 : InK .i64 v) (h2 : InK .i64 c) (hn : n ≤ maxLen) :
    Calls Try.prog 22 #[.agg #[.int .i64 h, .int .i64 v, .int .i64 c, .slice A n cap]] w fun e w' => e = .returned (.bool (decide (0 < elems h v c ∧ elems h v c = n))) ∧ Below w.heap.size w w' := by
  have H0 := Lib.hid h0
  have H1 := Lib.hid h1
  have H2 := Lib.hid h2
  unfold maxLen at hn
  clear h0 h1 h2
  go_enter Try.func22, Try.ntmps22
  go_wp2_with fail
  have g1 : Below w.heap.size w (w.alloc (.cells #[.int .i64 h, .int .i64 v, .int .i64 c, .slice A n cap] 26)) := by go_grown
  have bA := Blk.now w w.heap.size 26 #[.int .i64 h, .int .i64 v, .int .i64 c, .slice A n cap] rfl
  generalize w.alloc (.cells #[.int .i64 h, .int .i64 v, .int .i64 c, .slice A n cap] 26) = w0 at *
  have BA := Lib.hid bA
  have cA : ∀ (x : Ext w0) (i : Nat), x.1.cell? ⟨w.heap.size, i, none⟩ = (#[.int .i64 h, .int .i64 v, .int .i64 c, .slice A n cap] : Array Value)[i]? := fun x i => (BA.out.ext x).cell i
  clear bA
  have e1 : ∀ x : Ext w0, Calls Try.prog 40 #[.agg #[.int .i64 h, .int .i64 v, .int .i64 c]] x.1 fun e w'' => e = .returned (.int .i64 (elems h v c)) ∧ ∃ y : Ext w0, w'' = y.1 :=
    fun x => calls_ext x (relems_any h c v _ H0.out H1.out H2.out)
  generalize hm : elems h v c = m at *
  have E1 := Lib.hid e1
  have HM := Lib.hid hm
  clear hm e1
  by_cases hm : 0 < m
  · refine wp_region_ext w0 (by kernel_rfl) (by kernel_rfl) (Below.refl _ _) ?_
    repeat (go_big_quiet_step ((exact E1.out _)))
    refine wpQuiet_nil ?_
    rintro _ ⟨⟨w3, hb⟩, rfl⟩
    go_wp2_with fail
    go_ret
    exact ⟨ret_bool (by rw [HM.out, Bool.eq_iff_iff]; simp [hm]), below_call g1 hb g1.size⟩
  · have hd : decide (0 < m) = false := by simp; omega
    refine wp_region_ext w0 (by kernel_rfl) (by kernel_rfl) (Below.refl _ _) ?_
    repeat (go_big_quiet_step ((exact E1.out _)))
    refine wpQuiet_nil ?_
    rintro _ ⟨⟨w3, hb⟩, rfl⟩
    go_wp2_with fail
    go_ret
    exact ⟨ret_bool (by rw [HM.out, Bool.eq_iff_iff]; simp; omega), below_call g1 hb g1.size⟩

end Go.Proofs.Ytanglfmolnfjeaa
namespace Go.Proofs.Ytanglfmolnfjeaa
set_option linter.unusedVariables false
set_option linter.unusedSimpArgs false
open Go.RowKit Go.ChangeShapes Go.WideShapes
set_option maxRecDepth 100000
set_option maxHeartbeats 4000000

theorem rlebPut_any (n : Nat) (w : World) (hn : n < 2 ^ 64) : Calls Try.prog 42 #[.int .u64 n] w (RetSl (tInt .u8) w (lebV n)) := by
  obtain ⟨s1, s2⟩ := lebLen_spec 9 n (Nat.lt_of_lt_of_le hn pow_10)
  have h9 := lebLen_le 9 n
  have LV := Lib.hid (show lebV n = lebTo n (lebLen n 9) ++ [((lebRest n (lebLen n 9) : Nat) : Int)] from rfl)
  obtain ⟨m, hm⟩ : ∃ m, lebLen n 9 = m := ⟨_, rfl⟩
  rw [hm] at s1 s2 h9 LV
  have S1 := Lib.hid s1
  have RL := Lib.hid (lebRest_le n)
  have RN := Lib.hid (lebRest_next n)
  clear s1 hm
  have hn' : n < 18446744073709551616 := hn
  go_enter Try.func42, Try.ntmps42
  go_wp2_with fail
  go_loopw [0, 3] (fun x u wr => ∃ k : Nat, k ≤ m ∧ x = .int .u64 (lebRest n k : Nat) ∧ Own (tInt .u8) wr (fun _ => False) w.heap.size 5 u k (lebTo n k) ∧ Below w.heap.size w wr) (fun x _ _ => (intOf x).toNat)
  case atStart => exact ⟨0, Nat.zero_le _, by simp [lebRest], by simpa [lebTo] using Own.nil _ _ _ _ _, Below.refl _ _⟩
  case round =>
    obtain ⟨k, hk, rfl, hown, hb⟩ := hrel
    have ON := Lib.hid hown
    have HB := Lib.hid hb
    have zr := hb.size
    clear hown hb
    have hle := RL.out k
    have hnx := RN.out k
    by_cases hlt : k < m
    · have h128 := S1.out k hlt
      obtain ⟨r, hr⟩ : ∃ r, lebRest n k = r := ⟨_, rfl⟩
      have LT := Lib.hid (show lebTo n (k + 1) = lebTo n k ++ [((r % 128 + 128 : Nat) : Int)] by rw [← hr]; rfl)
      rw [hr] at hle hnx h128 ⊢
      have NX := Lib.hid hnx
      have t1 : decide (127 < (r : Int)) = true := by simp; omega
      clear hr hnx
      go_wp2_with (at_builtin; refine wpList_push (t := tInt .u8) rfl (.tmp 6) (.tmp 11) rfl ei_u8 rfl ON.out 1 rfl ((r % 128 + 128 : Nat) : Int) ⟨rfl, by rw [inK_u8]; omega⟩ (by unfold maxLen; omega) (by omega) zr (fun _ h => h.elim) ?_; intro v' w3 own3 g3 at3)
      have b3 := HB.out.grown g3 zr (fun j hj => (ON.out.lt j hj).1)
      refine ⟨⟨k + 1, by omega, by rw [NX.out]; rfl, by rw [LT.out]; exact own3, b3⟩, ?_⟩
      simp [intOf]; omega
    · obtain rfl : k = m := by omega
      obtain ⟨r, hr⟩ : ∃ r, lebRest n k = r := ⟨_, rfl⟩
      rw [hr] at hle s2 LV ⊢
      have t1 : decide (127 < (r : Int)) = false := by simp; omega
      have hw : (r : Int) % 256 = (r : Int) := by omega
      clear hr hnx hlt hk
      go_wp2_with (at_builtin; refine wpList_push (t := tInt .u8) rfl (.tmp 15) (.tmp 18) rfl ei_u8 rfl ON.out 1 rfl (r : Int) ⟨rfl, by rw [inK_u8]; omega⟩ (by unfold maxLen; omega) (by omega) zr (fun _ h => h.elim) ?_; intro v' w3 own3 g3 at3)
      have b3 := HB.out.grown g3 zr (fun j hj => (ON.out.lt j hj).1)
      go_ret
      rw [LV.out]
      exact own3.ret (by decide) b3 (fun _ h => h.elim)
end Go.Proofs.Ytanglfmolnfjeaa
namespace Go.Proofs.Ytanglfmolnfjeaa
set_option linter.unusedVariables false
set_option linter.unusedSimpArgs false
open Go.RowKit Go.ChangeShapes Go.WideShapes
set_option maxRecDepth 100000
set_option maxHeartbeats 4000000

def numbersV (l : List Int) : List Int := l.flatMap fun x => lebV x.toNat
theorem numbersV_take (l : List Int) (k : Nat) (h : k < l.length) : numbersV (l.take (k + 1)) = numbersV (l.take k) ++ lebV (l.getD k 0).toNat := by
  rw [take_snoc l k (l.getD k 0) (by rw [List.getD_eq_getElem?_getD, List.getElem?_eq_getElem h]; rfl)]
  simp [numbersV]

theorem numbersV_len (l : List Int) : (numbersV l).length ≤ 10 * l.length := by
  induction l with
  | nil => simp [numbersV]
  | cons x l ih =>
    have e : numbersV (x :: l) = lebV x.toNat ++ numbersV l := rfl
    rw [e, List.length_append, lebV_length, List.length_cons]
    have := lebLen_le 9 x.toNat
    omega
/-- A row of bytes of the call's own is handed back. -/
def RetOwn (w : World) (l : List Int) (e : Ending) (w' : World) : Prop := ∃ v m, e = .returned v ∧ Own (tInt .u8) w' (fun _ => False) w.heap.size 5 v m l ∧ m = l.length ∧ Below w.heap.size w w'
theorem Own.base {α : Type} {t : Ty α} {w : World} {S : Nat → Prop} {b b' : Nat} {E : TypeId} {v : Value} {n : Nat} {l : List α} (h : Own t w S b E v n l) (hb : b' ≤ b) : Own t w S b' E v n l := by
  obtain ⟨vs, h1, h2⟩ := h.out
  refine ⟨vs, ⟨h1.1, ?_⟩, h2⟩
  rcases h1.2 with h | ⟨g, cap, cur, a, b, c⟩
  · exact .inl h
  · exact .inr ⟨g, cap, cur, a, Nat.le_trans hb b, c⟩

theorem numbers_any (A : Option Addr) (n cap : Nat) (l : List Int) (w : World) (hs : Sl (tInt .i64) w (blo w.heap.size) A n cap l) (hn : n ≤ 1000) (hp : ∀ i, i < n → 0 ≤ l.getD i 0) :
    Calls Try.prog 17 #[.slice A n cap] w (RetOwn w (numbersV l)) := by
  have H := Lib.hid hs
  have HN := Lib.hid hs.n_eq
  have HP := Lib.hid hp
  clear hs hp
  go_enter Try.func17, Try.ntmps17
  go_wp2_with fail
  go_loopw [3, 8] (fun u i wr => ∃ k m : Nat, k ≤ n ∧ m ≤ 10 * k ∧ i = .int .i64 k ∧ Own (tInt .u8) wr (fun _ => False) w.heap.size 5 u m (numbersV (l.take k)) ∧ Below w.heap.size w wr) (fun _ i _ => n - (intOf i).toNat)
  case atStart => exact ⟨0, 0, Nat.zero_le _, Nat.le_refl _, rfl, by simpa [numbersV] using Own.nil _ _ _ _ _, Below.refl _ _⟩
  case round =>
    obtain ⟨k, m, hk, hm, rfl, hown, hb⟩ := hrel
    have ON := Lib.hid hown
    have HB := Lib.hid hb
    have zr := hb.size
    clear hown hb
    by_cases hlt : k < n
    · have p1 : (k : Int) < (n : Int) := by omega
      obtain ⟨b, off, rfl, _, _, c0, i0⟩ := (H.out.below HB.out (fun _ h => h)).int_at k hlt
      have NT := Lib.hid (numbersV_take l k (by rw [HN.out]; exact hlt))
      have hx0 := HP.out k hlt
      obtain ⟨y, hy⟩ : ∃ y : Nat, l.getD k 0 = (y : Int) := ⟨(l.getD k 0).toNat, by omega⟩
      rw [hy] at c0 i0 NT
      rw [inK_i64] at i0
      rw [Int.toNat_natCast] at NT
      obtain ⟨i1, i2⟩ := i0
      have PY := Lib.hid (fun w => lebPut_any y w (by omega))
      have hl := lebV_length y
      have hl9 := lebLen_le 9 y
      obtain ⟨lv, hlv⟩ : ∃ x, lebV y = x := ⟨_, rfl⟩
      rw [hlv] at PY NT hl
      clear hy hlv hx0
      go_wp2_with fail
      refine (PY.out _).mono ?_
      rintro e w2 ⟨A2, n2, c2, rfl, hs2, hb⟩
      have hn2 := hs2.n_eq
      have S2 := Lib.hid hs2
      have O2 := Lib.hid (ON.out.below hb (Nat.le_refl _) (fun _ h => h.elim))
      have B2 := Lib.hid (below_later hb HB.out)
      have z2 := B2.out.size
      clear hs2 hb ON
      go_wp2_with (at_builtin; refine wpList_extend rfl (.tmp 12) (.tmp 15) rfl ei_u8 rfl O2.out rfl S2.out (by unfold maxLen; omega) (by omega) z2 ?_; intro v' w3 own3 g3 at3)
      have b3 := B2.out.grown g3 z2 (fun j hj => (O2.out.lt j hj).1)
      exact ⟨⟨k + 1, m + n2, by omega, by omega, by go_num, by rw [NT.out]; exact own3, b3⟩, by simp [intOf]; omega⟩
    · obtain rfl : k = n := by omega
      have hall : l.take k = l := List.take_of_length_le (by rw [HN.out]; exact Nat.le_refl _)
      rw [hall] at ON
      go_wp2_with fail
      go_ret
      exact ⟨_, _, rfl, ON.out, (ON.out.length (by decide)).symm, HB.out⟩
end Go.Proofs.Ytanglfmolnfjeaa
