/-
  The document's Last, Few, the fixed call, and the walk of the law GraphShapes (layer 27).
  Conditions: none.
-/
import Derived.Test.YtlpejbopdmledaaChecked
import Derived.Test.YtlpejbopdmledaaJ36
import Derived.Test.YtlpejbopdmledaaJ39
namespace Go.Proofs.Ytlpejbopdmledaa
set_option linter.unusedVariables false
set_option linter.unusedSimpArgs false
open Go.RowKit Go.ChangeShapes Go.WideShapes
set_option maxRecDepth 100000

theorem lastTo_next {l : List Node} {v : Int} {k : Nat} {d : Node} (hd : l[k]? = some d) : lastTo l v (k + 1) = if takesB d k v then (k : Int) + 1 else lastTo l v k := by
  have e : l.getD k noNode = d := by rw [List.getD_eq_getElem?_getD, hd]; rfl
  show (if takesB (l.getD k noNode) k v then _ else _) = _
  rw [e]

set_option maxHeartbeats 8000000 in
theorem rlast_any (A : Option Addr) (n cap : Nat) (l : List Node) (v : Int) (w : World) (hs : Sl tNode w (blo w.heap.size) A n cap l) (h12 : n ≤ 12) :
    Calls Try.prog 11 #[.slice A n cap, .int .i64 v] w fun e w' => e = .returned (.int .i64 (lastV l v)) ∧ Below w.heap.size w w' := by
  have hn := hs.n_eq
  have hmax : n ≤ 9223372036854775807 := Nat.le_trans hs.cap_le hs.max_le
  have hmx := Nat.le_trans hs.cap_le hs.max_le
  unfold maxLen at hmx
  obtain ⟨r, hr⟩ : ∃ r, lastV l v = r := ⟨_, rfl⟩
  rw [hr]
  unfold lastV at hr
  rw [hn] at hr
  have H := Lib.hid hs
  clear hs hn
  by_cases c1 : v = n
  · rw [if_pos c1] at hr
    have R := Lib.hid hr
    have t1 : (v == (n : Int)) = true := by simpa using c1
    clear c1 hr
    go_enter Try.func11, Try.ntmps11
    go_wp2_with fail
    go_ret
    exact ⟨by rw [← R.out]; rfl, Below.refl _ _⟩
  rw [if_neg c1] at hr
  have R := Lib.hid hr
  have t1 : (v == (n : Int)) = false := by simpa using c1
  clear c1 hr
  go_enter Try.func11, Try.ntmps11
  go_wp2_with fail
  go_loopw [5, 6] (fun o i wr => ∃ k : Nat, k ≤ n ∧ i = .int .i64 k ∧ o = .int .i64 (lastTo l v k) ∧ Below w.heap.size w wr) (fun _ i _ => n - (intOf i).toNat)
  case atStart => exact ⟨0, Nat.zero_le _, rfl, rfl, Below.refl _ _⟩
  case round =>
    obtain ⟨k, hk, rfl, rfl, hb⟩ := hrel
    have HB := Lib.hid hb
    clear hb
    obtain ⟨x, hx⟩ : ∃ x, lastTo l v k = x := ⟨_, rfl⟩
    rw [hx]
    by_cases hlt : k < n
    · have p1 : (k : Int) < (n : Int) := by omega
      obtain ⟨d, b0, off, W, nw, cw, B, nb, cb, hd, rfl, _, _, hin, hw8, hw32, hrg⟩ := (H.out.below HB.out (fun _ h => h)).node_at k hlt
      have NX := lastTo_next (v := v) hd
      rw [hx] at NX
      unfold takesB at NX
      have RG := Lib.hid hrg
      have TH := Lib.hid (fun w => rthere_any d W nw cw B nb cb ((k : Int) + 1) w)
      have SC := Lib.hid (fun w => second_any d W nw cw B nb cb w)
      obtain ⟨sv, hsv⟩ : ∃ x, secondV d = x := ⟨_, rfl⟩
      obtain ⟨th, hth⟩ : ∃ x, thereV d ((k : Int) + 1) = x := ⟨_, rfl⟩
      rw [hth, hsv] at NX
      rw [hth] at TH
      rw [hsv] at SC
      have ca := hrg 1 _ rfl
      obtain ⟨da, hda⟩ : ∃ x, d.a = x := ⟨_, rfl⟩
      rw [hda] at NX ca
      clear hd hin hw8 hw32 hrg hsv hth hda hx
      cases th with
      | false =>
        have E := Lib.hid NX
        clear NX
        go_wp2_with (refine wpList_load_mid rfl 53 (.tmp 22) rfl b0 (off + k * 19) rfl _ _ RG.out Try.underlying53 rfl (by kernel_rfl) ?_)
        refine (TH.out _).mono ?_
        rintro e w2 ⟨rfl, hb⟩
        have G2 := Lib.hid (below_later hb HB.out)
        clear hb
        go_wp2_with fail
        exact ⟨⟨k + 1, by omega, by go_num, by rw [E.out]; rfl, G2.out⟩, by simp [intOf]; omega⟩
      | true =>
        by_cases q1 : da = v
        · have t2 : (da == v) = true := by simpa using q1
          have E := Lib.hid (show lastTo l v (k + 1) = (k : Int) + 1 by rw [NX, if_pos (by simp [q1])])
          clear NX q1
          go_wp2_with (refine wpList_load_mid rfl 53 (.tmp 22) rfl b0 (off + k * 19) rfl _ _ RG.out Try.underlying53 rfl (by kernel_rfl) ?_)
          refine (TH.out _).mono ?_
          rintro e w2 ⟨rfl, hb⟩
          have G2 := Lib.hid (below_later hb HB.out)
          have ca2 := cell_later hb ca
          clear hb ca
          go_wp2_with fail
          exact ⟨⟨k + 1, by omega, by go_num, by rw [E.out], G2.out⟩, by simp [intOf]; omega⟩
        · have t2 : (da == v) = false := by simpa using q1
          have hE : lastTo l v (k + 1) = if sv = v then (k : Int) + 1 else x := by rw [NX]; simp [q1]
          clear NX q1
          go_wp2_with (refine wpList_load_mid rfl 53 (.tmp 22) rfl b0 (off + k * 19) rfl _ _ RG.out Try.underlying53 rfl (by kernel_rfl) ?_)
          refine (TH.out _).mono ?_
          rintro e w2 ⟨rfl, hb⟩
          have G2 := Lib.hid (below_later hb HB.out)
          have ca2 := cell_later hb ca
          have RG2 := Lib.hid (rangeAt_later RG.out hb)
          clear hb ca TH
          go_wp2_with (refine wpList_load_midw (by kernel_rfl) 53 (.tmp 38) rfl b0 (off + k * 19) rfl _ _ RG2.out Try.underlying53 rfl (by kernel_rfl) ?_)
          refine (SC.out _).mono ?_
          rintro e w3 ⟨rfl, hb⟩
          have G3 := Lib.hid (below_later hb G2.out)
          clear hb ca2
          by_cases q2 : sv = v
          · have t3 : (sv == v) = true := by simpa using q2
            rw [if_pos q2] at hE
            have E := Lib.hid hE
            clear hE q2
            go_wp2_with fail
            exact ⟨⟨k + 1, by omega, by go_num, by rw [E.out], G3.out⟩, by simp [intOf]; omega⟩
          · have t3 : (sv == v) = false := by simpa using q2
            rw [if_neg q2] at hE
            have E := Lib.hid hE
            clear hE q2
            go_wp2_with fail
            exact ⟨⟨k + 1, by omega, by go_num, by rw [E.out], G3.out⟩, by simp [intOf]; omega⟩
    · obtain rfl : k = n := by omega
      have E := Lib.hid (R.out.symm.trans hx)
      clear hlt hk hx
      go_wp2_with fail
      go_ret
      exact ⟨by rw [E.out]; rfl, HB.out⟩

/-- Nodes of a size that is gone through. -/
def fewN (l : List Node) : Prop := l.length ≤ 12 ∧ ∀ d ∈ l, d.w.length ≤ 1000 ∧ d.bias.length ≤ 100

set_option maxHeartbeats 8000000 in
theorem few27_any (A : Option Addr) (n cap : Nat) (l : List Node) (h v c : Int) (D : Option Addr) (m cm : Nat) (w : World) (hs : Sl tNode w (blo w.heap.size) A n cap l) :
    Calls Try.prog 6 #[.slice A n cap, .agg #[.int .i64 h, .int .i64 v, .int .i64 c, .slice D m cm]] w fun e w' => ∃ b : Bool, e = .returned (.bool b) ∧ (b = true → fewN l ∧ m ≤ 300) ∧ Below w.heap.size w w' := by
  have hn := hs.n_eq
  have hmax : n ≤ 9223372036854775807 := Nat.le_trans hs.cap_le hs.max_le
  have FR := Lib.hid (Far.refl w)
  obtain ⟨w1, hw_w1⟩ : ∃ nw_, w.alloc (.cells #[.int .i64 h, .int .i64 v, .int .i64 c, .slice D m cm] 28) = nw_ := ⟨_, rfl⟩
  have k_w1 : Below w.heap.size w w1 := by rw [← hw_w1]; exact (Below.refl _ _).alloc (Nat.le_refl _) _
  replace FR := Lib.hid (FR.out.fut k_w1)
  have BA := Lib.hid (show Blk w1 w.heap.size 28 #[.int .i64 h, .int .i64 v, .int .i64 c, .slice D m cm] by rw [← hw_w1]; exact Blk.now _ _ _ _ rfl)
  clear k_w1
  have c3 := BA.out.cell 3
  have l1 : w.heap.size < w1.heap.size := by rw [← hw_w1]; simp
  have H := Lib.hid (hs.later FR.out.out (Nat.le_refl _))
  have HN := Lib.hid hn
  clear hs hn
  by_cases c1 : 12 < n
  · have t1 : decide (12 < (n : Int)) = true := by simp; omega
    go_enter Try.func6, Try.ntmps6
    go_wp2_with fail
    go_ret
    exact ⟨false, rfl, (fun h => by cases h), FR.out.out⟩
  have t1 : decide (12 < (n : Int)) = false := by simp; omega
  by_cases c2 : 300 < m
  · have t2 : decide (300 < (m : Int)) = true := by simp; omega
    go_enter Try.func6, Try.ntmps6
    go_wp2_with fail
    go_ret
    exact ⟨false, rfl, (fun h => by cases h), FR.out.out⟩
  have t2 : decide (300 < (m : Int)) = false := by simp; omega
  go_enter Try.func6, Try.ntmps6
  go_wp2_with fail
  clear c3 t1 t2 hw_w1
  go_loopw [5] (fun i wr => ∃ k : Nat, k ≤ n ∧ i = .int .i64 k ∧ Below w1.heap.size w1 wr ∧ ∀ j d, j < k → l[j]? = some d → d.w.length ≤ 1000 ∧ d.bias.length ≤ 100) (fun i _ => n - (intOf i).toNat)
  case atStart => exact ⟨0, Nat.zero_le _, rfl, Below.refl _ _, fun j d hj => absurd hj (Nat.not_lt_zero _)⟩
  case round =>
    obtain ⟨k, hk, rfl, hb, hq⟩ := hrel
    have HB := Lib.hid hb
    have HQ := Lib.hid hq
    clear hb hq
    by_cases hlt : k < n
    · have p1 : (k : Int) < (n : Int) := by omega
      obtain ⟨d, b0, off, W, nw, cw, B, nb, cb, hd, rfl, _, _, hin, hw8, hw32, hrg⟩ := (H.out.below HB.out (fun _ h => h)).node_at k hlt
      have c9 := hrg 9 _ rfl
      have c10 := hrg 10 _ rfl
      have q8 := hw8.n_eq
      have q32 := hw32.n_eq
      have m8 := Nat.le_trans hw8.cap_le hw8.max_le
      have m32 := Nat.le_trans hw32.cap_le hw32.max_le
      have HD := Lib.hid hd
      clear hd hin hw8 hw32 hrg
      by_cases g1 : 1000 < nw
      · have t3 : decide (1000 < (nw : Int)) = true := by simp; omega
        clear q8 q32
        go_wp2_with fail
        go_ret
        exact ⟨false, rfl, (fun h => by cases h), below_later HB.out FR.out.out⟩
      have t3 : decide (1000 < (nw : Int)) = false := by simp; omega
      by_cases g2 : 100 < nb
      · have t4 : decide (100 < (nb : Int)) = true := by simp; omega
        clear q8 q32
        go_wp2_with fail
        go_ret
        exact ⟨false, rfl, (fun h => by cases h), below_later HB.out FR.out.out⟩
      have t4 : decide (100 < (nb : Int)) = false := by simp; omega
      have Q := Lib.hid (show d.w.length ≤ 1000 ∧ d.bias.length ≤ 100 by omega)
      clear q8 q32
      go_wp2_with fail
      refine ⟨⟨k + 1, by omega, by go_num, HB.out, fun j d' hj hd' => ?_⟩, by simp [intOf]; omega⟩
      by_cases hjk : j < k
      · exact HQ.out j d' hjk hd'
      · obtain rfl : j = k := by omega
        rw [HD.out] at hd'
        cases hd'
        exact Q.out
    · obtain rfl : k = n := by omega
      have FN := Lib.hid (show fewN l from ⟨by rw [HN.out]; omega, fun d hd => by
        obtain ⟨j, hj⟩ := List.getElem?_of_mem hd
        exact HQ.out j d (by have := (List.getElem?_eq_some_iff.1 hj).1; rw [HN.out] at this; exact this) hj⟩)
      have MM := Lib.hid (show m ≤ 300 by omega)
      clear hlt hk
      go_wp2_with fail
      go_ret
      exact ⟨true, rfl, fun _ => ⟨FN.out, MM.out⟩, below_later HB.out FR.out.out⟩

def flatN : Node := ⟨9, 0, 0, 0, 0, 0, 0, 0, 0, [], [], 0, 0, 0, 0, 0, 0, 0, 0⟩
theorem ei_node : EI Try.prog 22 53 (.agg #[.int .i64 0, .int .i64 0, .int .i64 0, .int .i64 0, .int .i64 0, .int .i64 0, .int .i64 0, .int .i8 0, .int .i8 0, .slice none 0 0, .slice none 0 0, .int .i32 0, .int .i64 0, .int .i8 0, .int .i32 0, .int .i64 0, .int .i8 0, .int .i8 0, .int .i8 0]) 19 168 := ⟨Try.underlying22, by kernel_rfl, rfl, by decide⟩
theorem flatN_rep (w : World) (S : Nat → Prop) : tNode.rep w S [.int .i64 9, .int .i64 0, .int .i64 0, .int .i64 0, .int .i64 0, .int .i64 0, .int .i64 0, .int .i8 0, .int .i8 0, .slice none 0 0, .slice none 0 0, .int .i32 0, .int .i64 0, .int .i8 0, .int .i32 0, .int .i64 0, .int .i8 0, .int .i8 0, .int .i8 0] flatN :=
  ⟨(9, 0, 0, 0, 0, 0, 0, 0, 0, [], [], (0, 0, 0), (0, 0, 0), 0, 0), rfl,
    _, _, rfl, ⟨rfl, by decide⟩, _, _, rfl, ⟨rfl, by decide⟩, _, _, rfl, ⟨rfl, by decide⟩, _, _, rfl, ⟨rfl, by decide⟩, _, _, rfl, ⟨rfl, by decide⟩, _, _, rfl, ⟨rfl, by decide⟩, _, _, rfl, ⟨rfl, by decide⟩, _, _, rfl, ⟨rfl, by decide⟩, _, _, rfl, ⟨rfl, by decide⟩,
    _, _, rfl, (Sl.nil _ _ _).rep, _, _, rfl, (Sl.nil _ _ _).rep, _, _, rfl, ⟨_, _, rfl, ⟨rfl, by decide⟩, _, _, rfl, ⟨rfl, by decide⟩, rfl, by decide⟩, _, _, rfl, ⟨_, _, rfl, ⟨rfl, by decide⟩, _, _, rfl, ⟨rfl, by decide⟩, rfl, by decide⟩, _, _, rfl, ⟨rfl, by decide⟩, rfl, by decide⟩

set_option maxHeartbeats 8000000 in
theorem known27_any (w : World) : Calls Try.prog 7 #[] w fun e w' => e = .returned (.bool true) ∧ Below w.heap.size w w' := by
  go_enter Try.func7, Try.ntmps7
  go_wp2_with (refine wpList_lit2 rfl (.tmp 1) (.tmp 2) rfl ei_node (.agg #[.int .i64 9, .int .i64 0, .int .i64 0, .int .i64 0, .int .i64 0, .int .i64 0, .int .i64 0, .int .i8 0, .int .i8 0, .slice none 0 0, .slice none 0 0, .int .i32 0, .int .i64 0, .int .i8 0, .int .i32 0, .int .i64 0, .int .i8 0, .int .i8 0, .int .i8 0]) (.agg #[.int .i64 9, .int .i64 0, .int .i64 0, .int .i64 0, .int .i64 0, .int .i64 0, .int .i64 0, .int .i8 0, .int .i8 0, .slice none 0 0, .slice none 0 0, .int .i32 0, .int .i64 0, .int .i8 0, .int .i32 0, .int .i64 0, .int .i8 0, .int .i8 0, .int .i8 0]) rfl rfl #[.int .i64 9, .int .i64 0, .int .i64 0, .int .i64 0, .int .i64 0, .int .i64 0, .int .i64 0, .int .i8 0, .int .i8 0, .slice none 0 0, .slice none 0 0, .int .i32 0, .int .i64 0, .int .i8 0, .int .i32 0, .int .i64 0, .int .i8 0, .int .i8 0, .int .i8 0, .int .i64 9, .int .i64 0, .int .i64 0, .int .i64 0, .int .i64 0, .int .i64 0, .int .i64 0, .int .i8 0, .int .i8 0, .slice none 0 0, .slice none 0 0, .int .i32 0, .int .i64 0, .int .i8 0, .int .i32 0, .int .i64 0, .int .i8 0, .int .i8 0, .int .i8 0] (by decide) (by decide) (by kernel_rfl) ?_)
  have b1 : Below w.heap.size w (w.alloc (.cells #[.int .i64 9, .int .i64 0, .int .i64 0, .int .i64 0, .int .i64 0, .int .i64 0, .int .i64 0, .int .i8 0, .int .i8 0, .slice none 0 0, .slice none 0 0, .int .i32 0, .int .i64 0, .int .i8 0, .int .i32 0, .int .i64 0, .int .i8 0, .int .i8 0, .int .i8 0, .int .i64 9, .int .i64 0, .int .i64 0, .int .i64 0, .int .i64 0, .int .i64 0, .int .i64 0, .int .i8 0, .int .i8 0, .slice none 0 0, .slice none 0 0, .int .i32 0, .int .i64 0, .int .i8 0, .int .i32 0, .int .i64 0, .int .i8 0, .int .i8 0, .int .i8 0] 53)) := (Below.refl _ _).alloc (Nat.le_refl _) _
  refine (last_any _ _ _ [flatN, flatN] _ (Sl.of_block (heap_now _ _ _ rfl) (show blo _ _ by simp [blo]) (Nat.le_refl _) (by unfold maxLen; decide) rfl ((RowsOf.one (flatN_rep _ _)).snoc (us := [.int .i64 9, .int .i64 0, .int .i64 0, .int .i64 0, .int .i64 0, .int .i64 0, .int .i64 0, .int .i8 0, .int .i8 0, .slice none 0 0, .slice none 0 0, .int .i32 0, .int .i64 0, .int .i8 0, .int .i32 0, .int .i64 0, .int .i8 0, .int .i8 0, .int .i8 0]) (flatN_rep _ _))) (by decide)).mono ?_
  rintro e w2 ⟨A, n, cap, rfl, hs, hb⟩
  rw [show lastsV [flatN, flatN] = [2, 0, 3] by decide] at hs
  have FR := Lib.hid (below_later hb b1)
  have HS := Lib.hid hs
  clear hs hb b1
  go_wp2_with fail
  refine (samei_eq _ _ _ _ _ _ [2, 0, 3] _ (HS.out.old.fut ((Below.refl _ _).alloc (Nat.le_refl _) _)) (Sl.lit [2, 0, 3] (heap_now _ _ _ rfl) rfl (by intro x hx; simp at hx; rcases hx with rfl | rfl | rfl <;> decide) (show blo _ _ by simp [blo]) rfl rfl (by simp [maxLen]))).mono ?_
  rintro e w3 ⟨rfl, hb⟩
  have G := Lib.hid (below_later hb (FR.out.alloc FR.out.size _))
  clear hb HS
  go_wp2_with fail
  go_ret
  exact ⟨rfl, G.out⟩

theorem rangeAt_ext {w0 : World} {b off : Nat} {cs : List Value} (h : w0.rangeAt b off cs) (x : Ext w0) : x.1.rangeAt b off cs := fun j v hv => ext_cell (h j v hv) x

set_option maxHeartbeats 16000000 in
theorem gshapes_any (A : Option Addr) (n cap : Nat) (l : List Node) (h v c : Int) (w : World) (hs : Sl tNode w (blo w.heap.size) A n cap l) (i0 : InK .i64 h) (i1 : InK .i64 v) (i2 : InK .i64 c) :
    Calls Try.prog 3 #[.slice A n cap, .agg #[.int .i64 h, .int .i64 v, .int .i64 c]] w fun e w' => e = .returned (.bool true) ∧ Below w.heap.size w w' := by
  have FR := Lib.hid (Far.refl w)
  obtain ⟨w1, hw_w1⟩ : ∃ nw_, w.alloc (.cells #[.int .i64 h, .int .i64 v, .int .i64 c] 24) = nw_ := ⟨_, rfl⟩
  have k_w1 : Below w.heap.size w w1 := by rw [← hw_w1]; exact (Below.refl _ _).alloc (Nat.le_refl _) _
  replace FR := Lib.hid (FR.out.fut k_w1)
  have BA := Lib.hid (show Blk w1 w.heap.size 24 #[.int .i64 h, .int .i64 v, .int .i64 c] by rw [← hw_w1]; exact Blk.now _ _ _ _ rfl)
  clear k_w1
  have H := Lib.hid (hs.later FR.out.out (Nat.le_refl _))
  have RS := Lib.hid (fun w' (hb : Below w1.heap.size w1 w') hf => rshapes_any A n cap l h v c w' (H.out.later hb (Nat.le_refl _)) i0 i1 i2 hf)
  have PS := Lib.hid (fun w' (hb : Below w1.heap.size w1 w') hf => shapes_any A n cap l h v c w' (H.out.later hb (Nat.le_refl _)) i0 i1 i2 hf)
  have PL := Lib.hid (fun w' (hb : Below w1.heap.size w1 w') h12 => last_any A n cap l w' (H.out.later hb (Nat.le_refl _)) h12)
  have hn := hs.n_eq
  have hmax : n ≤ 9223372036854775807 := Nat.le_trans hs.cap_le hs.max_le
  have HN := Lib.hid hn
  clear hs hn i0 i1 i2
  go_enter Try.func3, Try.ntmps3
  go_wp2_with fail
  clear hw_w1
  refine (few27_any A n cap l 0 0 0 none 0 0 w1 H.out).mono ?_
  rintro e w2 ⟨b, rfl, hfew, hb⟩
  have F := Lib.hid hfew
  have K2 := Lib.hid hb
  replace FR := Lib.hid (FR.out.fut hb)
  replace BA := Lib.hid (BA.out.fut hb)
  clear hb
  clear hfew
  cases b with
  | false =>
    go_wp2_with fail
    refine (known27_any _).mono ?_
    rintro e w3 ⟨rfl, hb⟩
    replace FR := Lib.hid (FR.out.fut hb)
    clear hb
    go_wp2_with fail
    go_ret
    exact ⟨rfl, FR.out.out⟩
  | true =>
  have FN := Lib.hid (F.out rfl).1
  have h12 : n ≤ 12 := by rw [← HN.out]; exact FN.out.1
  clear F
  go_wp2_with (refine wpList_load_row rfl 24 (.tmp 3) rfl w.heap.size rfl _ _ (0, 0) _ BA.out.heap Try.underlying24 rfl (by kernel_rfl) ?_)
  refine (PS.out _ K2.out FN.out.2).mono ?_
  rintro e w3 ⟨A1, m, c1, rfl, hs1, hb⟩
  have S1 := Lib.hid hs1
  have K3 := Lib.hid (below_later hb K2.out)
  replace FR := Lib.hid (FR.out.fut hb)
  replace BA := Lib.hid (BA.out.fut hb)
  clear hb
  clear hs1 PS K2
  obtain ⟨⟨sl, pl, er⟩, hr⟩ : ∃ r, shapesV l (h, v, c) = r := ⟨_, rfl⟩
  rw [hr] at S1 RS ⊢
  clear hr
  go_wp2_with (refine wpList_load_row rfl 24 (.tmp 3) rfl w.heap.size rfl _ _ (0, 0) _ BA.out.heap Try.underlying24 rfl (by kernel_rfl) ?_)
  refine (RS.out _ K3.out FN.out.2).mono ?_
  rintro e w4 ⟨A2, m2, c2, rfl, hs2, hb⟩
  have S2 := Lib.hid hs2
  have K4 := Lib.hid (below_later hb K3.out)
  have O1 := Lib.hid (S1.out.old.fut hb)
  replace FR := Lib.hid (FR.out.fut hb)
  replace BA := Lib.hid (BA.out.fut hb)
  clear hb
  obtain rfl : m = m2 := S1.out.n_eq.symm.trans hs2.n_eq
  clear hs2 RS K3 S1
  go_wp2_with fail
  refine (PL.out _ K4.out (by rw [← HN.out]; exact FN.out.1)).mono ?_
  rintro e w5 ⟨A3, m3, c3, rfl, hs3, hb⟩
  obtain rfl : m3 = n + 1 := by rw [← hs3.n_eq, lastsV_length, HN.out]
  have S3 := Lib.hid hs3.old
  have T1 := Lib.hid (O1.out.fut hb)
  have T2 := Lib.hid (S2.out.old.fut hb)
  have K5 := Lib.hid (below_later hb K4.out)
  replace FR := Lib.hid (FR.out.fut hb)
  replace BA := Lib.hid (BA.out.fut hb)
  clear hb
  clear hs3 PL K4 S2 O1
  have e1 : (pl != pl) = false := by simp
  have e2 : (er != er) = false := by simp
  have e3 : ((m : Int) != (m : Int)) = false := by simp
  have e4 : ((n : Int) + 1 != (n : Int) + 1) = false := by simp
  have m1 : m ≤ 9223372036854775807 := Nat.le_trans T1.out.cap_le T1.out.max_le
  have m2 : n + 1 ≤ 9223372036854775807 := Nat.le_trans S3.out.cap_le S3.out.max_le
  have H5 := Lib.hid (H.out.later K5.out (Nat.le_refl _))
  clear H K5 BA
  go_wp2_with fail
  clear e1 e2 e3 e4
  go_loopw [12] (fun i wr => ∃ k : Nat, k ≤ m ∧ i = .int .i64 k ∧ Below w5.heap.size w5 wr) (fun i _ => m - (intOf i).toNat)
  case atStart => exact ⟨0, Nat.zero_le _, rfl, Below.refl _ _⟩
  case round =>
    obtain ⟨k, hk, rfl, hb⟩ := hrel
    have HB := Lib.hid hb
    clear hb
    by_cases hlt : k < m
    · have p1 : (k : Int) < (m : Int) := by omega
      obtain ⟨b1, off1, rfl, _, _, _, _, _, _, r1⟩ := (T1.out.below HB.out (fun _ h => h)).shape_at k hlt
      obtain ⟨b2, off2, rfl, _, _, _, _, _, _, r2⟩ := (T2.out.below HB.out (fun _ h => h)).shape_at k hlt
      obtain ⟨⟨x1, y1, z1⟩, hx⟩ : ∃ x, sl.getD k (0, 0, 0) = x := ⟨_, rfl⟩
      rw [hx] at r1 r2
      simp only at r1 r2
      have R1 := Lib.hid (fun x : Ext wr => rangeAt_ext r1 x)
      have R2 := Lib.hid (fun x : Ext wr => rangeAt_ext r2 x)
      have EQ := Lib.hid (fun w => run_eql_st3 (P := Try.prog) (t := 24) (k0 := .i64) (k1 := .i64) (k2 := .i64) w Try.underlying24 (by kernel_rfl) (by decide) ⟨rfl, rfl, rfl⟩ Try.underlying3 Try.underlying3 Try.underlying3 (by kernel_rfl) (by kernel_rfl) (by kernel_rfl) x1 y1 z1 x1 y1 z1)
      have hb3 : ([x1, y1, z1] == [x1, y1, z1]) = true := by simp
      rw [hb3] at EQ
      clear hx r1 r2 hb3
      go_upto_region 11 with fail
      (try simp only [Act.put])
      refine wp_region_ext wr (by kernel_rfl) (by kernel_rfl) (Below.refl _ _) ?_
      go_big_quiet_step (fail)
      go_big_quiet_step (fail)
      go_big_quiet_step (fail)
      refine wpQuiet_load_mid (by kernel_rfl) 24 (.tmp 66) rfl b1 (off1 + k * 3) rfl _ _ (by rintro _ ⟨x, rfl⟩; exact R1.out x) Try.underlying24 rfl (by kernel_rfl) ?_
      simp only [Act.put, List.getElem_toArray, List.getElem_cons_succ, List.getElem_cons_zero, List.setIfInBounds_toArray, List.set_cons_zero, List.set_cons_succ]
      go_big_quiet_step (fail)
      go_big_quiet_step (fail)
      go_big_quiet_step (fail)
      refine wpQuiet_load_mid (by kernel_rfl) 24 (.tmp 70) rfl b2 (off2 + k * 3) rfl _ _ (by rintro _ ⟨x, rfl⟩; exact R2.out x) Try.underlying24 rfl (by kernel_rfl) ?_
      simp only [Act.put, List.getElem_toArray, List.getElem_cons_succ, List.getElem_cons_zero, List.setIfInBounds_toArray, List.set_cons_zero, List.set_cons_succ]
      refine wpQuiet_neq_agg (by kernel_rfl) 24 _ (.tmp 67) (.tmp 71) rfl _ _ rfl rfl (by kernel_rfl) _ EQ.out ?_
      simp only [Act.put, List.getElem_toArray, List.getElem_cons_succ, List.getElem_cons_zero, List.setIfInBounds_toArray, List.set_cons_zero, List.set_cons_succ]
      refine wpQuiet_nil ?_
      rintro _ ⟨⟨w9, hb9⟩, rfl⟩
      have G9 := below_call HB.out hb9 HB.out.size
      go_wp2_with fail
      exact ⟨⟨k + 1, by omega, by go_num, G9⟩, by simp [intOf]; omega⟩
    · obtain rfl : k = m := by omega
      clear hlt hk T1 T2
      have H6 := Lib.hid (H5.out.later HB.out (Nat.le_refl _))
      have S6 := Lib.hid (S3.out.fut HB.out)
      have F6 := Lib.hid (FR.out.fut HB.out)
      clear S3 FR HB H5
      obtain ⟨w6, rfl⟩ : ∃ x, x = wr := ⟨_, rfl⟩
      go_wp2_with fail
      go_loopw [13] (fun i wx => ∃ j : Nat, j ≤ n + 1 ∧ i = .int .i64 j ∧ Below w6.heap.size w6 wx) (fun i _ => n + 1 - (intOf i).toNat)
      case atStart => exact ⟨0, Nat.zero_le _, rfl, Below.refl _ _⟩
      case round =>
        obtain ⟨j, hj, rfl, hb⟩ := hrel
        have HB := Lib.hid hb
        clear hb
        by_cases hlt : j < n + 1
        · have p1 : (j : Int) < (n : Int) + 1 := by omega
          obtain ⟨b3, off3, rfl, _, _, cj, _⟩ := (S6.out.below HB.out (fun _ h => h)).int_at j hlt
          rw [lastsV_get l j (by have := HN.out; omega)] at cj
          have C3 := Lib.hid (fun x : Ext wr => ext_cell cj x)
          have c3' := C3.out
          have RL := Lib.hid (fun x : Ext wr => calls_ext x (rlast_any A n cap l (j : Int) x.1 ((H6.out.later HB.out (Nat.le_refl _)).later x.2 (Nat.le_refl _)) h12))
          obtain ⟨q, hq⟩ : ∃ q, lastV l (j : Int) = q := ⟨_, rfl⟩
          rw [hq] at RL c3'
          have e1 : (q != q) = false := by simp
          clear hq cj C3
          go_upto_region 16 with fail
          (try simp only [Act.put])
          refine wp_region_ext wr (by kernel_rfl) (by kernel_rfl) (Below.refl _ _) ?_
          repeat (go_big_quiet_step ((exact RL.out _)))
          refine wpQuiet_nil ?_
          rintro _ ⟨⟨w9, hb9⟩, rfl⟩
          have G9 := below_call HB.out hb9 HB.out.size
          go_wp2_with fail
          exact ⟨⟨j + 1, by omega, by go_num, G9⟩, by simp [intOf]; omega⟩
        · obtain rfl : j = n + 1 := by omega
          clear hlt hj
          have F7 := Lib.hid (F6.out.fut HB.out)
          go_wp2_with fail
          refine (known27_any _).mono ?_
          rintro e w8 ⟨rfl, hb⟩
          go_wp2_with fail
          go_ret
          exact ⟨rfl, (F7.out.fut hb).out⟩

theorem opens_nodes : Opens Try.prog 22 (tSlice tNode) := opens_slice Try.underlying22 (by kernel_rfl) (by decide) opens_node
theorem gshapes_walk (A : Option Addr) (n cap : Nat) (l : List Node) {W : World} (hs : Sl tNode W (blo W.heap.size) A n cap l) (cs : Array Value) (y : Sh3) (hy : tShape.rep W (blo W.heap.size) cs.toList y) (w : World) (e : W = w) :
    Calls Try.prog 3 #[.slice A n cap, .agg cs] w fun e w' => e = .returned (.bool true) ∧ Below w.heap.size w w' := by
  subst e
  obtain ⟨x, y, z⟩ := y
  obtain ⟨_, _, h0, ⟨rfl, h1⟩, _, _, rfl, ⟨rfl, h2⟩, rfl, h3⟩ := hy
  obtain rfl : cs = #[.int .i64 x, .int .i64 y, .int .i64 z] := by rw [← Array.toArray_toList (xs := cs), h0]; rfl
  exact gshapes_any A n cap l x y z W hs h1 h2 h3
end Go.Proofs.Ytlpejbopdmledaa
