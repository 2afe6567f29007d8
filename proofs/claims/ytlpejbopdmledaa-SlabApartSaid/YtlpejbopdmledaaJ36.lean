/-
  Who takes each value last (layer 27), in numbers.
  Conditions: none.
  The elements of an []int.
  Conditions: none.
  slices.Clone at []int; rows of numbers that are alike (layer 22's Same).
  Conditions: at most 2^40 numbers (Clone).
  Who takes each value last (layer 27): graph.Last, the document's Last; the law's Few and known.
  Conditions: at most 12 nodes.
-/
import Derived.Test.YtlpejbopdmledaaJ35
import Derived.Test.YtlpejbopdmledaaChecked
import Derived.Test.YtlpejbopdmledaaJ01
namespace Go.Proofs.Ytlpejbopdmledaa
set_option linter.unusedVariables false
set_option linter.unusedSimpArgs false
open Go.RowKit Go.ChangeShapes Go.WideShapes

/-- Node number k takes the value v, and all that it takes is there. -/
def takesB (d : Node) (k : Nat) (v : Int) : Bool := thereV d ((k : Int) + 1) && (decide (d.a = v) || decide (secondV d = v))
/-- Who takes the value v last, of the first k nodes. -/
def lastTo (l : List Node) (v : Int) : Nat → Int
  | 0 => 0
  | k + 1 => if takesB (l.getD k noNode) k v then (k : Int) + 1 else lastTo l v k
def lastV (l : List Node) (v : Int) : Int := if v = l.length then (l.length : Int) + 1 else lastTo l v l.length
theorem lastTo_bd (l : List Node) (v : Int) (k : Nat) : 0 ≤ lastTo l v k ∧ lastTo l v k ≤ k := by
  induction k with
  | zero => exact ⟨Int.le_refl _, Int.le_refl _⟩
  | succ k ih =>
    unfold lastTo
    split <;> omega
/-- The program's row behind k nodes. -/
def lastRow (l : List Node) (n k : Nat) : List Int := (List.range (n + 1)).map fun (v : Nat) => lastTo l (v : Int) k
theorem lastRow_length (l : List Node) (n k : Nat) : (lastRow l n k).length = n + 1 := by simp [lastRow]
theorem lastRow_get (l : List Node) (n k v : Nat) (h : v ≤ n) : (lastRow l n k)[v]? = some (lastTo l (v : Int) k) := by
  unfold lastRow
  rw [List.getElem?_map, List.getElem?_range (by omega)]
  rfl
theorem lastRow_skip {l : List Node} {n k : Nat} {d : Node} (hd : l[k]? = some d) (h : thereV d ((k : Int) + 1) = false) : lastRow l n (k + 1) = lastRow l n k := by
  have e : l.getD k noNode = d := by rw [List.getD_eq_getElem?_getD, hd]; rfl
  unfold lastRow
  apply List.map_congr_left
  intro v _
  show (if takesB (l.getD k noNode) k v then _ else _) = _
  rw [e]
  unfold takesB
  rw [h]
  rfl
theorem lastRow_put {l : List Node} {n k : Nat} {d : Node} (hd : l[k]? = some d) (h : thereV d ((k : Int) + 1) = true) (hk : k < n) :
    lastRow l n (k + 1) = ((lastRow l n k).set d.a.toNat ((k : Int) + 1)).set (secondV d).toNat ((k : Int) + 1) := by
  have e : l.getD k noNode = d := by rw [List.getD_eq_getElem?_getD, hd]; rfl
  obtain ⟨b1, b2, b3, b4⟩ := there_bd h
  apply List.ext_getElem?
  intro v
  rw [List.getElem?_set, List.getElem?_set]
  simp only [List.length_set, lastRow_length]
  by_cases hv : v ≤ n
  · rw [lastRow_get _ _ _ _ hv, lastRow_get _ _ _ _ hv]
    have : lastTo l (v : Int) (k + 1) = if takesB d k v then (k : Int) + 1 else lastTo l (v : Int) k := by
      show (if takesB (l.getD k noNode) k v then _ else _) = _
      rw [e]
    rw [this]
    unfold takesB
    rw [h]
    by_cases q1 : (secondV d).toNat = v
    · rw [if_pos q1]
      have : secondV d = (v : Int) := by omega
      simp [this]; omega
    · rw [if_neg q1]
      have n1 : ¬ secondV d = (v : Int) := by omega
      by_cases q2 : d.a.toNat = v
      · rw [if_pos q2]
        have : d.a = (v : Int) := by omega
        simp [this]; omega
      · rw [if_neg q2]
        have n2 : ¬ d.a = (v : Int) := by omega
        simp [n1, n2]
  · rw [List.getElem?_eq_none (by rw [lastRow_length]; omega), List.getElem?_eq_none (by rw [lastRow_length]; omega)]
    by_cases q1 : (secondV d).toNat = v
    · omega
    · rw [if_neg q1]
      by_cases q2 : d.a.toNat = v
      · omega
      · rw [if_neg q2]
end Go.Proofs.Ytlpejbopdmledaa
namespace Go.Proofs.Ytlpejbopdmledaa
open Go.RowKit Go.ChangeShapes Go.WideShapes
theorem ei_int : EI Try.prog 36 3 (.int .i64 0) 1 8 := ⟨Try.underlying36, by kernel_rfl, rfl, by decide⟩
end Go.Proofs.Ytlpejbopdmledaa
namespace Go.Proofs.Ytlpejbopdmledaa
set_option linter.unusedVariables false
set_option linter.unusedSimpArgs false
open Go.RowKit Go.ChangeShapes Go.WideShapes
set_option maxRecDepth 100000

theorem samei_eq (A A' : Option Addr) (n cap n' cap' : Nat) (l : List Int) (w : World) (h : Sl (tInt .i64) w (blo w.heap.size) A n cap l) (h' : Sl (tInt .i64) w (blo w.heap.size) A' n' cap' l) :
    Calls Try.prog 16 #[.slice A n cap, .slice A' n' cap'] w fun e w' => e = .returned (.bool true) ∧ Below w.heap.size w w' := by
  have hm : n ≤ 9223372036854775807 := Nat.le_trans h.cap_le h.max_le
  obtain rfl : n = n' := h.n_eq.symm.trans h'.n_eq
  have H := Lib.hid h
  have H' := Lib.hid h'
  clear h h'
  have d1 : ((n : Int) != (n : Int)) = false := by simp
  go_enter Try.func16, Try.ntmps16
  go_wp2_with fail
  go_loopw [5] (fun i wr => ∃ k : Nat, k ≤ n ∧ i = .int .i64 k ∧ wr.heap = w.heap ∧ Below w.heap.size w wr) (fun i _ => n - (intOf i).toNat)
  case atStart => exact ⟨0, Nat.zero_le _, rfl, rfl, Below.refl _ _⟩
  case round =>
    obtain ⟨k, hk, rfl, hh, hb⟩ := hrel
    by_cases hlt : k < n
    · obtain ⟨b, off, rfl, _, _, c0, i0⟩ := (H.out.below hb (fun _ h => h)).int_at k hlt
      obtain ⟨b', off', rfl, _, _, c1, i1⟩ := (H'.out.below hb (fun _ h => h)).int_at k hlt
      have HH := Lib.hid hh
      clear hh i0 i1
      generalize hx : l.getD k 0 = x at *
      have d3 : (x != x) = false := by simp
      clear hx
      go_wp2_with fail
      go_quiet (fail)
      go_wp2_with fail
      exact ⟨⟨k + 1, by omega, by go_num, HH.out, below_drewN hb _⟩, by simp [intOf]; omega⟩
    · obtain rfl : k = n := by omega
      go_wp2_with fail
      go_ret
      exact ⟨rfl, hb⟩
end Go.Proofs.Ytlpejbopdmledaa
namespace Go.Proofs.Ytlpejbopdmledaa
set_option linter.unusedVariables false
set_option linter.unusedSimpArgs false
open Go.RowKit Go.ChangeShapes Go.WideShapes
set_option maxRecDepth 100000

theorem takes_in {d : Node} {m : Int} (h : thereV d m = true) (j : Nat) (hj : j < (takesV d).length) : 0 ≤ (takesV d).getD j 0 ∧ (takesV d).getD j 0 < m := by
  unfold thereV at h
  simp only [Bool.and_eq_true, Bool.or_eq_true, decide_eq_true_eq] at h
  unfold takesV at *
  by_cases k6 : d.kind = 6
  · rw [if_pos k6] at hj ⊢
    match j, hj with
    | 0, _ => exact h.1
    | 1, _ => exact h.2.elim (fun q => absurd k6 q) id
  · rw [if_neg k6] at hj ⊢
    match j, hj with
    | 0, _ => exact h.1
/-- A number put at some places of a row. -/
def putSome (r : List Int) (t : List Int) (x : Int) : Nat → List Int
  | 0 => r
  | j + 1 => (putSome r t x j).set (t.getD j 0).toNat x
theorem lastRow_takes {l : List Node} {n k : Nat} {d : Node} (hd : l[k]? = some d) (h : thereV d ((k : Int) + 1) = true) (hk : k < n) :
    putSome (lastRow l n k) (takesV d) ((k : Int) + 1) (takesV d).length = lastRow l n (k + 1) := by
  rw [lastRow_put hd h hk]
  unfold takesV secondV
  by_cases k6 : d.kind = 6
  · rw [if_pos k6, if_pos k6]; rfl
  · rw [if_neg k6, if_neg k6, List.set_set]; rfl
/-- Who takes each value last. -/
def lastsV (l : List Node) : List Int := (List.range (l.length + 1)).map fun (v : Nat) => lastV l (v : Int)
theorem lastsV_length (l : List Node) : (lastsV l).length = l.length + 1 := by simp [lastsV]
theorem lastsV_get (l : List Node) (v : Nat) (h : v ≤ l.length) : (lastsV l).getD v 0 = lastV l (v : Int) := by
  unfold lastsV
  rw [List.getD_eq_getElem?_getD, List.getElem?_map, List.getElem?_range (by omega)]
  rfl
theorem lastRow_end (l : List Node) : (lastRow l l.length l.length).set l.length ((l.length : Int) + 1) = lastsV l := by
  apply List.ext_getElem?
  intro v
  rw [List.getElem?_set, lastRow_length]
  by_cases hv : v ≤ l.length
  · unfold lastsV
    rw [List.getElem?_map, List.getElem?_range (by omega), lastRow_get _ _ _ _ hv]
    show _ = some (lastV l (v : Int))
    unfold lastV
    by_cases q : l.length = v
    · rw [if_pos q, if_pos (by omega), if_pos (by omega)]
    · rw [if_neg q, if_neg (by omega)]
  · rw [if_neg (by omega), List.getElem?_eq_none (by rw [lastRow_length]; omega), List.getElem?_eq_none (by rw [lastsV_length]; omega)]
theorem lastRow_zero (l : List Node) (n : Nat) : lastRow l n 0 = List.replicate (n + 1) 0 := by
  apply List.ext_getElem?
  intro v
  by_cases hv : v ≤ n
  · rw [lastRow_get _ _ _ _ hv, List.getElem?_replicate, if_pos (by omega)]; rfl
  · rw [List.getElem?_eq_none (by rw [lastRow_length]; omega), List.getElem?_eq_none (by simp; omega)]

set_option maxHeartbeats 8000000 in
theorem last_any (A : Option Addr) (n cap : Nat) (l : List Node) (w : World) (hs : Sl tNode w (blo w.heap.size) A n cap l) (h12 : n ≤ 12) :
    Calls Try.prog 10 #[.slice A n cap] w (RetSl (tInt .i64) w (lastsV l)) := by
  have hn := hs.n_eq
  have LE := Lib.hid (lastRow_end l)
  rw [hn] at LE
  obtain ⟨r, hr⟩ : ∃ r, lastsV l = r := ⟨_, rfl⟩
  rw [hr] at LE ⊢
  have HN := Lib.hid hn
  have H := Lib.hid hs
  clear hs hr hn
  go_enter Try.func10, Try.ntmps10
  go_wp2_with (at_make; refine wpList_make (t := tInt .i64) (S := fun _ => False) (base := w.heap.size) rfl _ _ rfl ei_int .i64 .i64 _ _ (n + 1) rfl rfl (by simp) (by simp) ?_ ?_ ?_ 0 ⟨rfl, by decide⟩ (fun _ h => h.elim) ?_; rotate_right; intro w1 hown hg)
  rotate_left
  · omega
  · unfold maxLen; omega
  · simp
  have HO := Lib.hid hown
  have B1 := Lib.hid ((Below.refl w.heap.size w).grown hg (Nat.le_refl _) (by simp))
  clear hown hg
  go_loopw [14] (fun i wr => ∃ k : Nat, k ≤ n ∧ i = .int .i64 k ∧ Below w.heap.size w wr ∧
      Own (tInt .i64) wr (fun _ => False) w.heap.size 3 (.slice (some ⟨w.heap.size, 0, none⟩) (n + 1) (n + 1)) (n + 1) (lastRow l n k)) (fun i _ => n - (intOf i).toNat)
  case atStart => exact ⟨0, Nat.zero_le _, rfl, B1.out, by rw [lastRow_zero]; exact HO.out⟩
  case round =>
    obtain ⟨k, hk, rfl, hb, hown⟩ := hrel
    have HB := Lib.hid hb
    have ON := Lib.hid hown
    clear hb hown B1 HO
    by_cases hlt : k < n
    · have p1 : (k : Int) < (n : Int) := by omega
      obtain ⟨d, b0, off, W, nw, cw, B, nb, cb, hd, rfl, _, _, hin, hw8, hw32, hrg⟩ := (H.out.below HB.out (fun _ h => h)).node_at k hlt
      have ia := hin.a
      have ib := hin.b
      have RG := Lib.hid hrg
      have TI := Lib.hid (fun h => takes_in (d := d) (m := (k : Int) + 1) h)
      have TR := Lib.hid (fun w => takes_any d W nw cw B nb cb w ia ib)
      have TH := Lib.hid (fun w => there_any d W nw cw B nb cb ((k : Int) + 1) w ia ib)
      have LS := Lib.hid (fun h => lastRow_skip (l := l) (n := n) hd h)
      have LT := Lib.hid (fun h => lastRow_takes (l := l) (n := n) hd h hlt)
      clear hd hin hw8 hw32 hrg ia ib
      obtain ⟨th, hth⟩ : ∃ x, thereV d ((k : Int) + 1) = x := ⟨_, rfl⟩
      rw [hth] at TI TH LS LT
      clear hth
      go_wp2_with (first
        | (refine wpList_load_mid rfl 53 (.tmp 17) rfl b0 (off + k * 19) rfl _ _ RG.out Try.underlying53 rfl (by kernel_rfl) ?_)
        | (refine wpList_store_all rfl 53 (.tmp 5) (.tmp 18) rfl wr.heap.size #[.int .i64 d.kind, .int .i64 d.a, .int .i64 d.b, .int .i64 d.k, .int .i64 d.s, .int .i64 d.p, .int .i64 d.out, .int .i8 d.za, .int .i8 d.zb, .slice W nw cw, .slice B nb cb, .int .i32 d.qm, .int .i64 d.qs, .int .i8 d.qz, .int .i32 d.rm, .int .i64 d.rs, .int .i8 d.rz, .int .i8 d.lo, .int .i8 d.hi] rfl rfl _ _ (Blk.now _ _ _ _ rfl) rfl (by kernel_rfl) (by simp [Value.oneCell']) ?_; intro w7 B7 g7; have G7 := Lib.hid (show Below wr.heap.size wr w7 from ((Below.refl _ _).alloc (Nat.le_refl _) _).grown g7 (by simp) (fun k h => by have := Option.some.inj h; omega)); have BD := Lib.hid B7; clear B7 g7)
        | (refine wpList_load_row rfl 53 (.tmp 5) rfl wr.heap.size rfl _ _ (0, 0) _ BD.out.heap Try.underlying53 rfl (by kernel_rfl) ?_))
      refine (TH.out _).mono ?_
      rintro e w8 ⟨rfl, hb⟩
      have G8 := Lib.hid (below_later hb (below_later G7.out HB.out))
      have O8 := Lib.hid ((ON.out.below G7.out (Nat.le_refl _) (fun _ h => h.elim)).below hb (Nat.le_refl _) (fun _ h => h.elim))
      replace BD := Lib.hid (BD.out.fut hb)
      clear hb TH ON
      cases th with
      | false =>
        have E := Lib.hid (LS.out rfl)
        clear LS LT TI TR
        go_wp2_with fail
        exact ⟨⟨k + 1, by omega, by go_num, G8.out, by rw [E.out]; exact O8.out⟩, by simp [intOf]; omega⟩
      | true =>
        have E := Lib.hid (LT.out rfl)
        have TJ := Lib.hid (TI.out rfl)
        clear LS LT TI
        obtain ⟨t, ht⟩ : ∃ t, takesV d = t := ⟨_, rfl⟩
        rw [ht] at E TJ TR
        clear ht
        go_wp2_with (refine wpList_load_row rfl 53 (.tmp 5) rfl wr.heap.size rfl _ _ (0, 0) _ BD.out.heap Try.underlying53 rfl (by kernel_rfl) ?_)
        refine (TR.out _).mono ?_
        rintro e w9 ⟨A2, m, c2, rfl, hs2, hb⟩
        have hm := hs2.n_eq
        have HM := Lib.hid hm
        have hm2 := hs2.cap_le
        have hm3 := hs2.max_le
        have hm4 : m ≤ 9223372036854775807 := Nat.le_trans hm2 hm3
        have H2 := Lib.hid hs2
        have G9 := Lib.hid (below_later hb G8.out)
        have O9 := Lib.hid (O8.out.below hb (Nat.le_refl _) (fun _ h => h.elim))
        have z8 := G8.out.size
        have lt8 := (O8.out.lt _ rfl).2
        have z9 := hb.size
        clear hb hs2 hm TR O8 BD hm2 hm3
        rw [HM.out] at E
        go_wp2_with fail
        go_loopw [27] (fun i wx => ∃ j : Nat, j ≤ m ∧ i = .int .i64 j ∧ Below w.heap.size w wx ∧ wx.heap.size = w9.heap.size ∧ Sl (tInt .i64) wx (bin w8.heap.size w9.heap.size) A2 m c2 t ∧
          Own (tInt .i64) wx (fun _ => False) w.heap.size 3 (.slice (some ⟨w.heap.size, 0, none⟩) (n + 1) (n + 1)) (n + 1) (putSome (lastRow l n k) t ((k : Int) + 1) j)) (fun i _ => m - (intOf i).toNat)
        case atStart => exact ⟨0, Nat.zero_le _, rfl, G9.out, rfl, H2.out, O9.out⟩
        case round =>
          obtain ⟨j, hj, rfl, hbx, hsz, hsl, hownx⟩ := hrel
          have HBX := Lib.hid hbx
          have HSL := Lib.hid hsl
          have HOX := Lib.hid hownx
          have HSZ := Lib.hid hsz
          clear hbx hsl hownx hsz
          by_cases hjm : j < m
          · have p2 : (j : Int) < (m : Int) := by omega
            obtain ⟨b2, off2, rfl, _, _, cj, _⟩ := HSL.out.int_at j hjm
            have hv := TJ.out j (by rw [HM.out]; exact hjm)
            obtain ⟨v, hvn⟩ : ∃ v : Nat, t.getD j 0 = (v : Int) := ⟨(t.getD j 0).toNat, by omega⟩
            rw [hvn] at cj hv
            have hvk : v < n + 1 := by omega
            have p3 : (v : Int) < (n : Int) + 1 := by omega
            obtain ⟨x0, u0, _, _, c5, c6, c7, _⟩ := HOX.out.cell rfl v hvk
            have HV := Lib.hid hvn
            clear hvn hv
            go_wp2_with fail
            obtain ⟨o3, g3⟩ := HOX.out.set1 rfl v (.int .i64 ((k : Int) + 1)) ((k : Int) + 1) ⟨rfl, by rw [inK_i64]; omega⟩ (fun _ h => h.elim)
            refine ⟨⟨j + 1, by omega, by go_num, HBX.out.setCell (by simp) _, by simp [HSZ.out], HSL.out.keep fun b hb => ?_, ?_⟩, by simp [intOf]; omega⟩
            · exact Below.heap_setCell _ _ _ _ (by have := hb.1; show b ≠ w.heap.size; omega)
            · show Own _ _ _ _ _ _ _ ((putSome (lastRow l n k) t ((k : Int) + 1) j).set (t.getD j 0).toNat ((k : Int) + 1))
              rw [HV.out]
              exact o3
          · obtain rfl : j = m := by omega
            clear hjm hj
            go_wp2_with fail
            exact ⟨⟨k + 1, by omega, by go_num, HBX.out, by rw [← E.out]; exact HOX.out⟩, by simp [intOf]; omega⟩
    · obtain rfl : k = n := by omega
      obtain ⟨x0, u0, _, _, c5, c6, c7, _⟩ := ON.out.cell rfl k (by omega)
      clear hlt hk
      go_wp2_with fail
      obtain ⟨o3, g3⟩ := ON.out.set1 rfl k (.int .i64 ((k : Int) + 1)) ((k : Int) + 1) ⟨rfl, by rw [inK_i64]; omega⟩ (fun _ h => h.elim)
      go_ret
      rw [LE.out] at o3
      exact o3.ret (by decide) (HB.out.setCell (Nat.le_refl _) _) (fun _ h => h.elim)

end Go.Proofs.Ytlpejbopdmledaa
