/-
  A row but for a number (ring, layer 41): slices.Clone and slices.DeleteFunc at []int.
  Conditions: at most 2^40 numbers.
-/
import Derived.Test.YtlbijkafcododaaChecked
import Derived.Test.YtlbijkafcododaaRingV
import Derived.Shelf.SlGeneric
import Derived.Shelf.SlicesE.DeleteFunc
import Derived.Ground.SlgfProg
namespace Go.Proofs
open Go.Shelf
def Try.lDel_ren : Go.Shelf.Ren := ⟨fun | 10 => 127 | 6 => 163 | n => n, fun | 22 => 29 | 23 => 3 | 25 => 34 | 3 => 3 | 4 => 4 | 0 => 0 | n => n, fun | n => n⟩
theorem Try.lDel : Go.Proofs.SlLaysH.n10 Try.prog Try.lDel_ren := {
  mixed := by kernel_rfl
  f6 := ⟨Try.f163.name, by decide, Try.func163.trans (congrArg some (by kernel_rfl))⟩
  f10 := ⟨Try.f127.name, by decide, Try.func127.trans (congrArg some (by kernel_rfl))⟩
  t0 := Try.underlying0
  a0 := Try.isAgg0
  z0 := Try.sizeOf0
  v0 := Try.zeroValue0
  t3 := Try.underlying3
  a3 := Try.isAgg3
  z3 := Try.sizeOf3
  v3 := Try.zeroValue3
  t4 := Try.underlying4
  a4 := Try.isAgg4
  z4 := Try.sizeOf4
  v4 := Try.zeroValue4
  t22 := Try.underlying29
  a22 := Try.isAgg29
  z22 := Try.sizeOf29
  v22 := Try.zeroValue29
  a23 := Try.isAgg3
  z23 := Try.sizeOf3
  t25 := Try.underlying34
  a25 := Try.isAgg34
  z25 := Try.sizeOf34
  v25 := Try.zeroValue34 }
end Go.Proofs
namespace Go.Proofs.Ytlbijkafcododaa
set_option linter.unusedVariables false
set_option linter.unusedSimpArgs false
open Go.RowKit Go.ChangeShapes Go.WideShapes Go.Shelf Go.Lib Go.Sort
set_option maxRecDepth 100000

theorem gives_eq (y x : Int) (B : Nat) (W : World) (hc : W.cell? ⟨B, 0, none⟩ = some (.int .i64 y)) :
    FnGives Try.prog 128 #[.pointer (some ⟨B, 0, none⟩)] #[.int .i64 x] (.bool (x == y)) W := by
  show Calls Try.prog 128 #[.int .i64 x, .pointer (some ⟨B, 0, none⟩)] W _
  go_enter Try.func128, Try.ntmps128
  go_wp2_with fail
  go_ret
  exact ⟨rfl, 0, rfl⟩

theorem cloneInt_any (A : Option Addr) (n c : Nat) (l : List Int) (w : World) (h : Sl (tInt .i64) w (blo w.heap.size) A n c l) (hn : n ≤ 1099511627776) :
    Calls Try.prog 87 #[.slice A n c] w fun e w' => ∃ v, e = .returned v ∧ Own (tInt .i64) w' (fun _ => False) w.heap.size 3 v n l ∧ Below w.heap.size w w' := by
  cases A with
  | none =>
    have hc := h.nil_ rfl
    have hm := h.cap_le
    obtain rfl : c = 0 := hc
    obtain rfl : n = 0 := by omega
    obtain rfl : l = [] := List.length_eq_zero_iff.1 h.n_eq
    clear h
    have q0 := fun w => Lib.run_eql_slice_nil (P := Try.prog) w 29 3 none 0 0 0 0 Try.underlying29
    simp only [Option.isNone_none] at q0
    go_enter Try.func87, Try.ntmps87
    go_wp2_with fail
    go_ret
    exact ⟨_, rfl, Own.nil _ _ _ _ _, Below.refl _ _⟩
  | some ad =>
    have H := Lib.hid h
    clear h
    have q0 := fun w => Lib.run_eql_slice_nil (P := Try.prog) w 29 3 (some ad) n c 0 0 Try.underlying29
    simp only [Option.isNone_some] at q0
    go_enter Try.func87, Try.ntmps87
    have o0 := Own.fresh (k := .i64) (W := w) (E := 3) (base := w.heap.size) (Nat.le_refl _)
    have k0 : Below w.heap.size w (w.alloc (.cells #[] 3)) := (Below.refl _ _).alloc (Nat.le_refl _) _
    have s0 := H.out.later k0 (Nat.le_refl _)
    go_wp2_with (at_builtin; refine wpList_extend rfl _ _ rfl ei_int rfl o0 rfl s0 (by unfold maxLen; omega) (by omega) k0.size ?_; intro v' w' o' g' a')
    go_ret
    rw [Nat.zero_add, List.nil_append] at o'
    exact ⟨_, rfl, o', k0.grown g' k0.size (fun k h => (o0.lt k h).1)⟩

theorem heap_putRow_far (enc : Int → Value) (w : World) (blk off : Nat) (d : Array Int) (k : Nat) (h : k ≠ blk) : (putRow enc w blk off d).heap[k]? = w.heap[k]? := by
  simp only [putRow, mapBlock, Array.getElem?_modify]
  rw [if_neg (fun e => h e.symm)]

theorem delete_any (y : Int) (v : Value) (n B base : Nat) (l : List Int) (w0 w : World) (h : Own (tInt .i64) w (fun _ => False) base 3 v n l) (hB : B < w.heap.size) (hne : v.ownBlock ≠ some B)
    (hc : w.cell? ⟨B, 0, none⟩ = some (.int .i64 y)) (hb : Below base w0 w) :
    Calls Try.prog 127 #[v, .func (.func 128) #[] #[.pointer (some ⟨B, 0, none⟩)]] w fun e w' =>
      ∃ A m c, e = .returned (.slice A m c) ∧ Sl (tInt .i64) w' (bin base w'.heap.size) A m c (without l y) ∧ Below base w0 w' := by
  have hlen := h.length (by decide)
  obtain ⟨vs, h1, h2⟩ := h.out
  obtain ⟨rfl, hI⟩ := h2.ints_iff
  rcases id h1.2 with ⟨rfl, rfl⟩ | ⟨g, cap, cur, rfl, hg, hh, k1, k2, k3, k4⟩
  · obtain rfl : l = [] := List.length_eq_zero_iff.1 hlen
    clear h h1 h2 hI hlen hne
    have HB := Lib.hid hb
    clear hb
    have hIF := AnyE.slices_IndexFunc_empty (P := Try.prog) (ρ := Try.lDel_ren) { Try.lDel with } none 0 (.func (.func 128) #[] #[.pointer (some ⟨B, 0, none⟩)]) w
    change Calls Try.prog 163 _ _ _ at hIF
    go_enter Try.func127, Try.ntmps127
    go_wp2_with fail
    refine hIF.mono ?_
    rintro e w1 ⟨rfl, rfl⟩
    go_wp2_with fail
    go_ret
    exact ⟨none, 0, 0, rfl, Sl.nil _ _ _, HB.out⟩
  · subst hlen
    have eg : ∀ args w, (callFunc 128 args).run Try.prog w = .ok (.enter 128 args) w := enters_of Try.func128 (by kernel_rfl) rfl
    have hgB : B ≠ g := by rintro rfl; exact hne rfl
    have hH : Holds (Value.int .i64) w g 0 l.toArray := by
      intro j hj
      have hj' : j < l.length := by simpa using hj
      refine ⟨?_, by simp [World.frozen?, hh]⟩
      rw [Nat.zero_add, h1.cellAt j (by simpa [tInt] using hj'), List.getElem?_map, List.getElem?_eq_getElem hj', getElem!_pos _ j hj]
      simp
    have hs : l.toArray.size = l.length := rfl
    have hcon := AnyE.slices_DeleteFunc Try.lDel (Value.int .i64) (fun _ => rfl) (fun x => x == y) 128 #[.pointer (some ⟨B, 0, none⟩)] eg 0 Try.zeroValue3 g 0 cap l.toArray w
      (fun W x hb => gives_eq y x B W ((hb.cell (p := ⟨B, 0, none⟩) hB).trans hc))
      (fun n os dk x _ => gives_eq y x B _ (by
        unfold sortWorld
        rw [cell?_grow _ _ _ (by show B < (putRow _ _ _ _ _).heap.size; rw [size_putRow]; exact hB), cell?_putRow_other _ _ g 0 _ _ (Or.inl hgB)]
        exact hc))
      hH (by unfold maxLen at k2; omega) k1
    change Calls Try.prog 127 _ _ _ at hcon
    refine hcon.mono ?_
    rintro e w' ⟨rfl, q, rfl⟩
    have hf : (l.toArray.toList.filter fun x => !(x == y)) = without l y := rfl
    rw [hf]
    have hle : (without l y).length ≤ l.length := List.length_filter_le _ _
    have hsz : (without l y ++ List.replicate (l.toArray.size - (without l y).length) (0 : Int)).toArray.size = l.toArray.size := by simp; omega
    refine ⟨_, _, _, rfl, ⟨rfl, Nat.le_trans hle k1, k2, (fun e => by cases e), ?_⟩, ⟨hb.os, hb.tape, hb.output, by simpa using hb.size, fun k hk => ?_⟩⟩
    · intro i x hx
      have hi : i < (without l y).length := (List.getElem?_eq_some_iff.1 hx).1
      have hin : InK .i64 x := hI x (List.mem_filter.1 (List.mem_of_getElem? hx)).1
      refine ⟨⟨g, 0, none⟩, [.int .i64 x], rfl, ⟨hg, by simpa using (Array.getElem?_eq_some_iff.1 hh).1⟩, ⟨rfl, hin⟩, ?_⟩
      intro j u hu
      have hj : j = 0 := by have := (List.getElem?_eq_some_iff.1 hu).1; simp at this; exact this
      subst hj
      have := cell?_putRow (Value.int .i64) (Sort.ahead w q) g 0 l.toArray _ (holds_ahead _ w q g 0 _ hH) hsz i (by rw [hsz]; show i < l.length; omega)
      have hadd : (⟨g, 0, none⟩ : Addr).add (i * (tInt .i64).size + 0) = ⟨g, 0 + i, none⟩ := by rw [Nat.zero_add]; simp [Addr.add, tInt]; intro h; exact h.symm
      rw [hadd, this]
      rw [getElem!_pos _ i (by rw [hsz]; show i < l.length; omega)]
      simp only [List.getElem_toArray]
      rw [List.getElem_append_left hi, (List.getElem?_eq_some_iff.1 hx).2]
      simpa using hu
    · rw [heap_putRow_far _ _ _ _ _ k (by omega)]
      exact hb.block k hk

theorem ringWithout_any (A : Option Addr) (n c : Nat) (l : List Int) (y : Int) (w : World) (h : Sl (tInt .i64) w (blo w.heap.size) A n c l) (hn : n ≤ 1099511627776) :
    Calls Try.prog 82 #[.slice A n c, .int .i64 y] w (RetSl (tInt .i64) w (without l y)) := by
  have H := Lib.hid h
  clear h
  go_enter Try.func82, Try.ntmps82
  go_wp2_with fail
  have k0 : Below w.heap.size w (w.alloc (.cells #[.int .i64 y] 3)) := (Below.refl _ _).alloc (Nat.le_refl _) _
  refine (cloneInt_any A n c l _ (H.out.later k0 (Nat.le_refl _)) hn).mono ?_
  rintro e w1 ⟨v, rfl, o1, b1⟩
  have k1 := below_call k0 b1 k0.size
  have c1 : w1.cell? ⟨w.heap.size, 0, none⟩ = some (.int .i64 y) := (b1.cell (by simp)).trans (by simp)
  have z1 := b1.size
  have ne1 : v.ownBlock ≠ some w.heap.size := fun e => by have := (o1.lt _ e).1; simp at this; omega
  have lt1 : w.heap.size < w1.heap.size := by simp at z1; omega
  have O1 := Lib.hid (show Own (tInt .i64) w1 (fun _ => False) w.heap.size 3 v n l by
    obtain ⟨vs, h1, h2⟩ := o1.out
    refine ⟨vs, ⟨h1.1, ?_⟩, h2⟩
    rcases h1.2 with h | ⟨g, cap, cur, a, b, rest⟩
    · exact .inl h
    · exact .inr ⟨g, cap, cur, a, by simp at b; omega, rest⟩)
  have K1 := Lib.hid k1
  have C1 := Lib.hid c1
  have N1 := Lib.hid ne1
  clear o1 b1 k1 c1 ne1 k0 z1
  go_wp2_with fail
  refine (delete_any y v n w.heap.size w.heap.size l w w1 O1.out lt1 N1.out C1.out K1.out).mono ?_
  rintro e w2 ⟨B, q, r, rfl, hs, hb⟩
  have HS := Lib.hid hs
  have HB := Lib.hid hb
  clear hs hb
  go_wp2_with fail
  go_ret
  exact ⟨B, q, r, rfl, HS.out, HB.out⟩
end Go.Proofs.Ytlbijkafcododaa
