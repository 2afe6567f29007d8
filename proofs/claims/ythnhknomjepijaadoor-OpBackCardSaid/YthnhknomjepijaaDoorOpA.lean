/-
  Bytes in writing (layer 44): op.Hex, value; the document's Hex, digit.
  Conditions: at most 2^40 bytes.
-/
import Derived.Test.YthnhknomjepijaaDoorChecked
import Derived.Test.YthnhknomjepijaaDoorOpP
import Derived.Test.YthnhknomjepijaaDoorOperX
import Derived.Test.YthnhknomjepijaaDoorFut
import Derived.Test.YthnhknomjepijaaDoorOne
import Derived.OrdersHeld
import Derived.Deep.RegionHeld
import Derived.StillTailTactics
import Derived.Deep.DeepCutAuto
import Derived.Deep.CutRange
import Derived.Deep.CutBlock
namespace Go.Proofs.YthnhknomjepijaaDoor
set_option linter.unusedVariables false
set_option linter.unusedSimpArgs false
open Go Go.RowKit Go.ChangeShapes Go.WideShapes
set_option maxRecDepth 100000
set_option maxHeartbeats 4000000

theorem ei_b8 : EI Tryd.prog 22 5 (.int .u8 0) 1 1 := ⟨Tryd.underlying22, by kernel_rfl, rfl, by decide⟩
def digJ (c : Int) : Int := if digI c < 0 then 99 else digI c

theorem opValue_any (c : Int) (w : World) (hc : InK .u8 c) : Calls Tryd.prog 33 #[.int .u8 c] w fun e w' => e = .returned (.int .i64 (digI c)) ∧ w = w' := by
  rw [inK_u8] at hc
  obtain ⟨c0, c9⟩ := hc
  have HD := Lib.hid (show digI c = if 48 ≤ c ∧ c ≤ 57 then c - 48 else if 97 ≤ c ∧ c ≤ 102 then c - 87 else -1 from rfl)
  have g0 : IntKind.i64.wrap c = c := IntWalk.i64_in _ (by omega)
  by_cases h1 : 48 ≤ c ∧ c ≤ 57
  · rw [if_pos h1] at HD
    have g1 : IntKind.i64.wrap (c - 48) = c - 48 := IntWalk.i64_in _ (by omega)
    have t1 : decide (48 ≤ c) = true := by simp; omega
    have t2 : decide (c ≤ 57) = true := by simp; omega
    go_enter Tryd.func33, Tryd.ntmps33
    go_wp2_with fail
    go_ret
    exact ⟨by rw [HD.out]; rfl, by trivial⟩
  rw [if_neg h1] at HD
  by_cases h2 : 97 ≤ c ∧ c ≤ 102
  · rw [if_pos h2] at HD
    have g2 : IntKind.i64.wrap (c - 97) = c - 97 := IntWalk.i64_in _ (by omega)
    have g3 : IntKind.i64.wrap (c - 97 + 10) = c - 87 := (IntWalk.i64_in _ (by omega)).trans (by omega)
    have g4 : IntKind.i64.wrap (c - 87) = c - 87 := IntWalk.i64_in _ (by omega)
    have t1 : decide (48 ≤ c) = true := by simp; omega
    have t2 : decide (c ≤ 57) = false := by simp; omega
    have t3 : decide (97 ≤ c) = true := by simp; omega
    have t4 : decide (c ≤ 102) = true := by simp; omega
    go_enter Tryd.func33, Tryd.ntmps33
    go_wp2_with fail
    go_ret
    exact ⟨by rw [HD.out]; rfl, by trivial⟩
  rw [if_neg h2] at HD
  by_cases h3 : c < 48
  · clear h1 h2
    have t1 : decide (48 ≤ c) = false := by simp; omega
    have t3 : decide (97 ≤ c) = false := by simp; omega
    go_enter Tryd.func33, Tryd.ntmps33
    go_wp2_with fail
    go_ret
    exact ⟨by rw [HD.out]; rfl, by trivial⟩
  by_cases h4 : c < 97
  · clear h2
    have t1 : decide (48 ≤ c) = true := by simp; omega
    have t2 : decide (c ≤ 57) = false := by simp; omega
    have t3 : decide (97 ≤ c) = false := by simp; omega
    go_enter Tryd.func33, Tryd.ntmps33
    go_wp2_with fail
    go_ret
    exact ⟨by rw [HD.out]; rfl, by trivial⟩
  · clear h1
    have t1 : decide (48 ≤ c) = true := by simp; omega
    have t2 : decide (c ≤ 57) = false := by simp; omega
    have t3 : decide (97 ≤ c) = true := by simp; omega
    have t4 : decide (c ≤ 102) = false := by simp; omega
    go_enter Tryd.func33, Tryd.ntmps33
    go_wp2_with fail
    go_ret
    exact ⟨by rw [HD.out]; rfl, by trivial⟩

theorem ropDigit_any (c : Int) (w : World) (hc : InK .u8 c) : Calls Tryd.prog 34 #[.int .u8 c] w fun e w' => e = .returned (.int .i64 (digJ c)) ∧ w = w' := by
  rw [inK_u8] at hc
  obtain ⟨c0, c9⟩ := hc
  have HD := Lib.hid (show digJ c = if 48 ≤ c ∧ c ≤ 57 then c - 48 else if 97 ≤ c ∧ c ≤ 102 then c - 87 else 99 from by unfold digJ digI; split; rw [if_neg (by omega)]; split; rw [if_neg (by omega)]; rfl)
  have g0 : IntKind.i64.wrap c = c := IntWalk.i64_in _ (by omega)
  by_cases h1 : 48 ≤ c ∧ c ≤ 57
  · rw [if_pos h1] at HD
    have g1 : IntKind.i64.wrap (c - 48) = c - 48 := IntWalk.i64_in _ (by omega)
    have t1 : decide (48 ≤ c) = true := by simp; omega
    have t2 : decide (c ≤ 57) = true := by simp; omega
    go_enter Tryd.func34, Tryd.ntmps34
    go_wp2_with fail
    go_ret
    exact ⟨by rw [HD.out]; rfl, by trivial⟩
  rw [if_neg h1] at HD
  by_cases h2 : 97 ≤ c ∧ c ≤ 102
  · rw [if_pos h2] at HD
    have g2 : IntKind.i64.wrap (c - 97) = c - 97 := IntWalk.i64_in _ (by omega)
    have g3 : IntKind.i64.wrap (c - 97 + 10) = c - 87 := (IntWalk.i64_in _ (by omega)).trans (by omega)
    have g4 : IntKind.i64.wrap (c - 87) = c - 87 := IntWalk.i64_in _ (by omega)
    have t1 : decide (48 ≤ c) = true := by simp; omega
    have t2 : decide (c ≤ 57) = false := by simp; omega
    have t3 : decide (97 ≤ c) = true := by simp; omega
    have t4 : decide (c ≤ 102) = true := by simp; omega
    go_enter Tryd.func34, Tryd.ntmps34
    go_wp2_with fail
    go_ret
    exact ⟨by rw [HD.out]; rfl, by trivial⟩
  rw [if_neg h2] at HD
  by_cases h3 : c < 48
  · clear h1 h2
    have t1 : decide (48 ≤ c) = false := by simp; omega
    have t3 : decide (97 ≤ c) = false := by simp; omega
    go_enter Tryd.func34, Tryd.ntmps34
    go_wp2_with fail
    go_ret
    exact ⟨by rw [HD.out]; rfl, by trivial⟩
  by_cases h4 : c < 97
  · clear h2
    have t1 : decide (48 ≤ c) = true := by simp; omega
    have t2 : decide (c ≤ 57) = false := by simp; omega
    have t3 : decide (97 ≤ c) = false := by simp; omega
    go_enter Tryd.func34, Tryd.ntmps34
    go_wp2_with fail
    go_ret
    exact ⟨by rw [HD.out]; rfl, by trivial⟩
  · clear h1
    have t1 : decide (48 ≤ c) = true := by simp; omega
    have t2 : decide (c ≤ 57) = false := by simp; omega
    have t3 : decide (97 ≤ c) = true := by simp; omega
    have t4 : decide (c ≤ 102) = false := by simp; omega
    go_enter Tryd.func34, Tryd.ntmps34
    go_wp2_with fail
    go_ret
    exact ⟨by rw [HD.out]; rfl, by trivial⟩

theorem and15 (x : Int) (h : 0 ≤ x ∧ x ≤ 255) : bits BinOp.and IntKind.u8 x 15 = x % 16 := by
  obtain ⟨k, rfl⟩ : ∃ k : Nat, x = k := ⟨x.toNat, by omega⟩
  have hk : k < 256 := by omega
  clear h
  revert k
  decide
theorem digS_at (x : Int) (h0 : 0 ≤ x) (h1 : x < 16) (h : x.toNat < ({ data := #[48, 49, 50, 51, 52, 53, 54, 55, 56, 57, 97, 98, 99, 100, 101, 102] } : ByteArray).size) : ((({ data := #[48, 49, 50, 51, 52, 53, 54, 55, 56, 57, 97, 98, 99, 100, 101, 102] } : ByteArray)[x.toNat]'h).toNat : Int) = hexC x := by
  obtain ⟨k, rfl⟩ : ∃ k : Nat, x = k := ⟨x.toNat, by omega⟩
  have hk : k < 16 := by omega
  revert h
  simp only [Int.toNat_natCast]
  clear h0 h1
  revert k
  decide
theorem opHex_any (A : Option Addr) (n cap : Nat) (l : List Int) (w : World) (hs : Sl (tInt .u8) w (blo w.heap.size) A n cap l) (hn : n ≤ 1099511627776) :
    Calls Tryd.prog 20 #[.slice A n cap] w fun e w' => e = .returned (.string (strOfNums (hexB l))) ∧ Below w.heap.size w w' := by
  have HN := Lib.hid hs.n_eq
  have HS := Lib.hid (Old.now hs)
  have FR := Lib.hid (Far.refl w)
  have mx : n ≤ 9223372036854775807 := by omega
  have HV := Lib.hid (show hexB l = if l.length = 0 then [45] else hexN l from rfl)
  clear hs
  by_cases c0 : n = 0
  · have t0 : ((n : Int) == 0) = true := by simp [c0]
    rw [HN.out, if_pos c0] at HV
    clear c0
    go_enter Tryd.func20, Tryd.ntmps20
    go_wp2_with fail
    go_ret
    exact ⟨by rw [HV.out]; rfl, FR.out.out⟩
  have t0 : ((n : Int) == 0) = false := by simp [c0]
  rw [HN.out, if_neg c0] at HV
  obtain ⟨n2, hn2⟩ : ∃ k : Nat, 2 * n = k := ⟨_, rfl⟩
  have g1 : IntKind.i64.wrap (2 * (n : Int)) = (n2 : Int) := by rw [← hn2]; exact (IntWalk.i64_in _ (by omega)).trans (by simp)
  have hb2 : n2 ≤ 2199023255552 := by omega
  clear hn2
  go_enter Tryd.func20, Tryd.ntmps20
  go_wp2_with (refine wpList_plain rfl (fun K hK => oper_make0 (t := tInt .u8) (base := w.heap.size) (c := n2) (.const (.int .i64 0)) (.tmp 11) rfl ei_b8 .i64 .i64 rfl rfl (by omega) (by unfold maxLen; omega) (Nat.le_refl _) ?_); intro w1 own1 g1'; refine hK _ _ ?_; have O1 := Lib.hid own1; have F1 := Lib.hid (show Below w.heap.size w w1 from (Below.refl _ _).grown g1' (Nat.le_refl _) (fun k h => by cases h)); clear own1 g1')
  go_loopw [3, 15] (fun u ii wr => ∃ k : Nat, k ≤ n ∧ ii = .int .i64 k ∧ Own (tInt .u8) wr (fun _ => False) w.heap.size 5 u (2 * k) (hexN (l.take k)) ∧ Below w.heap.size w wr) (fun _ ii _ => n - (intOf ii).toNat)
  case atStart => exact ⟨0, Nat.zero_le _, rfl, O1.out, F1.out⟩
  case round =>
    clear O1 F1
    obtain ⟨k, hk, rfl, hown, hb⟩ := hrel
    replace HS := Lib.hid (HS.out.fut hb)
    replace FR := Lib.hid (FR.out.fut hb)
    have ON := Lib.hid hown
    clear hb hown
    by_cases hlt : k < n
    · have p1 : (k : Int) < (n : Int) := by omega
      obtain ⟨bz, oz, rfl, -, -, cx, ix⟩ := HS.out.out.int_at k hlt
      have TS := Lib.hid (take_snoc l k (l.getD k 0) (by rw [List.getD_eq_getElem?_getD, List.getElem?_eq_getElem (by have := HN.out; omega)]; rfl))
      obtain ⟨x, hx⟩ : ∃ x, l.getD k 0 = x := ⟨_, rfl⟩
      rw [hx] at cx ix TS
      have HX := Lib.hid (hexN_snoc (l.take k) x)
      rw [inK_u8] at ix
      have HI := Lib.hid (show ∀ y ∈ [hexC (x / 16), hexC (x % 16)], InK .u8 y by intro y hy; simp only [List.mem_cons, List.not_mem_nil, or_false] at hy; rcases hy with rfl | rfl; exact (hexC_in (v := x / 16) (by omega)).2.2; exact (hexC_in (v := x % 16) (by omega)).2.2)
      have d1 : 0 ≤ x / 16 := by omega
      have d2 : x / 16 < 16 := by omega
      have d3 : 0 ≤ x % 16 := by omega
      have d4 : x % 16 < 16 := by omega
      go_upto_region 7 with fail
      (try simp only [Act.put])
      refine wp_region_held_drew (S := fun w' => Below w.heap.size w w') (by kernel_rfl) ?_ (fun hS => ?_)
      · exact FR.out.out.drew
      refine wpAnyH_take (i := 0) (v := ?_) rfl (by as_aux_lemma => kernel_rfl) (by as_aux_lemma => kernel_rfl) (by as_aux_lemma => kernel_rfl) (fun _ _ _ h => h) (Or.inl ⟨by rfl, ?_⟩) hS ?_
      rotate_left
      · intro w hSw; (try dsimp only at hSw); go_simp; try with_reducible rfl
      try simp only [Act.put, List.getElem_toArray, List.getElem_cons_succ, List.getElem_cons_zero, List.setIfInBounds_toArray, List.set_cons_zero, List.set_cons_succ]
      refine wpAnyH_take (i := 1) (v := ?_) rfl (by as_aux_lemma => kernel_rfl) (by as_aux_lemma => kernel_rfl) (by as_aux_lemma => kernel_rfl) (fun _ _ _ h => h) (Or.inl ⟨by rfl, ?_⟩) hS ?_
      rotate_left
      · intro w hSw; (try dsimp only at hSw); go_simp; try with_reducible rfl
      try simp only [Act.put, List.getElem_toArray, List.getElem_cons_succ, List.getElem_cons_zero, List.setIfInBounds_toArray, List.set_cons_zero, List.set_cons_succ]
      refine wpAnyH_take (i := 2) (v := ?_) rfl (by as_aux_lemma => kernel_rfl) (by as_aux_lemma => kernel_rfl) (by as_aux_lemma => kernel_rfl) (fun _ _ _ h => h) (Or.inl ⟨by rfl, ?_⟩) hS ?_
      rotate_left
      · intro w hSw; (try dsimp only at hSw); go_simp; try with_reducible rfl
      try simp only [Act.put, List.getElem_toArray, List.getElem_cons_succ, List.getElem_cons_zero, List.setIfInBounds_toArray, List.set_cons_zero, List.set_cons_succ]
      refine wpAnyH_take (i := 3) (v := .int .u8 (hexC (x / 16))) rfl (by as_aux_lemma => kernel_rfl) (by as_aux_lemma => kernel_rfl) (by as_aux_lemma => kernel_rfl) (fun _ _ _ h => h) (Or.inl ⟨by rfl, ?_⟩) hS ?_
      · intro w hSw; (try dsimp only at hSw); go_simp; exact digS_at _ d1 d2 _
      try simp only [Act.put, List.getElem_toArray, List.getElem_cons_succ, List.getElem_cons_zero, List.setIfInBounds_toArray, List.set_cons_zero, List.set_cons_succ]
      refine wpAnyH_take (i := 4) (v := ?_) rfl (by as_aux_lemma => kernel_rfl) (by as_aux_lemma => kernel_rfl) (by as_aux_lemma => kernel_rfl) (fun _ _ _ h => h) (Or.inl ⟨by rfl, ?_⟩) hS ?_
      rotate_left
      · intro w hSw; (try dsimp only at hSw); go_simp; try with_reducible rfl
      try simp only [Act.put, List.getElem_toArray, List.getElem_cons_succ, List.getElem_cons_zero, List.setIfInBounds_toArray, List.set_cons_zero, List.set_cons_succ]
      refine wpAnyH_take (i := 5) (v := .int .u8 (x % 16)) rfl (by as_aux_lemma => kernel_rfl) (by as_aux_lemma => kernel_rfl) (by as_aux_lemma => kernel_rfl) (fun _ _ _ h => h) (Or.inl ⟨by rfl, ?_⟩) hS ?_
      · intro w hSw; (try dsimp only at hSw); go_simp; rw [and15 x ix]
      try simp only [Act.put, List.getElem_toArray, List.getElem_cons_succ, List.getElem_cons_zero, List.setIfInBounds_toArray, List.set_cons_zero, List.set_cons_succ]
      refine wpAnyH_take (i := 6) (v := .int .u8 (hexC (x % 16))) rfl (by as_aux_lemma => kernel_rfl) (by as_aux_lemma => kernel_rfl) (by as_aux_lemma => kernel_rfl) (fun _ _ _ h => h) (Or.inl ⟨by rfl, ?_⟩) hS ?_
      · intro w hSw; (try dsimp only at hSw); go_simp; exact digS_at _ d3 d4 _
      try simp only [Act.put, List.getElem_toArray, List.getElem_cons_succ, List.getElem_cons_zero, List.setIfInBounds_toArray, List.set_cons_zero, List.set_cons_succ]
      refine wpAnyH_ready (rs := [7]) (by kernel_rfl) (by simp) ?_
      refine AllReadyH.cons rfl (fun K hK => ?_) AllReadyH.nil
      go_simp
      have hb : Below wr.drew.heap.size wr.drew (wr.drew.alloc (.cells #[.int .u8 (hexC (x / 16)), .int .u8 (hexC (x % 16))] 5)) := (Below.refl _ _).alloc (Nat.le_refl _) _
      refine hK.out _ _ ?_ (fun hS => ?_)
      · exact below_later hb hS
      clear hK K
      try simp only [Act.put, List.getElem_toArray, List.getElem_cons_succ, List.getElem_cons_zero, List.setIfInBounds_toArray, List.set_cons_zero, List.set_cons_succ]
      refine wpAnyH_ready (rs := [8]) (by kernel_rfl) (by simp) ?_
      refine AllReadyH.cons rfl (fun K hK => ?_) AllReadyH.nil
      (rw [if_pos (by rfl)]; have OW := Lib.hid ((ON.out.heap (w' := wr.drew) rfl).below hb (Nat.le_refl _) (fun _ h => h.elim)); refine oper_extend (.tmp 19) (.tmp 26) rfl ei_b8 rfl OW.out rfl (Sl.lit (S := blo (wr.drew.alloc (.cells #[.int .u8 (hexC (x / 16)), .int .u8 (hexC (x % 16))] 5)).heap.size) [hexC (x / 16), hexC (x % 16)] (heap_now _ _ _ rfl) rfl HI.out (by simp [blo]) rfl rfl (by unfold maxLen; simp)) (by unfold maxLen; omega) (by omega) hS.size ?_; intro v1 w2 own1 g1 at1; refine hK.out _ _ (hS.grown g1 hS.size (fun k h => (OW.out.lt k h).1)) (fun hS => ?_))
      clear hK K
      try simp only [Act.put, List.getElem_toArray, List.getElem_cons_succ, List.getElem_cons_zero, List.setIfInBounds_toArray, List.set_cons_zero, List.set_cons_succ]
      refine wpAnyH_take (i := 9) (v := ?_) rfl (by as_aux_lemma => kernel_rfl) (by as_aux_lemma => kernel_rfl) (by as_aux_lemma => kernel_rfl) (fun _ _ _ h => h) (Or.inl ⟨by rfl, ?_⟩) hS ?_
      rotate_left
      · intro w hSw; (try dsimp only at hSw); go_simp; try with_reducible rfl
      try simp only [Act.put, List.getElem_toArray, List.getElem_cons_succ, List.getElem_cons_zero, List.setIfInBounds_toArray, List.set_cons_zero, List.set_cons_succ]
      refine wpAnyH_done (by kernel_rfl) ?_ _
      have F2 := Lib.hid hS
      clear hS hb
      go_wp2_with fail
      exact ⟨⟨k + 1, by omega, by go_num, by rw [TS.out, HX.out]; exact own1, F2.out⟩, by simp [intOf]; omega⟩
    · obtain rfl : k = n := by omega
      have e := HN.out
      rw [List.take_of_length_le (by omega)] at ON
      obtain ⟨A1, c1, rfl, sl⟩ := ON.out.sl (S' := bin w.heap.size wr.heap.size) (by decide) (fun b h1 h2 => ⟨h1, h2⟩) (fun _ h => h.elim)
      obtain ⟨b1, o1, rfl, -, -, -, -⟩ := sl.int_at 0 (by omega)
      have KC : ∀ dst, Tryd.prog.underlying dst = some .string → (convert 22 dst (.slice (some ⟨b1, o1, none⟩) (2 * k) c1)).run Tryd.prog wr = .ok (.string (strOfNums (hexN l))) wr := run_convert_bytes_arg wr 22 5 Tryd.underlying22 Tryd.underlying5 b1 o1 (2 * k) c1 (hexN l) sl.n_eq (fun i hi => by
        obtain ⟨b2, o2, hA, -, -, cz, -⟩ := sl.int_at i hi
        cases hA
        exact cz)
      clear sl
      go_wp2_with fail
      go_ret
      exact ⟨by rw [HV.out]; rfl, FR.out.out⟩
theorem rquo16 (x : Int) (h : 0 ≤ x ∧ x ≤ 255) : x.tdiv 16 = x / 16 ∧ x.tmod 16 = x % 16 ∧ IntKind.u8.wrap (x / 16) = x / 16 ∧ IntKind.u8.wrap (x % 16) = x % 16 := by
  obtain ⟨k, rfl⟩ : ∃ k : Nat, x = k := ⟨x.toNat, by omega⟩
  have hk : k < 256 := by omega
  clear h
  revert k
  decide
theorem ropHex_any (A : Option Addr) (n cap : Nat) (l : List Int) (w : World) (hs : Sl (tInt .u8) w (blo w.heap.size) A n cap l) (hn : n ≤ 1099511627776) :
    Calls Tryd.prog 21 #[.slice A n cap] w fun e w' => e = .returned (.string (strOfNums (hexB l))) ∧ Below w.heap.size w w' := by
  have HN := Lib.hid hs.n_eq
  have HS := Lib.hid (Old.now hs)
  have FR := Lib.hid (Far.refl w)
  have mx : n ≤ 9223372036854775807 := by omega
  have HV := Lib.hid (show hexB l = if l.length = 0 then [45] else hexN l from rfl)
  clear hs
  by_cases c0 : n = 0
  · have t0 : ((n : Int) == 0) = true := by simp [c0]
    rw [HN.out, if_pos c0] at HV
    clear c0
    go_enter Tryd.func21, Tryd.ntmps21
    go_wp2_with fail
    go_ret
    exact ⟨by rw [HV.out]; rfl, FR.out.out⟩
  have t0 : ((n : Int) == 0) = false := by simp [c0]
  rw [HN.out, if_neg c0] at HV
  go_enter Tryd.func21, Tryd.ntmps21
  go_wp2_with fail
  go_loopw [4, 5] (fun u ii wr => ∃ k : Nat, k ≤ n ∧ ii = .int .i64 k ∧ Own (tInt .u8) wr (fun _ => False) w.heap.size 5 u (2 * k) (hexN (l.take k)) ∧ Below w.heap.size w wr) (fun _ ii _ => n - (intOf ii).toNat)
  case atStart => exact ⟨0, Nat.zero_le _, rfl, Own.nil _ _ _ _ _, FR.out.out⟩
  case round =>
    obtain ⟨k, hk, rfl, hown, hb⟩ := hrel
    replace HS := Lib.hid (HS.out.fut hb)
    replace FR := Lib.hid (FR.out.fut hb)
    have ON := Lib.hid hown
    clear hb hown
    by_cases hlt : k < n
    · have p1 : (k : Int) < (n : Int) := by omega
      obtain ⟨bz, oz, rfl, hz, -, cx, ix⟩ := HS.out.out.int_at k hlt
      have TS := Lib.hid (take_snoc l k (l.getD k 0) (by rw [List.getD_eq_getElem?_getD, List.getElem?_eq_getElem (by have := HN.out; omega)]; rfl))
      obtain ⟨x, hx⟩ : ∃ x, l.getD k 0 = x := ⟨_, rfl⟩
      rw [hx] at cx ix TS
      have HX := Lib.hid (hexN_snoc (l.take k) x)
      rw [inK_u8] at ix
      have HI := Lib.hid (show ∀ y ∈ [hexC (x / 16), hexC (x % 16)], InK .u8 y by intro y hy; simp only [List.mem_cons, List.not_mem_nil, or_false] at hy; rcases hy with rfl | rfl; exact (hexC_in (v := x / 16) (by omega)).2.2; exact (hexC_in (v := x % 16) (by omega)).2.2)
      obtain ⟨e1, e2, e3, e4⟩ := rquo16 x ix
      have d1 : 0 ≤ x / 16 := by omega
      have d2 : x / 16 < 16 := by omega
      have d3 : 0 ≤ x % 16 := by omega
      have d4 : x % 16 < 16 := by omega
      have NZ := Lib.hid (show some bz ≠ u4.ownBlock from fun e => absurd (ON.out.lt _ e.symm).1 (Nat.not_le.2 hz))
      go_upto_region 8 with fail
      (try simp only [Act.put])
      refine wp_region_held_drew (S := fun w' => w'.cell? ⟨bz, oz + k, none⟩ = some (.int .u8 x) ∧ Below w.heap.size w w') (by kernel_rfl) ?_ (fun hS => ?_)
      · exact ⟨cx, FR.out.out.drew⟩
      refine wpAnyH_take (i := 0) (v := ?_) rfl (by as_aux_lemma => kernel_rfl) (by as_aux_lemma => kernel_rfl) (by as_aux_lemma => kernel_rfl) (fun _ _ _ h => h) (Or.inl ⟨by rfl, ?_⟩) hS ?_
      rotate_left
      · intro w hSw; (try dsimp only at hSw); go_simp; try with_reducible rfl
      try simp only [Act.put, List.getElem_toArray, List.getElem_cons_succ, List.getElem_cons_zero, List.setIfInBounds_toArray, List.set_cons_zero, List.set_cons_succ]
      refine wpAnyH_take (i := 1) (v := ?_) rfl (by as_aux_lemma => kernel_rfl) (by as_aux_lemma => kernel_rfl) (by as_aux_lemma => kernel_rfl) (fun _ _ _ h => h) (Or.inl ⟨by rfl, ?_⟩) hS ?_
      rotate_left
      · intro w hSw; (try dsimp only at hSw); go_simp; try with_reducible rfl
      try simp only [Act.put, List.getElem_toArray, List.getElem_cons_succ, List.getElem_cons_zero, List.setIfInBounds_toArray, List.set_cons_zero, List.set_cons_succ]
      refine wpAnyH_take (i := 2) (v := ?_) rfl (by as_aux_lemma => kernel_rfl) (by as_aux_lemma => kernel_rfl) (by as_aux_lemma => kernel_rfl) (fun _ _ _ h => h) (Or.inl ⟨by rfl, ?_⟩) hS ?_
      rotate_left
      · intro w hSw; (try dsimp only at hSw); go_simp; try with_reducible rfl
      try simp only [Act.put, List.getElem_toArray, List.getElem_cons_succ, List.getElem_cons_zero, List.setIfInBounds_toArray, List.set_cons_zero, List.set_cons_succ]
      refine wpAnyH_take (i := 3) (v := ?_) rfl (by as_aux_lemma => kernel_rfl) (by as_aux_lemma => kernel_rfl) (by as_aux_lemma => kernel_rfl) (fun _ _ _ h => h) (Or.inl ⟨by rfl, ?_⟩) hS ?_
      rotate_left
      · intro w hSw; (try dsimp only at hSw); go_simp; try with_reducible rfl
      try simp only [Act.put, List.getElem_toArray, List.getElem_cons_succ, List.getElem_cons_zero, List.setIfInBounds_toArray, List.set_cons_zero, List.set_cons_succ]
      refine wpAnyH_take (i := 4) (v := ?_) rfl (by as_aux_lemma => kernel_rfl) (by as_aux_lemma => kernel_rfl) (by as_aux_lemma => kernel_rfl) (fun _ _ _ h => h) (Or.inl ⟨by rfl, ?_⟩) hS ?_
      rotate_left
      · intro w hSw; (try dsimp only at hSw); go_simp; try with_reducible rfl
      try simp only [Act.put, List.getElem_toArray, List.getElem_cons_succ, List.getElem_cons_zero, List.setIfInBounds_toArray, List.set_cons_zero, List.set_cons_succ]
      refine wpAnyH_take (i := 5) (v := ?_) rfl (by as_aux_lemma => kernel_rfl) (by as_aux_lemma => kernel_rfl) (by as_aux_lemma => kernel_rfl) (fun _ _ _ h => h) (Or.inl ⟨by rfl, ?_⟩) hS ?_
      rotate_left
      · intro w hSw; (try dsimp only at hSw); go_simp; try with_reducible rfl
      try simp only [Act.put, List.getElem_toArray, List.getElem_cons_succ, List.getElem_cons_zero, List.setIfInBounds_toArray, List.set_cons_zero, List.set_cons_succ]
      refine wpAnyH_take (i := 6) (v := .int .u8 (x / 16)) rfl (by as_aux_lemma => kernel_rfl) (by as_aux_lemma => kernel_rfl) (by as_aux_lemma => kernel_rfl) (fun _ _ _ h => h) (Or.inl ⟨by rfl, ?_⟩) hS ?_
      · intro w hSw; (try dsimp only at hSw); go_simp; first | done | simp only [e1, e3]
      try simp only [Act.put, List.getElem_toArray, List.getElem_cons_succ, List.getElem_cons_zero, List.setIfInBounds_toArray, List.set_cons_zero, List.set_cons_succ]
      refine wpAnyH_take (i := 7) (v := .int .u8 (hexC (x / 16))) rfl (by as_aux_lemma => kernel_rfl) (by as_aux_lemma => kernel_rfl) (by as_aux_lemma => kernel_rfl) (fun _ _ _ h => h) (Or.inl ⟨by rfl, ?_⟩) hS ?_
      · intro w hSw; (try dsimp only at hSw); go_simp; exact digS_at _ d1 d2 _
      try simp only [Act.put, List.getElem_toArray, List.getElem_cons_succ, List.getElem_cons_zero, List.setIfInBounds_toArray, List.set_cons_zero, List.set_cons_succ]
      refine wpAnyH_take (i := 8) (v := ?_) rfl (by as_aux_lemma => kernel_rfl) (by as_aux_lemma => kernel_rfl) (by as_aux_lemma => kernel_rfl) (fun _ _ _ h => h) (Or.inl ⟨by rfl, ?_⟩) hS ?_
      rotate_left
      · intro w hSw; (try dsimp only at hSw); go_simp; try with_reducible rfl
      try simp only [Act.put, List.getElem_toArray, List.getElem_cons_succ, List.getElem_cons_zero, List.setIfInBounds_toArray, List.set_cons_zero, List.set_cons_succ]
      refine wpAnyH_take (i := 9) (v := ?_) rfl (by as_aux_lemma => kernel_rfl) (by as_aux_lemma => kernel_rfl) (by as_aux_lemma => kernel_rfl) (fun _ _ _ h => h) (Or.inl ⟨by rfl, ?_⟩) hS ?_
      rotate_left
      · intro w hSw; (try dsimp only at hSw); go_simp; try with_reducible rfl
      try simp only [Act.put, List.getElem_toArray, List.getElem_cons_succ, List.getElem_cons_zero, List.setIfInBounds_toArray, List.set_cons_zero, List.set_cons_succ]
      refine wpAnyH_take (i := 10) (v := ?_) rfl (by as_aux_lemma => kernel_rfl) (by as_aux_lemma => kernel_rfl) (by as_aux_lemma => kernel_rfl) (fun _ _ _ h => h) (Or.inl ⟨by rfl, ?_⟩) hS ?_
      rotate_left
      · intro w hSw; (try dsimp only at hSw); go_simp; try with_reducible rfl
      try simp only [Act.put, List.getElem_toArray, List.getElem_cons_succ, List.getElem_cons_zero, List.setIfInBounds_toArray, List.set_cons_zero, List.set_cons_succ]
      refine wpAnyH_take (i := 11) (v := ?_) rfl (by as_aux_lemma => kernel_rfl) (by as_aux_lemma => kernel_rfl) (by as_aux_lemma => kernel_rfl) (fun _ _ _ h => h) (Or.inl ⟨by rfl, ?_⟩) hS ?_
      rotate_left
      · intro w hSw; (try dsimp only at hSw); go_simp; try with_reducible rfl
      try simp only [Act.put, List.getElem_toArray, List.getElem_cons_succ, List.getElem_cons_zero, List.setIfInBounds_toArray, List.set_cons_zero, List.set_cons_succ]
      refine wpAnyH_take (i := 12) (v := ?_) rfl (by as_aux_lemma => kernel_rfl) (by as_aux_lemma => kernel_rfl) (by as_aux_lemma => kernel_rfl) (fun _ _ _ h => h) (Or.inl ⟨by rfl, ?_⟩) hS ?_
      rotate_left
      · intro w hSw; (try dsimp only at hSw); go_simp; try with_reducible rfl
      try simp only [Act.put, List.getElem_toArray, List.getElem_cons_succ, List.getElem_cons_zero, List.setIfInBounds_toArray, List.set_cons_zero, List.set_cons_succ]
      refine wpAnyH_take (i := 13) (v := .int .u8 (x % 16)) rfl (by as_aux_lemma => kernel_rfl) (by as_aux_lemma => kernel_rfl) (by as_aux_lemma => kernel_rfl) (fun _ _ _ h => h) (Or.inl ⟨by rfl, ?_⟩) hS ?_
      · intro w hSw; (try dsimp only at hSw); go_simp; first | done | simp only [e2, e4]
      try simp only [Act.put, List.getElem_toArray, List.getElem_cons_succ, List.getElem_cons_zero, List.setIfInBounds_toArray, List.set_cons_zero, List.set_cons_succ]
      refine wpAnyH_take (i := 14) (v := .int .u8 (hexC (x % 16))) rfl (by as_aux_lemma => kernel_rfl) (by as_aux_lemma => kernel_rfl) (by as_aux_lemma => kernel_rfl) (fun _ _ _ h => h) (Or.inl ⟨by rfl, ?_⟩) hS ?_
      · intro w hSw; (try dsimp only at hSw); go_simp; exact digS_at _ d3 d4 _
      try simp only [Act.put, List.getElem_toArray, List.getElem_cons_succ, List.getElem_cons_zero, List.setIfInBounds_toArray, List.set_cons_zero, List.set_cons_succ]
      refine wpAnyH_ready (rs := [15]) (by kernel_rfl) (by simp) ?_
      refine AllReadyH.cons rfl (fun K hK => ?_) AllReadyH.nil
      go_simp
      have hb : Below wr.drew.heap.size wr.drew (wr.drew.alloc (.cells #[.int .u8 (hexC (x / 16)), .int .u8 (hexC (x % 16))] 5)) := (Below.refl _ _).alloc (Nat.le_refl _) _
      refine hK.out _ _ ?_ (fun hS => ?_)
      · exact ⟨(by first | exact cell_later hb hS.1 | exact Blk.later hS.1 hb), below_later hb hS.2⟩
      clear hK K
      try simp only [Act.put, List.getElem_toArray, List.getElem_cons_succ, List.getElem_cons_zero, List.setIfInBounds_toArray, List.set_cons_zero, List.set_cons_succ]
      refine wpAnyH_ready (rs := [16]) (by kernel_rfl) (by simp) ?_
      refine AllReadyH.cons rfl (fun K hK => ?_) AllReadyH.nil
      (rw [if_pos (by rfl)]; have OW := Lib.hid ((ON.out.heap (w' := wr.drew) rfl).below hb (Nat.le_refl _) (fun _ h => h.elim)); refine oper_extend (.tmp 15) (.tmp 30) rfl ei_b8 rfl OW.out rfl (Sl.lit (S := blo (wr.drew.alloc (.cells #[.int .u8 (hexC (x / 16)), .int .u8 (hexC (x % 16))] 5)).heap.size) [hexC (x / 16), hexC (x % 16)] (heap_now _ _ _ rfl) rfl HI.out (by simp [blo]) rfl rfl (by unfold maxLen; simp)) (by unfold maxLen; omega) (by omega) hS.2.size ?_; intro v1 w2 own1 g1 at1; refine hK.out _ _ ⟨cell_grown g1 hS.1 NZ.out, hS.2.grown g1 hS.2.size (fun k h => (OW.out.lt k h).1)⟩ (fun hS => ?_))
      clear hK K
      try simp only [Act.put, List.getElem_toArray, List.getElem_cons_succ, List.getElem_cons_zero, List.setIfInBounds_toArray, List.set_cons_zero, List.set_cons_succ]
      refine wpAnyH_take (i := 17) (v := ?_) rfl (by as_aux_lemma => kernel_rfl) (by as_aux_lemma => kernel_rfl) (by as_aux_lemma => kernel_rfl) (fun _ _ _ h => h) (Or.inl ⟨by rfl, ?_⟩) hS ?_
      rotate_left
      · intro w hSw; (try dsimp only at hSw); go_simp; try with_reducible rfl
      try simp only [Act.put, List.getElem_toArray, List.getElem_cons_succ, List.getElem_cons_zero, List.setIfInBounds_toArray, List.set_cons_zero, List.set_cons_succ]
      refine wpAnyH_done (by kernel_rfl) ?_ _
      have F2 := Lib.hid hS.2
      clear hS hb cx
      go_wp2_with fail
      exact ⟨⟨k + 1, by omega, by go_num, by rw [TS.out, HX.out]; exact own1, F2.out⟩, by simp [intOf]; omega⟩
    · obtain rfl : k = n := by omega
      have e := HN.out
      rw [List.take_of_length_le (by omega)] at ON
      obtain ⟨A1, c1, rfl, sl⟩ := ON.out.sl (S' := bin w.heap.size wr.heap.size) (by decide) (fun b h1 h2 => ⟨h1, h2⟩) (fun _ h => h.elim)
      obtain ⟨b1, o1, rfl, -, -, -, -⟩ := sl.int_at 0 (by omega)
      have KC : ∀ dst, Tryd.prog.underlying dst = some .string → (convert 22 dst (.slice (some ⟨b1, o1, none⟩) (2 * k) c1)).run Tryd.prog wr = .ok (.string (strOfNums (hexN l))) wr := run_convert_bytes_arg wr 22 5 Tryd.underlying22 Tryd.underlying5 b1 o1 (2 * k) c1 (hexN l) sl.n_eq (fun i hi => by
        obtain ⟨b2, o2, hA, -, -, cz, -⟩ := sl.int_at i hi
        cases hA
        exact cz)
      clear sl
      go_wp2_with fail
      go_ret
      exact ⟨by rw [HV.out]; rfl, FR.out.out⟩
end Go.Proofs.YthnhknomjepijaaDoor
