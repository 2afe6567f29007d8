/-
  slab.Of (layer 29): a block's plan.
  Conditions: at most 12 nodes of at most 1000 weights and 100 biases.
-/
import Derived.Test.YtlpejbopdmledaaChecked
import Derived.Test.YtlpejbopdmledaaJ39
import Derived.Test.YtlpejbopdmledaaJ40
import Derived.Test.YtlpejbopdmledaaJ43
namespace Go.Proofs.Ytlpejbopdmledaa
set_option linter.unusedVariables false
set_option linter.unusedSimpArgs false
open Go.RowKit Go.ChangeShapes Go.WideShapes Go.Proofs.Ytlpejbopdmledaa.Ar
set_option maxRecDepth 100000

section
variable {P : Program} {fn : Func} {R : Ending → World → Prop} {a : Act} {w : World} {g : Nat} {e ty : TypeId} {cs : Array Value} {fs : Array Field} {p u v : Tmp}
/-- A struct and two numbers are handed back. -/
theorem ret_cell_tmp2 (h : fn.results = #[.cell p ty, .tmp u, .tmp v]) (hb : Blk w g e cs) (hp : a.tmps.getD p undef = .pointer (some ⟨g, 0, none⟩)) (hu : P.underlying ty = some (.struct fs)) (hi : (P.info? ty).map (·.size) = some cs.size) (hd : a.defers = [])
    (hR : R (.returned (.tuple #[.agg cs, a.tmps.getD u undef, a.tmps.getD v undef])) w) : bodyPost P fn R .ret a w := by
  refine bodyPost_ret (v := .tuple #[.agg cs, a.tmps.getD u undef, a.tmps.getD v undef]) ?_ hd hR
  have hp' : a.tmps[p]?.getD undef = .pointer (some ⟨g, 0, none⟩) := by simpa using hp
  simp [results, h, Sem.run_bind, hp', run_asAddr_ptr, run_loadVar_row w g e ty cs (0, 0) (.struct fs) hb.heap hu rfl hi, Result.andThen]
end

theorem arPlace_ok' (A : Option Addr) (n cap : Nat) (A' : Option Addr) (n' cap' : Nat) (sz un : List Int) (w : World) (h : Sl (tInt .i64) w (blo w.heap.size) A n cap sz) (h' : Sl (tInt .i64) w (blo w.heap.size) A' n' cap' un) (c : mayOk sz un) :
    Calls Try.prog 26 #[.slice A n cap, .slice A' n' cap'] w fun e w' => ∃ A c, e = .returned (.tuple #[.slice A n c, .int .i64 (roomTo sz un n), .bool true]) ∧ Sl (tInt .i64) w' (bin w.heap.size w'.heap.size) A n c (atTo sz un n) ∧ Below w.heap.size w w' :=
  (arPlace_any A n cap A' n' cap' sz un w h h').mono fun e w' hr => by unfold RetPlaces at hr; rw [if_pos c] at hr; exact hr

def RetPlan (x : (List Sh3 × List Int × Int) × Int × Int) (w : World) (e : Ending) (w' : World) : Prop :=
  ∃ A m c A2 m2 c2, e = .returned (.tuple #[.agg #[.slice A m c, .slice A2 m2 c2, .int .i64 x.1.2.2], .int .i64 x.2.1, .int .i64 x.2.2]) ∧ Sl tShape w' (bin w.heap.size w'.heap.size) A m c x.1.1 ∧ Sl (tInt .i64) w' (bin w.heap.size w'.heap.size) A2 m2 c2 x.1.2.1 ∧ Below w.heap.size w w'

set_option maxHeartbeats 8000000 in
theorem slabOf_any (A : Option Addr) (n cap : Nat) (l : List Node) (h v c : Int) (w : World) (hs : Sl tNode w (blo w.heap.size) A n cap l) (i0 : InK .i64 h) (i1 : InK .i64 v) (i2 : InK .i64 c) (hf : fewN l) :
    Calls Try.prog 13 #[.slice A n cap, .agg #[.int .i64 h, .int .i64 v, .int .i64 c]] w (RetPlan (planV l (h, v, c)) w) := by
  have hn := hs.n_eq
  obtain ⟨r, hr⟩ : ∃ r, planV l (h, v, c) = r := ⟨_, rfl⟩
  rw [hr]
  unfold planV at hr
  have FR := Lib.hid (Far.refl w)
  obtain ⟨w1, hw_w1⟩ : ∃ nw_, w.alloc (.cells #[.int .i64 h, .int .i64 v, .int .i64 c] 24) = nw_ := ⟨_, rfl⟩
  have k_w1 : Below w.heap.size w w1 := by rw [← hw_w1]; exact (Below.refl _ _).alloc (Nat.le_refl _) _
  replace FR := Lib.hid (FR.out.fut k_w1)
  have BA := Lib.hid (show Blk w1 w.heap.size 24 #[.int .i64 h, .int .i64 v, .int .i64 c] by rw [← hw_w1]; exact Blk.now _ _ _ _ rfl)
  clear k_w1
  obtain ⟨w2, hw_w2⟩ : ∃ nw_, w1.alloc (.cells #[.slice none 0 0, .slice none 0 0, .int .i64 0] 41) = nw_ := ⟨_, rfl⟩
  have k_w2 : Below w1.heap.size w1 w2 := by rw [← hw_w2]; exact (Below.refl _ _).alloc (Nat.le_refl _) _
  replace FR := Lib.hid (FR.out.fut k_w2)
  replace BA := Lib.hid (BA.out.fut k_w2)
  have BP := Lib.hid (show Blk w2 w1.heap.size 41 #[.slice none 0 0, .slice none 0 0, .int .i64 0] by rw [← hw_w2]; exact Blk.now _ _ _ _ rfl)
  clear k_w2
  have H := Lib.hid (hs.later FR.out.out (Nat.le_refl _))
  have PS := Lib.hid (shapes_any A n cap l h v c w2 H.out i0 i1 i2 hf.2)
  have OKS := Lib.hid (fun (sl : List Sh3) (p : Int) (h' : shapesV l (h, v, c) = (sl, p, 0)) => shapesV_ok h')
  obtain ⟨⟨sl, p, er⟩, hsr⟩ : ∃ r, shapesV l (h, v, c) = r := ⟨_, rfl⟩
  rw [hsr] at hr PS OKS
  simp only at hr
  have R := Lib.hid hr.symm
  have HN := Lib.hid hn
  have F := Lib.hid hf
  have l1 : w.heap.size < w1.heap.size := by rw [← hw_w1]; simp
  have l2 : w1.heap.size < w2.heap.size := by rw [← hw_w2]; simp
  clear hr hsr hs hn i0 i1 i2 hf
  go_enter Try.func13, Try.ntmps13
  go_wp2_with (refine wpList_load_row rfl 24 (.tmp 3) rfl w.heap.size rfl _ _ (0, 0) _ BA.out.heap Try.underlying24 rfl (by kernel_rfl) ?_)
  clear hw_w1 hw_w2
  refine PS.out.mono ?_
  rintro e w3 ⟨A1, m, c1, rfl, hs1, hb⟩
  have S1 := Lib.hid hs1
  have z2 := hb.size
  have G3 := Lib.hid (Far.mk hb)
  replace FR := Lib.hid (FR.out.fut hb)
  replace BP := Lib.hid (BP.out.fut hb)
  clear hb
  clear hs1 PS BA
  by_cases he : er = 0
  rotate_left
  · have t1 : (er != 0) = true := by simpa using he
    rw [if_pos he] at R
    clear he OKS
    go_wp2_with (refine wpList_store_all rfl 41 (.tmp 4) (.tmp 25) rfl w1.heap.size #[.slice none 0 0, .slice none 0 0, .int .i64 0] rfl rfl _ _ BP.out rfl (by kernel_rfl) (by simp [Value.oneCell']) ?_; intro w4 BQ gq; have BQ := Lib.hid BQ; have gq := Lib.hid gq)
    have BF := Below.grown FR.out.out gq.out FR.out.size (fun k hk => by have := Option.some.inj hk; omega)
    refine ret_cell_tmp2 rfl BQ.out rfl Try.underlying41 (by kernel_rfl) rfl ?_
    rw [R.out]
    exact ⟨none, 0, 0, none, 0, 0, rfl, Sl.nil _ _ _, Sl.nil _ _ _, BF⟩
  subst he
  have t1 : ((0 : Int) != 0) = false := rfl
  rw [if_neg (by decide)] at R
  have OK := Lib.hid (OKS.out _ _ rfl)
  have hm := S1.out.n_eq
  obtain rfl : m = n + 1 := by rw [← hm, OK.out.len, HN.out]
  have h8 : n ≤ 8 := by rw [← HN.out]; exact OK.out.few
  have HM := Lib.hid hm
  clear OKS hm t1
  have T1 := Lib.hid S1.out.old
  go_wp2_with fail
  go_loopw [10, 30] (fun u i wr => ∃ k : Nat, k ≤ n + 1 ∧ i = .int .i64 k ∧ Own (tInt .i64) wr (fun _ => False) w3.heap.size 3 u k (sizesV (sl.take k)) ∧ Below w3.heap.size w3 wr) (fun _ i _ => n + 1 - (intOf i).toNat)
  case atStart => exact ⟨0, Nat.zero_le _, rfl, by simpa [sizesV] using Own.nil _ _ _ _ _, Below.refl _ _⟩
  case round =>
    obtain ⟨k, hk, rfl, hown, hb⟩ := hrel
    have HB := Lib.hid hb
    have ON := Lib.hid hown
    clear hown hb
    by_cases hlt : k < n + 1
    · have p1 : (k : Int) < (n : Int) + 1 := by omega
      obtain ⟨b1, off1, rfl, _, _, j1, j2, j3, _, r1⟩ := (T1.out.below HB.out (fun _ h => h)).shape_at k hlt
      have hst := sizesV_take sl k (by rw [HM.out]; exact hlt)
      obtain ⟨⟨x1, x2, x3⟩, hx⟩ : ∃ x, sl.getD k (0, 0, 0) = x := ⟨_, rfl⟩
      rw [hx] at r1 j1 j2 j3 hst
      simp only at r1 j1 j2 j3 hst
      have RG := Lib.hid r1
      have ST := Lib.hid hst
      have EL := Lib.hid (fun w => elems_any x1 x3 x2 w j1 j2 j3)
      have eb := elems_range x1 x2 x3
      obtain ⟨y, hy⟩ : ∃ y, elems x1 x2 x3 = y := ⟨_, rfl⟩
      rw [hy] at ST EL eb
      obtain ⟨eb1, eb2⟩ := eb
      have zr := HB.out.size
      clear hx r1 j1 j2 j3 hst hy
      go_wp2_with (first
        | (refine wpList_load_mid rfl 24 (.tmp 32) rfl b1 (off1 + k * 3) rfl _ _ RG.out Try.underlying24 rfl (by kernel_rfl) ?_)
        | (refine wpList_store_all rfl 24 (.tmp 12) (.tmp 33) rfl wr.heap.size #[.int .i64 x1, .int .i64 x2, .int .i64 x3] rfl rfl _ _ (Blk.now _ _ _ _ rfl) rfl (by kernel_rfl) (by simp [Value.oneCell']) ?_; intro w7 B7 g7; have G7 := Lib.hid (show Below wr.heap.size wr w7 from ((Below.refl _ _).alloc (Nat.le_refl _) _).grown g7 (by simp) (fun k h => by have := Option.some.inj h; omega)); have BX := Lib.hid B7; clear B7 g7)
        | (refine wpList_load_row rfl 24 (.tmp 12) rfl wr.heap.size rfl _ _ (0, 0) _ BX.out.heap Try.underlying24 rfl (by kernel_rfl) ?_))
      refine (EL.out _).mono ?_
      rintro e w8 ⟨rfl, hb⟩
      have G8 := Lib.hid (below_later hb (below_later G7.out HB.out))
      have O8 := Lib.hid ((ON.out.below G7.out (Nat.le_refl _) (fun _ h => h.elim)).below hb (Nat.le_refl _) (fun _ h => h.elim))
      have z0 := G8.out.size
      clear hb EL ON
      go_wp2_with (at_builtin; refine wpList_push (t := tInt .i64) rfl (.tmp 34) (.tmp 37) rfl ei_int rfl O8.out 1 rfl y ⟨rfl, by rw [inK_i64]; omega⟩ (by unfold maxLen; omega) (by omega) z0 (fun _ h => h.elim) ?_; intro v' w9 own9 g9 at9)
      have b9 := G8.out.grown g9 z0 (fun j hj => (O8.out.lt j hj).1)
      exact ⟨⟨k + 1, by omega, by go_num, by rw [ST.out]; exact own9, b9⟩, by simp [intOf]; omega⟩
    · obtain rfl : k = n + 1 := by omega
      have hall : sl.take (n + 1) = sl := List.take_of_length_le (by rw [HM.out]; exact Nat.le_refl _)
      rw [hall] at ON
      have zr := HB.out.size
      have H4 := Lib.hid ((H.out.later G3.out.out (Nat.le_refl _)).later HB.out (Nat.le_refl _))
      have F4 := Lib.hid (FR.out.fut HB.out)
      have T4 := Lib.hid ((S1.out.since ⟨(Below.refl _ _)⟩).below HB.out (fun _ h => h.2))
      have P4 := Lib.hid (BP.out.fut HB.out)
      obtain ⟨A9, c9, rfl, s9⟩ := ON.out.sl (S' := bin w3.heap.size wr.heap.size) (by decide) (fun b h1 h2 => ⟨h1, h2⟩) (fun _ h => h.elim)
      have S9 := Lib.hid s9
      clear ON s9 T1 H FR BP hlt hk hall HB
      go_wp2_with fail
      refine (last_any A n cap l wr H4.out (by omega)).mono ?_
      rintro e w5 ⟨A5, m5, c5, rfl, hs5, hb⟩
      obtain rfl : m5 = n + 1 := by rw [← hs5.n_eq, lastsV_length, HN.out]
      have S5 := Lib.hid hs5
      have z5 := hb.size
      have S9 := Lib.hid (S9.out.old.fut hb)
      have T5 := Lib.hid (T4.out.below hb (fun _ h => Nat.lt_of_lt_of_le h.2 zr))
      replace F4 := Lib.hid (F4.out.fut hb)
      replace P4 := Lib.hid (P4.out.fut hb)
      clear hb
      clear hs5 H4 T4
      go_wp2_with fail
      refine (arPlace_ok' A9 (n + 1) c9 A5 (n + 1) c5 (sizesV sl) (lastsV l) w5 S9.out S5.out.old (plan_may OK.out)).mono ?_
      rintro e w6 ⟨A6, c6, rfl, hs6, hb⟩
      have T6 := Lib.hid (T5.out.below hb (fun _ h => Nat.lt_of_lt_of_le h.2 (Nat.le_trans zr z5)))
      have S6 := Lib.hid hs6
      have z6 := hb.size
      replace F4 := Lib.hid (F4.out.fut hb)
      replace P4 := Lib.hid (P4.out.fut hb)
      clear hb
      rw [HN.out] at R
      have RB := Lib.hid (room_bd OK.out)
      rw [HN.out] at RB
      obtain ⟨rm, hrm⟩ : ∃ x, roomTo (sizesV sl) (lastsV l) (n + 1) = x := ⟨_, rfl⟩
      obtain ⟨al, hal⟩ : ∃ x, atTo (sizesV sl) (lastsV l) (n + 1) = x := ⟨_, rfl⟩
      rw [hrm] at R ⊢
      rw [hal] at R S6
      have hp := OK.out.at_
      rw [HN.out] at hp
      have HP := Lib.hid hp
      clear hs6 S9 S5 T5 hrm hal RB hp
      go_wp2_with (refine wpList_store_all rfl 41 (.tmp 4) (.tmp 54) rfl w1.heap.size #[.slice A1 (n + 1) c1, .slice A6 (n + 1) c6, .int .i64 rm] rfl rfl _ _ P4.out rfl (by kernel_rfl) (by simp [Value.oneCell']) ?_; intro w7 BQ gq; have BQ := Lib.hid BQ; have gq := Lib.hid gq)
      have BF := F4.out.out.grown gq.out F4.out.size (fun k hk => by have := Option.some.inj hk; omega)
      refine ret_cell_tmp2 rfl BQ.out rfl Try.underlying41 (by kernel_rfl) rfl ?_
      rw [R.out, HP.out]
      have zq := gq.out.size
      refine ⟨A1, n + 1, c1, A6, n + 1, c6, rfl, ?_, ?_, BF⟩
      · exact (T6.out.keep fun b hb => gq.out.block b (by have := hb.2; omega) (by have := hb.1; simp; omega)).more fun b hb => ⟨by have := hb.1; omega, by have := hb.2; omega⟩
      · exact (S6.out.keep fun b hb => gq.out.block b hb.2 (by have := hb.1; simp; omega)).more fun b hb => ⟨by have := hb.1; omega, by have := hb.2; omega⟩
end Go.Proofs.Ytlpejbopdmledaa
