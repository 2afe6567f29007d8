/-
  The walk of the law StoreStays (layer 42).
  Conditions: rows within the form's reach.
-/
import Derived.Test.YtlhnapjglebacaaChecked
import Derived.Test.YtlhnapjglebacaaStoreAE
import Derived.Test.YtlhnapjglebacaaReach
import Derived.Test.YtlhnapjglebacaaFut
import Derived.Test.YtlhnapjglebacaaQMid
import Derived.Test.YtlhnapjglebacaaLit1
import Derived.Deep.CutBlock
import Derived.Deep.DeepCutAuto
import Derived.Deep.CutRange
namespace Go.Proofs.Ytlhnapjglebacaa
set_option linter.unusedVariables false
set_option linter.unusedSimpArgs false
open Go.RowKit Go.ChangeShapes Go.WideShapes
set_option maxRecDepth 100000
set_option maxHeartbeats 8000000

theorem Own.more {α : Type} {t : Ty α} {w : World} {S S' : Nat → Prop} {base : Nat} {E : TypeId} {v : Value} {n : Nat} {l : List α} (h : Own t w S base E v n l) (hk : ∀ b, S b → S' b) : Own t w S' base E v n l :=
  let ⟨vs, h1, h2⟩ := h.out; ⟨vs, h1, h2.more hk⟩

/-- What is done is of a size within the form's reach. -/
structure DoSmall (o : Do) : Prop where
  input : o.p.input.data.length ≤ 140737488351232
  value : o.p.value.data.length ≤ 140737488351232
  logits : o.a.logits.length ≤ 35184372087808

theorem opensW_point : OpensW Try.prog 101 tPoint (fun p => p.input.data.length ≤ 140737488351232 ∧ p.value.data.length ≤ 140737488351232) :=
  opensW_map _ (opensW_struct Try.underlying101 (by kernel_rfl) (opensFromW_cons rfl opens_i64.w (opensFromW_cons rfl opens_i64.w (opensFromW_cons rfl opens_i64.w (opensFromW_cons rfl opensW_tensor (opensFromW_last rfl opensW_tensor)))))) (fun x h => h.2.2.2)
theorem opensW_answer : OpensW Try.prog 38 tAns (fun a => a.logits.length ≤ 35184372087808) :=
  opensW_map _ (opensW_struct Try.underlying38 (by kernel_rfl) (opensFromW_cons rfl opens_i64.w (opensFromW_cons rfl opens_i64.w (opensFromW_cons rfl opens_i64.w (opensFromW_cons rfl opens_i64.w (opensFromW_cons rfl opens_i64.w (opensFromW_cons rfl opensW_i32s (opensFromW_cons rfl opens_i64.w (opensFromW_cons rfl opens_i64.w (opensFromW_last rfl opens_i64.w)))))))))) (fun x h => h.2.2.2.2.2.1)
theorem opensW_do : OpensW Try.prog 103 tDo DoSmall :=
  opensW_map _ (opensW_struct Try.underlying103 (by kernel_rfl) (opensFromW_cons rfl (opens_int Try.underlying5 (by kernel_rfl)).w (opensFromW_cons rfl opens_i64.w (opensFromW_cons rfl opens_i64.w (opensFromW_cons rfl opensW_point (opensFromW_last rfl opensW_answer)))))) (fun x h => ⟨h.2.2.2.1.1, h.2.2.2.1.2, h.2.2.2.2⟩)
theorem opensW_dos : OpensW Try.prog 95 (tSlice tDo) (fun l => ∀ o ∈ l, DoSmall o) :=
  (opensW_slice Try.underlying95 (by kernel_rfl) (by decide) opensW_do).mono fun l h => h.2

theorem ei_req : EI Try.prog 119 107 (.agg noCells) 23 232 := ⟨Try.underlying119, by kernel_rfl, rfl, by decide⟩

theorem Sl.req_at {w : World} {S : Nat → Prop} {A : Option Addr} {n cap : Nat} {l : List Req} (h : Sl tReq w S A n cap l) (i : Nat) (hi : i < n) :
    ∃ r b off X x xc Y y yc L nl cl, l[i]? = some r ∧ A = some ⟨b, off, none⟩ ∧ S b ∧ b < w.heap.size ∧ ReqSl w S r X x xc Y y yc L nl cl ∧ ∀ j v, (reqCells r X x xc Y y yc L nl cl)[j]? = some v → w.cell? ⟨b, off + i * 23 + j, none⟩ = some v := by
  obtain ⟨r, b, off, xs, hx, hA, hS, hb, hr, hl, hc⟩ := h.cells i hi (by decide)
  obtain ⟨X, x, xc, Y, y, yc, L, nl, cl, rfl, hq, h1, h2, h3⟩ := req_open hr
  rw [tReq_size] at hc
  refine ⟨r, b, off, X, x, xc, Y, y, yc, L, nl, cl, hx, hA, hS, hb, ⟨hq, h1, h2, h3⟩, fun j v hv => ?_⟩
  have := hc j v (by rw [← Array.getElem?_toList] at hv; exact hv)
  rwa [← Nat.add_assoc] at this

/-- The requests that were taken down. -/
def WasAt (w : World) (lo : Nat) (v : Value) (n : Nat) (l : List Req) : Prop :=
  ∃ S : Nat → Prop, Own tReq w S lo 107 v n l ∧ ∀ b, S b → bin lo w.heap.size b ∧ some b ≠ v.ownBlock

theorem stays_any (A : Option Addr) (nt ct : Nat) (ops : List Do) (A' : Option Addr) (nu cu : Nat) (mo : List Do) (w : World) (h : Sl tDo w (blo w.heap.size) A nt ct ops) (h' : Sl tDo w (blo w.heap.size) A' nu cu mo)
    (hs : ∀ o ∈ ops, DoSmall o) (hs' : ∀ o ∈ mo, DoSmall o) :
    Calls Try.prog 12 #[.slice A nt ct, .slice A' nu cu] w fun e w' => e = .returned (.bool true) ∧ Below w.heap.size w w' := by
  have hnt : nt ≤ 9223372036854775807 := Nat.le_trans h.cap_le h.max_le
  have hnu : nu ≤ 9223372036854775807 := Nat.le_trans h'.cap_le h'.max_le
  have H := Lib.hid h
  have H' := Lib.hid h'
  have HS := Lib.hid hs
  have HS' := Lib.hid hs'
  have M30 := Lib.hid (show InK .i64 30 by rw [inK_i64]; decide)
  clear h h' hs hs'
  go_enter Try.func12, Try.ntmps12
  go_wp2_with fail
  refine (storeNew_good 30 w (by decide) (by decide)).mono ?_
  rintro e w1 ⟨rfl, r1, b1⟩
  have R1 := Lib.hid r1
  have B1 := Lib.hid b1
  clear r1 b1
  go_upto_block 0 with fail
  go_cut [7, 8] (fun l i wx => ∃ (rs : List Req) (Q : Option Addr) (c : Nat), l = .slice Q rs.length c ∧ rs.length ≤ 30 ∧ Fine rs ∧ Stated rs ∧ Both wx (w.heap.size + 1) w.heap.size 30 rs Q rs.length c ∧ Below w.heap.size w wx)
  case first =>
    go_wp2_with fail
    go_loopw [7, 8] (fun l i wr => ∃ (k : Nat) (rs : List Req) (Q : Option Addr) (n c : Nat), k ≤ 40 ∧ i = .int .i64 k ∧ l = .slice Q n c ∧ rs.length ≤ 30 ∧ Fine rs ∧ Stated rs ∧ Both wr (w.heap.size + 1) w.heap.size 30 rs Q n c ∧ Below w.heap.size w wr) (fun _ i _ => 60 - (intOf i).toNat)
    case atStart => exact ⟨0, [], none, 0, 0, by omega, rfl, rfl, by simp, Fine.nil, Stated.nil, ⟨R1.out, Sl.nil _ _ _⟩, B1.out⟩
    case round =>
      clear R1 B1
      obtain ⟨k, rs, Q, n, c, hk, rfl, rfl, hrs, hfine, hstated, hboth, hb⟩ := hrel
      have HB := Lib.hid hb
      have HO := Lib.hid hboth
      have HF := Lib.hid hfine
      have HT := Lib.hid hstated
      clear hb hboth hfine hstated
      by_cases hlt : k < nt ∧ k < 40
      · obtain ⟨hl1, hl2⟩ := hlt
        have t1 : decide ((k : Int) < (nt : Int)) = true := by simp; omega
        have t2 : decide ((k : Int) < 40) = true := by simp; omega
        have p1 : (k : Int) < (nt : Int) := by omega
        obtain ⟨o, ob, off, PA, pn, pc, PB, pm, pd, PL, pl, pk, hx, rfl, hdo, hcell⟩ := (H.out.below HB.out (fun _ h => h)).do_at k hl1
        have SM := Lib.hid (HS.out o (List.mem_of_getElem? hx))
        have HD := Lib.hid hdo
        have HC := Lib.hid hcell
        clear hx hdo hcell
        go_wp2_with (refine wpList_load_mid rfl 103 (.tmp 39) rfl ob (off + k * 23) rfl (doCells o PA pn pc PB pm pd PL pl pk).toList _ (fun j v hv => HC.out j v (by rw [← Array.getElem?_toList]; exact hv)) Try.underlying103 rfl (by kernel_rfl) ?_)
        have zb := HB.out.size
        have hoff : ∀ x, blo w.heap.size x → offM wr w.heap.size x := fun x hx => ⟨Nat.lt_of_lt_of_le hx zb, Nat.ne_of_lt hx⟩
        have hfd := HF.out.do_ (m := 30) (o := o) SM.out.input SM.out.value SM.out.logits
        have hsd := doOp_goes rs 30 o HT.out
        obtain ⟨rs', hrs'⟩ : ∃ rs', doOp rs 30 o = rs' := ⟨_, rfl⟩
        refine (do_any (w.heap.size + 1) w.heap.size 30 rs Q n c o PA pn pc PB pm pd PL pl pk wr HO.out ⟨HD.out.ok, HD.out.input.more hoff, HD.out.value.more hoff, HD.out.logits.more hoff⟩ M30.out (by omega) (by have := SM.out.input; have := HD.out.input.n_eq; omega) (by have := SM.out.value; have := HD.out.value.n_eq; omega) (by have := SM.out.logits; have := HD.out.logits.n_eq; omega)).mono ?_
        rintro e w3 ⟨Q', n', c', rfl, hb3, g3⟩
        rw [hrs'] at hb3 hfd hsd
        have hn' := hb3.len
        subst hn'
        have B3 := Lib.hid (HB.out.grown g3 HB.out.size (fun k h => by have := Option.some.inj h; omega))
        have HO3 := Lib.hid hb3
        have HF3 := Lib.hid hfd.1
        have HT3 := Lib.hid hsd.2.1
        have hlen3 : rs'.length ≤ 30 := by have := hsd.2.2 (by omega); omega
        clear hrs' hfd hsd hb3 g3 HB HO HF HT HD HC SM hoff zb hrs t1 t2 p1
        go_wp2_with fail
        exact ⟨⟨k + 1, rs', Q', rs'.length, c', by omega, by go_num, rfl, hlen3, HF3.out, HT3.out, HO3.out, B3.out⟩, by simp [intOf]; omega⟩
      · have u0 : nt ≤ k ∨ 40 ≤ k := by omega
        have hn := HO.out.len
        subst hn
        clear hlt hk HS
        go_wp2_with fail
        all_goals (try (exfalso; omega))
        all_goals go_meet
        all_goals (case rel => exact ⟨rs, Q, c, rfl, hrs, HF.out, HT.out, HO.out, HB.out⟩)
  case rest =>
    obtain ⟨rs, Q, c, rfl, hrs, hfine, hstated, hboth, hb⟩ := hcut
    have HF := Lib.hid hfine
    have HT := Lib.hid hstated
    have HO := Lib.hid hboth
    have G2 := Lib.hid (Far.mk hb)
    have hz1 : w.heap.size < wc.heap.size := by
      obtain ⟨D0, vs0, hin0⟩ := hboth.store.out
      exact hin0.own.lt
    obtain ⟨w2, rfl⟩ : ∃ x, x = wc := ⟨_, rfl⟩
    clear hb hboth hfine hstated R1 B1 HS H
    go_wp2_with fail
    go_loopw [9, 10] (fun v i wx => ∃ j : Nat, j ≤ rs.length ∧ i = .int .i64 ((j : Int) + 1) ∧ WasAt wx w2.heap.size v j (rs.take j) ∧ Below w2.heap.size w2 wx) (fun _ i _ => 100 - (intOf i).toNat)
    case atStart => exact ⟨0, Nat.zero_le _, by rfl, ⟨fun _ => False, by simpa using Own.nil _ _ _ _ _, fun _ h => h.elim⟩, Below.refl _ _⟩
    case round =>
      obtain ⟨j, hj, rfl, ⟨S, hown, hSb⟩, hb⟩ := hrel
      have HB := Lib.hid hb
      have ON := Lib.hid hown
      have SB := Lib.hid hSb
      clear hb hown hSb
      by_cases hjl : j < rs.length
      · have hri : rs[j]? = some rs[j] := List.getElem?_eq_getElem hjl
        obtain ⟨r0, hr0⟩ : ∃ r, rs[j] = r := ⟨_, rfl⟩
        rw [hr0] at hri
        have ho : reqOf rs ((j : Int) + 1) = some r0 := by rw [reqOf_nth, hri]
        have htk := Lib.hid (take_snoc rs j r0 hri)
        have hsm : ∀ r, reqOf rs ((j : Int) + 1) = some r → Small r := fun r hr => by
          obtain ⟨i, _, hi, hri⟩ := reqOf_some hr
          exact HF.out.small i r hri
        have HSM := Lib.hid hsm
        have HO_ := Lib.hid ho
        clear hr0 hri ho hsm
        have u1 : decide ((j : Int) + 1 ≤ (rs.length : Int)) = true := by simp; omega
        go_wp2_with fail
        refine (storeLen_any _ _ 30 rs wr (HO.out.later HB.out).store).mono ?_
        rintro e w4 ⟨rfl, b4⟩
        have B4 := Lib.hid (below_later b4 HB.out)
        have on4 := Lib.hid (ON.out.below b4 (Nat.le_refl _) (fun x hx => (SB.out x hx).1.2))
        have z4 := b4.size
        clear b4
        go_wp2_with fail
        refine (storeGet_any _ _ 30 rs ((j : Int) + 1) w4 (HO.out.later B4.out).store (by rw [inK_i64]; omega) HSM.out).mono ?_
        rintro e w6 ⟨r, X, xn, xc, Y, y, yc, L, nl, cl, rfl, hr, hq, b6⟩
        rw [HO_.out] at hr ⊢
        obtain rfl : r = r0 := hr
        have HQ := Lib.hid hq
        have on6 := Lib.hid (on4.out.below b6 (Nat.le_refl _) (fun x hx => Nat.lt_of_lt_of_le (SB.out x hx).1.2 z4))
        have B6 := Lib.hid (below_later b6 B4.out)
        have z6 := b6.size
        clear HO_ HSM b6 hq u1
        have lt4 := fun k (hk : u9.ownBlock = some k) => (on4.out.lt k hk)
        have LT4 := Lib.hid lt4
        clear lt4
        go_wp2_with (first
          | (refine wpList_store_all rfl 107 (.tmp 11) (.tmp 54) rfl w6.heap.size (reqCells r X xn xc Y y yc L nl cl) rfl rfl _ _ (Blk.now _ _ _ _ rfl) rfl (by kernel_rfl) (by simp [Value.oneCell', reqCells]) ?_; intro w7 B7 g7; have G67 := Lib.hid (show Below w6.heap.size w6 w7 from ((Below.refl _ _).alloc (Nat.le_refl _) _).grown g7 (by simp) (fun k h => by have := Option.some.inj h; omega)); have BX := Lib.hid B7; clear B7 g7)
          | (refine wpList_load_row rfl 107 (.tmp 11) rfl w6.heap.size rfl _ _ (0, 0) _ BX.out.heap Try.underlying107 rfl (by kernel_rfl) ?_)
          | (refine wpList_lit1 rfl (.tmp 57) rfl ei_req (reqCells r X xn xc Y y yc L nl cl) rfl rfl (by decide) ?_)
          | (at_builtin; refine wpList_push (W := w7) (cs := reqCells r X xn xc Y y yc L nl cl) (E := 107) (t := tReq) (S := fun x => bin w2.heap.size w7.heap.size x ∧ some x ≠ u9.ownBlock) (base := w2.heap.size) rfl (.tmp 56) (.tmp 58) rfl ei_req (v := u9) rfl ((on6.out.below G67.out (Nat.le_refl _) (fun x hx => Nat.lt_of_lt_of_le (SB.out x hx).1.2 (Nat.le_trans z4 z6))).more (fun x hx => ⟨⟨(SB.out x hx).1.1, Nat.lt_of_lt_of_le (SB.out x hx).1.2 (Nat.le_trans (Nat.le_trans z4 z6) G67.out.size)⟩, (SB.out x hx).2⟩)) 1 rfl r ((HQ.out.keep (fun x hx => G67.out.block x hx.2)).more (fun x hx => ⟨⟨Nat.le_trans (Nat.le_trans HB.out.size z4) hx.1, Nat.lt_of_lt_of_le hx.2 G67.out.size⟩, fun e => by have := (LT4.out x e.symm).2; have := hx.1; omega⟩)).rep (by unfold maxLen; omega) (by omega) (Nat.le_trans (Nat.le_trans HB.out.size z4) (Nat.le_trans z6 G67.out.size)) (fun x hx => ⟨hx.1.2, hx.2⟩) ?_; intro v' w8 own8 g8 at8))
        have b28 := ((below_later G67.out B6.out).grown g8 (Nat.le_trans (Nat.le_trans HB.out.size z4) (Nat.le_trans z6 G67.out.size)) (fun k hk => (LT4.out k hk).1))
        refine ⟨⟨j + 1, by omega, by go_num, ⟨(fun x => bin w2.heap.size w7.heap.size x ∧ some x ≠ u9.ownBlock), by rw [htk.out]; exact own8, fun x hx => ⟨⟨hx.1.1, Nat.lt_of_lt_of_le hx.1.2 g8.size⟩, ?_⟩⟩, b28⟩, by simp [intOf]; omega⟩
        rcases at8 with e | e
        · rw [e]; exact hx.2
        · rw [e]; intro e2; have := Option.some.inj e2; have := hx.1.2; omega
      · obtain rfl : j = rs.length := by omega
        have u1 : decide ((rs.length : Int) + 1 ≤ (rs.length : Int)) = false := by simp; omega
        rw [List.take_length] at ON
        obtain ⟨A9, c9, rfl, sl9⟩ := ON.out.sl (S' := bin w2.heap.size wr.heap.size) (by decide) (fun x h1 h2 => ⟨h1, h2⟩) (fun x hx => (SB.out x hx).1)
        have S9 := Lib.hid sl9
        have hn9 := sl9.n_eq
        clear sl9 ON SB hjl hj
        go_wp2_with fail
        refine (storeLen_any _ _ 30 rs wr (HO.out.later HB.out).store).mono ?_
        rintro e w4 ⟨rfl, b4⟩
        have B4 := Lib.hid (below_later b4 HB.out)
        have S4 := Lib.hid (S9.out.below b4 (fun x hx => hx.2))
        have z4 := b4.size
        have z2 := HB.out.size
        have HW := Lib.hid (below_later B4.out G2.out.out)
        clear b4 S9
        obtain ⟨hi, hhi⟩ : ∃ hi, wr.heap.size = hi := ⟨_, rfl⟩
        rw [hhi] at S4 z4 z2
        clear hhi HB u1
        go_upto_block 4 with fail
        go_cut [7, 13] (fun l i wx => ∃ (rs3 : List Req) (Q3 : Option Addr) (c3 : Nat), l = .slice Q3 rs3.length c3 ∧ rs3.length ≤ 30 ∧ Fine rs3 ∧ Stated rs3 ∧ After rs rs3 ∧ Both wx (w.heap.size + 1) w.heap.size 30 rs3 Q3 rs3.length c3 ∧ Sl tReq wx (bin w2.heap.size hi) A9 rs.length c9 rs ∧ hi ≤ wx.heap.size ∧ Below w.heap.size w wx)
        case first =>
          go_wp2_with fail
          go_loopw [7, 13] (fun l i wx => ∃ (k : Nat) (rs3 : List Req) (Q : Option Addr) (n c : Nat), k ≤ 40 ∧ i = .int .i64 k ∧ l = .slice Q n c ∧ rs3.length ≤ 30 ∧ Fine rs3 ∧ Stated rs3 ∧ After rs rs3 ∧ Both wx (w.heap.size + 1) w.heap.size 30 rs3 Q n c ∧ Sl tReq wx (bin w2.heap.size hi) A9 rs.length c9 rs ∧ hi ≤ wx.heap.size ∧ Below w.heap.size w wx) (fun _ i _ => 60 - (intOf i).toNat)
          case atStart => exact ⟨0, rs, Q, rs.length, c, by omega, rfl, rfl, hrs, HF.out, HT.out, After.refl _, HO.out.later B4.out, S4.out, z4, HW.out⟩
          case round =>
            clear HO HF HT S4 HW B4 z4
            obtain ⟨k, rs3, Q3, n3, c3, hk, rfl, rfl, hrs3, hfine, hstated, hafter, hboth, hsl, hz3, hb⟩ := hrel
            have HB := Lib.hid hb
            have HO := Lib.hid hboth
            have HF := Lib.hid hfine
            have HT := Lib.hid hstated
            have HA := Lib.hid hafter
            have SW := Lib.hid hsl
            clear hb hboth hfine hstated hafter hsl
            by_cases hlt : k < nu ∧ k < 40
            · obtain ⟨hl1, hl2⟩ := hlt
              have t1 : decide ((k : Int) < (nu : Int)) = true := by simp; omega
              have t2 : decide ((k : Int) < 40) = true := by simp; omega
              have p1 : (k : Int) < (nu : Int) := by omega
              obtain ⟨o, ob, off, PA, pn, pc, PB, pm, pd, PL, pl, pk, hx, rfl, hdo, hcell⟩ := (H'.out.below HB.out (fun _ h => h)).do_at k hl1
              have SM := Lib.hid (HS'.out o (List.mem_of_getElem? hx))
              have HD := Lib.hid hdo
              have HC := Lib.hid hcell
              clear hx hdo hcell
              go_wp2_with (refine wpList_load_mid rfl 103 (.tmp 75) rfl ob (off + k * 23) rfl (doCells o PA pn pc PB pm pd PL pl pk).toList _ (fun j v hv => HC.out j v (by rw [← Array.getElem?_toList]; exact hv)) Try.underlying103 rfl (by kernel_rfl) ?_)
              have zb := HB.out.size
              have hoff : ∀ x, blo w.heap.size x → offM wr w.heap.size x := fun x hx => ⟨Nat.lt_of_lt_of_le hx zb, Nat.ne_of_lt hx⟩
              have hfd := HF.out.do_ (m := 30) (o := o) SM.out.input SM.out.value SM.out.logits
              have hsd := doOp_goes rs3 30 o HT.out
              obtain ⟨rs', hrs'⟩ : ∃ rs', doOp rs3 30 o = rs' := ⟨_, rfl⟩
              refine (do_any (w.heap.size + 1) w.heap.size 30 rs3 Q3 n3 c3 o PA pn pc PB pm pd PL pl pk wr HO.out ⟨HD.out.ok, HD.out.input.more hoff, HD.out.value.more hoff, HD.out.logits.more hoff⟩ M30.out (by omega) (by have := SM.out.input; have := HD.out.input.n_eq; omega) (by have := SM.out.value; have := HD.out.value.n_eq; omega) (by have := SM.out.logits; have := HD.out.logits.n_eq; omega)).mono ?_
              rintro e w3 ⟨Q', n', c', rfl, hb3, g3⟩
              rw [hrs'] at hb3 hfd hsd
              have hn' := hb3.len
              subst hn'
              have B3 := Lib.hid (HB.out.grown g3 HB.out.size (fun k h => by have := Option.some.inj h; omega))
              have HO3 := Lib.hid hb3
              have HF3 := Lib.hid hfd.1
              have HT3 := Lib.hid hsd.2.1
              have HA3 := Lib.hid (HA.out.trans hsd.1)
              have SW3 := Lib.hid (SW.out.keep (w' := w3) (fun x hx => g3.block x (by have := hx.2; omega) (fun e => by have := Option.some.inj e; have := hx.1; omega)))
              have hz4 : hi ≤ w3.heap.size := Nat.le_trans hz3 g3.size
              have hlen3 : rs'.length ≤ 30 := by have := hsd.2.2 (by omega); omega
              clear hrs' hfd hsd hb3 g3 HB HO HF HT HA SW HD HC SM hoff zb hrs3 t1 t2 p1
              go_wp2_with fail
              exact ⟨⟨k + 1, rs', Q', rs'.length, c', by omega, by go_num, rfl, hlen3, HF3.out, HT3.out, HA3.out, HO3.out, SW3.out, hz4, B3.out⟩, by simp [intOf]; omega⟩
            · have u0 : nu ≤ k ∨ 40 ≤ k := by omega
              have hn := HO.out.len
              subst hn
              clear hlt hk
              go_wp2_with fail
              all_goals (try (exfalso; omega))
              all_goals go_meet
              all_goals (case rel => exact ⟨rs3, Q3, c3, rfl, hrs3, HF.out, HT.out, HA.out, HO.out, SW.out, hz3, HB.out⟩)
        case rest =>
          obtain ⟨rs3, Q3, c3, rfl, hrs3, hfine, hstated, hafter, hboth, hsl, hz3, hb⟩ := hcut
          have HF3 := Lib.hid hfine
          have HT3 := Lib.hid hstated
          have HA3 := Lib.hid hafter
          have HO3 := Lib.hid hboth
          have SW := Lib.hid hsl
          have HB3 := Lib.hid hb
          obtain ⟨w5, rfl⟩ : ∃ x, x = wc := ⟨_, rfl⟩
          clear hb hboth hfine hstated hafter hsl HO HF HT S4 HW B4 z4 H' HS' G2
          go_wp2_with fail
          go_loopw [14] (fun i wx => ∃ k : Nat, k ≤ rs.length ∧ i = .int .i64 k ∧ Below w5.heap.size w5 wx) (fun i _ => 60 - (intOf i).toNat)
          case atStart => exact ⟨0, Nat.zero_le _, rfl, Below.refl _ _⟩
          case round =>
            obtain ⟨q, hq, rfl, hb6⟩ := hrel
            have B6 := Lib.hid hb6
            clear hb6
            by_cases hql : q < rs.length
            · obtain ⟨r, rb, roff, X1, x1, xc1, Y1, y1, yc1, L1, nl1, cl1, hx1, rfl, hSb, hrb, hq1, hcell1⟩ := (SW.out.below B6.out (fun x hx => Nat.lt_of_lt_of_le hx.2 hz3)).req_at q hql
              obtain ⟨r', hr', hgo⟩ := HA3.out.at_ q r hx1
              have hq3 : q < rs3.length := (List.getElem?_eq_some_iff.1 hr').1
              have ho : reqOf rs3 ((q : Int) + 1) = some r' := by rw [reqOf_nth, hr']
              have hsm : ∀ r, reqOf rs3 ((q : Int) + 1) = some r → Small r := fun r hr => by
                obtain ⟨i, _, hi, hri⟩ := reqOf_some hr
                exact HF3.out.small i r hri
              have HSM := Lib.hid hsm
              have HO_ := Lib.hid ho
              have HC1 := Lib.hid hcell1
              have HQ1 := Lib.hid hq1
              have HGO := Lib.hid hgo
              clear hx1 hr' hgo ho hsm hq1 hcell1 hSb
              have p1 : (q : Int) < (rs.length : Int) := by omega
              go_wp2_with fail
              refine (storeGet_any _ _ 30 rs3 ((q : Int) + 1) wr (HO3.out.later B6.out).store (by rw [inK_i64]; omega) HSM.out).mono ?_
              rintro e w7 ⟨r0, X, xn, xc, Y, y, yc, L, nl, cl, rfl, hr, hqq, b7⟩
              rw [HO_.out] at hr ⊢
              obtain rfl : r0 = r' := hr
              have HQ := Lib.hid hqq
              have B7 := Lib.hid (below_call B6.out b7 B6.out.size)
              have HC7 := Lib.hid (fun j v hv => cell_later b7 (HC1.out j v hv))
              have HQ7 := Lib.hid ((HQ1.out.keep (fun x hx => b7.block x (by have := hx.2; have := B6.out.size; omega))))
              have z7 := b7.size
              clear HO_ HSM b7 hqq HC1 HQ1 HB3
              have cs : (Hid (Ended r) ∧ ((r.state == 3) = true ∨ ((r.state == 3) = false ∧ (r.state == 4) = true))) ∨ (Hid (¬ Ended r) ∧ (r.state == 3) = false ∧ (r.state == 4) = false) := by
                by_cases e3 : r.state = 3
                · exact .inl ⟨Lib.hid (.inl e3), .inl (by simp [e3])⟩
                · by_cases e4 : r.state = 4
                  · exact .inl ⟨Lib.hid (.inr e4), .inr ⟨by simp [e3], by simp [e4]⟩⟩
                  · exact .inr ⟨Lib.hid (fun h => by unfold Ended at h; omega), by simp [e3], by simp [e4]⟩
              have fin : ∀ w8 : World, Blk w8 w7.heap.size 107 (reqCells r0 X xn xc Y y yc L nl cl) → Below w7.heap.size w7 w8 → True := fun _ _ _ => trivial
              clear fin
              rcases cs with ⟨hE, hs⟩ | ⟨hE, s3, s4⟩
              · have he := HGO.out.ended hE.out
                have HA0 := Lib.hid he.2
                have HS0 := Lib.hid he.1
                have sn : (r.state != r.state) = false := by simp
                clear he
                rcases hs with s3 | ⟨s3, s4⟩
                all_goals
                  go_wp2_with (refine wpList_store_all rfl 107 (.tmp 15) (.tmp 91) rfl w7.heap.size (reqCells r0 X xn xc Y y yc L nl cl) rfl rfl _ _ (Blk.now _ _ _ _ rfl) rfl (by kernel_rfl) (by simp [Value.oneCell', reqCells]) ?_; intro w8 B8 g8; have G78 := Lib.hid (show Below w7.heap.size w7 w8 from ((Below.refl _ _).alloc (Nat.le_refl _) _).grown g8 (by simp) (fun k h => by have := Option.some.inj h; omega)); have BR := Lib.hid B8; have q1 : w8.cell? ⟨rb, roff + q * 23 + 1, none⟩ = some (.int .i64 r.state) := cell_later G78.out (HC7.out 1 _ rfl); clear B8 g8)
                  have z8 := G78.out.size
                  have HC8 := Lib.hid (fun (x : Ext w8) j v hv => ext_cell (cell_later G78.out (HC7.out j v hv)) x)
                  have rr := fun (x : Ext w8) => (HQ.out.keep (w' := x.1) (fun y hy => (x.2.block y (Nat.lt_of_lt_of_le hy.2 z8)).trans (G78.out.block y hy.2))).more (S' := blo x.1.heap.size) (fun y hy => Nat.lt_of_lt_of_le hy.2 (Nat.le_trans z8 x.2.size))
                  have zq : hi ≤ w7.heap.size := Nat.le_trans (Nat.le_trans hz3 B6.out.size) z7
                  have qq := fun (x : Ext w8) => (HQ7.out.keep (w' := x.1) (fun y hy => (x.2.block y (by have := hy.2; omega)).trans (G78.out.block y (by have := hy.2; omega)))).more (S' := blo x.1.heap.size) (fun y hy => Nat.lt_of_lt_of_le hy.2 (Nat.le_trans (Nat.le_trans zq z8) x.2.size))
                  have E3 := Lib.hid (fun x : Ext w8 => calls_ext x (sameAnswer_eq r.a L L1 nl cl nl1 cl1 x.1 (by rw [← HA0.out]; exact (rr x).logits) (qq x).logits))
                  have cr1 : ∀ x : Ext w8, x.1.cell? ⟨w7.heap.size, 1, none⟩ = some (.int .i64 r.state) := fun x => by rw [← HS0.out]; exact (BR.out.ext x).cell 1
                  have cq1 : ∀ x : Ext w8, x.1.cell? ⟨rb, roff + q * 23 + 1, none⟩ = some (.int .i64 r.state) := fun x => HC8.out x 1 _ rfl
                  have R1 := Lib.hid (fun (v : World) (hv : ∃ x : Ext w8, v = x.1) => show v.rangeAt w7.heap.size 14 (ansCells r.a L nl cl).toList by obtain ⟨x, rfl⟩ := hv; rw [← HA0.out]; exact range_blk (BR.out.ext x) rfl)
                  have R2 := Lib.hid (fun (v : World) (hv : ∃ x : Ext w8, v = x.1) => show v.rangeAt rb (roff + q * 23 + 14) (ansCells r.a L1 nl1 cl1).toList by obtain ⟨x, rfl⟩ := hv; exact range_cells (fun j v hv => HC8.out x j v hv) rfl)
                  clear rr qq q1 HGO
                  (try simp only [Act.put])
                  refine wp_region_ext w8 (by kernel_rfl) (by kernel_rfl) (Below.refl _ _) ?_
                  iterate 15 (go_big_quiet_step (fail))
                  refine wpQuiet_load_mid (by rfl) 38 (.tmp 121) rfl w7.heap.size 14 rfl _ _ R1.out Try.underlying38 rfl (by kernel_rfl) ?_; (try simp only [Act.put, List.getElem_toArray, List.getElem_cons_succ, List.getElem_cons_zero, List.setIfInBounds_toArray, List.set_cons_zero, List.set_cons_succ])
                  iterate 4 (go_big_quiet_step (fail))
                  refine wpQuiet_load_mid (by rfl) 38 (.tmp 126) rfl rb (roff + q * 23 + 14) rfl _ _ R2.out Try.underlying38 rfl (by kernel_rfl) ?_; (try simp only [Act.put, List.getElem_toArray, List.getElem_cons_succ, List.getElem_cons_zero, List.setIfInBounds_toArray, List.set_cons_zero, List.set_cons_succ])
                  repeat (go_big_quiet_step (exact E3.out _))
                  refine wpQuiet_nil ?_
                  rintro _ ⟨⟨w9, hb9⟩, rfl⟩
                  have G9 := below_call (below_call B7.out G78.out B7.out.size) hb9 (Nat.le_trans B7.out.size z8)
                  go_wp2_with fail
                  exact ⟨⟨q + 1, by omega, by go_num, G9⟩, by simp [intOf]; omega⟩
              · have hle := HGO.out.on
                have sl : decide (r0.state < r.state) = false := by simp; omega
                have SL := Lib.hid sl
                clear hle sl
                go_wp2_with (refine wpList_store_all rfl 107 (.tmp 15) (.tmp 91) rfl w7.heap.size (reqCells r0 X xn xc Y y yc L nl cl) rfl rfl _ _ (Blk.now _ _ _ _ rfl) rfl (by kernel_rfl) (by simp [Value.oneCell', reqCells]) ?_; intro w8 B8 g8; have G78 := Lib.hid (show Below w7.heap.size w7 w8 from ((Below.refl _ _).alloc (Nat.le_refl _) _).grown g8 (by simp) (fun k h => by have := Option.some.inj h; omega)); have BR := Lib.hid B8; have q1 : w8.cell? ⟨rb, roff + q * 23 + 1, none⟩ = some (.int .i64 r.state) := cell_later G78.out (HC7.out 1 _ rfl); clear B8 g8)
                have z8 := G78.out.size
                have cr1 : ∀ x : Ext w8, x.1.cell? ⟨w7.heap.size, 1, none⟩ = some (.int .i64 r0.state) := fun x => (BR.out.ext x).cell 1
                have cq1 : ∀ x : Ext w8, x.1.cell? ⟨rb, roff + q * 23 + 1, none⟩ = some (.int .i64 r.state) := fun x => ext_cell (cell_later G78.out (HC7.out 1 _ rfl)) x
                have sl := SL.out
                clear q1 HGO
                (try simp only [Act.put])
                refine wp_region_ext w8 (by kernel_rfl) (by kernel_rfl) (Below.refl _ _) ?_
                repeat (go_big_quiet_step (fail))
                refine wpQuiet_nil ?_
                rintro _ ⟨⟨w9, hb9⟩, rfl⟩
                have G9 := below_call (below_call B7.out G78.out B7.out.size) hb9 (Nat.le_trans B7.out.size z8)
                go_wp2_with fail
                exact ⟨⟨q + 1, by omega, by go_num, G9⟩, by simp [intOf]; omega⟩
            · obtain rfl : q = rs.length := by omega
              have h1 := many_le rs3 1
              have h2 := many_le rs3 2
              have h3 := many_le rs3 3
              have h4 := many_le rs3 4
              have hsum := many_sum HT3.out
              have bend := below_call HB3.out B6.out HB3.out.size
              have BE := Lib.hid bend
              have OE := Lib.hid (HO3.out.later B6.out)
              obtain ⟨m1, e1⟩ : ∃ m1, many rs3 1 = m1 := ⟨_, rfl⟩
              obtain ⟨m2, e2⟩ : ∃ m2, many rs3 2 = m2 := ⟨_, rfl⟩
              obtain ⟨m3, e3⟩ : ∃ m3, many rs3 3 = m3 := ⟨_, rfl⟩
              obtain ⟨m4, e4⟩ : ∃ m4, many rs3 4 = m4 := ⟨_, rfl⟩
              have hk3 : rs3.length < 549755813888 := by omega
              have C1 := Lib.hid (fun w' (hb : Below wr.heap.size wr w') => storeCount_any _ _ 30 rs3 1 w' (OE.out.later hb).store hk3)
              have C2 := Lib.hid (fun w' (hb : Below wr.heap.size wr w') => storeCount_any _ _ 30 rs3 2 w' (OE.out.later hb).store hk3)
              have C3 := Lib.hid (fun w' (hb : Below wr.heap.size wr w') => storeCount_any _ _ 30 rs3 3 w' (OE.out.later hb).store hk3)
              have C4 := Lib.hid (fun w' (hb : Below wr.heap.size wr w') => storeCount_any _ _ 30 rs3 4 w' (OE.out.later hb).store hk3)
              have CL := Lib.hid (fun w' (hb : Below wr.heap.size wr w') => storeLen_any _ _ 30 rs3 w' (OE.out.later hb).store)
              rw [e1] at C1 h1 hsum
              rw [e2] at C2 h2 hsum
              rw [e3] at C3 h3 hsum
              rw [e4] at C4 h4 hsum
              have q1 : IntKind.i64.wrap ((m1 : Int) + (m2 : Int)) = (m1 : Int) + (m2 : Int) := IntWalk.i64_in _ (by omega)
              have q2 : IntKind.i64.wrap ((m1 : Int) + (m2 : Int) + (m3 : Int)) = (m1 : Int) + (m2 : Int) + (m3 : Int) := IntWalk.i64_in _ (by omega)
              have q3 : IntKind.i64.wrap ((m1 : Int) + (m2 : Int) + (m3 : Int) + (m4 : Int)) = (m1 : Int) + (m2 : Int) + (m3 : Int) + (m4 : Int) := IntWalk.i64_in _ (by omega)
              have q4 : ((m1 : Int) + (m2 : Int) + (m3 : Int) + (m4 : Int) == (rs3.length : Int)) = true := by simp; omega
              have t1 : decide ((rs.length : Int) < (rs.length : Int)) = false := by simp
              clear bend hql hq B6 HB3 HO3 SW hz3 e1 e2 e3 e4 h1 h2 h3 h4 hsum OE HF3 HT3 HA3
              go_wp2_with fail
              refine (C1.out _ (Below.refl _ _)).mono ?_
              rintro e v1 ⟨rfl, b1⟩
              have K1 := Lib.hid b1
              clear b1 C1
              go_wp2_with fail
              refine (C2.out _ K1.out).mono ?_
              rintro e v2 ⟨rfl, b2⟩
              have K2 := Lib.hid (below_later b2 K1.out)
              clear b2 C2 K1
              go_wp2_with fail
              refine (C3.out _ K2.out).mono ?_
              rintro e v3 ⟨rfl, b3⟩
              have K3 := Lib.hid (below_later b3 K2.out)
              clear b3 C3 K2
              go_wp2_with fail
              refine (C4.out _ K3.out).mono ?_
              rintro e v4 ⟨rfl, b4⟩
              have K4 := Lib.hid (below_later b4 K3.out)
              clear b4 C4 K3
              go_wp2_with fail
              refine (CL.out _ K4.out).mono ?_
              rintro e v5 ⟨rfl, b5⟩
              have K5 := Lib.hid (below_later b5 K4.out)
              clear b5 CL K4
              go_wp2_with fail
              refine (known42_any v5).mono ?_
              rintro e v6 ⟨rfl, b6⟩
              have K6 := Lib.hid (below_later b6 K5.out)
              clear b6 K5
              go_wp2_with fail
              go_ret
              exact ⟨rfl, below_later K6.out BE.out⟩

theorem storeStays_walk (A : Option Addr) (n c : Nat) (l : List Do) {W : World} (h : Sl tDo W (blo W.heap.size) A n c l) (hs : ∀ o ∈ l, DoSmall o) (A' : Option Addr) (n' c' : Nat) (l' : List Do) (h' : Sl tDo W (blo W.heap.size) A' n' c' l') (hs' : ∀ o ∈ l', DoSmall o) (w : World) (e : W = w) :
    Calls Try.prog 12 #[.slice A n c, .slice A' n' c'] w fun e w' => e = .returned (.bool true) ∧ Below w.heap.size w w' := by
  subst e
  exact stays_any A n c l A' n' c' l' W h h' hs hs'
end Go.Proofs.Ytlhnapjglebacaa
