/-
  The walk of the law StorePlays.
  Conditions: none.
-/
import Derived.Test.YtlhnapjglebacaaChecked
import Derived.Test.YtlhnapjglebacaaStoreAC
namespace Go.Proofs.Ytlhnapjglebacaa
set_option linter.unusedVariables false
set_option linter.unusedSimpArgs false
open Go.RowKit Go.ChangeShapes Go.WideShapes
set_option maxRecDepth 100000
set_option maxHeartbeats 8000000

theorem Sl.do_at {w : World} {S : Nat → Prop} {A : Option Addr} {n cap : Nat} {l : List Do} (h : Sl tDo w S A n cap l) (i : Nat) (hi : i < n) :
    ∃ o b off PA pn pc PB pm pd PL pl pk, l[i]? = some o ∧ A = some ⟨b, off, none⟩ ∧ DoSl w S o PA pn pc PB pm pd PL pl pk ∧ ∀ j v, (doCells o PA pn pc PB pm pd PL pl pk)[j]? = some v → w.cell? ⟨b, off + i * 23 + j, none⟩ = some v := by
  obtain ⟨o, b, off, xs, hx, hA, hS, hb, hr, hl, hc⟩ := h.cells i hi (by decide)
  obtain ⟨PA, pn, pc, PB, pm, pd, PL, pl, pk, rfl, ho, h1, h2, h3⟩ := do_open hr
  rw [tDo_size] at hc
  refine ⟨o, b, off, PA, pn, pc, PB, pm, pd, PL, pl, pk, hx, hA, ⟨ho, h1, h2, h3⟩, fun j v hv => ?_⟩
  have := hc j v (by rw [← Array.getElem?_toList] at hv; exact hv)
  rwa [← Nat.add_assoc] at this

theorem plays_any (m : Int) (A : Option Addr) (nt ct : Nat) (ops : List Do) (w : World) (hm : InK .i64 m) (h : Sl tDo w (blo w.heap.size) A nt ct ops) :
    Calls Try.prog 11 #[.int .i64 m, .slice A nt ct] w fun e w' => e = .returned (.bool true) ∧ Below w.heap.size w w' := by
  have hnt : nt ≤ 9223372036854775807 := Nat.le_trans h.cap_le h.max_le
  have H := Lib.hid h
  have HM := Lib.hid hm
  clear h hm
  by_cases hmm : m < 1 ∨ 4096 < m
  · go_enter Try.func11, Try.ntmps11
    go_wp2_with fail
    refine (storeNew_bad m w hmm).mono ?_
    rintro e w1 ⟨rfl, b1⟩
    rcases Classical.em (m < 1) with h1 | h1
    · have t1 : decide (m < 1) = true := by simp; omega
      clear h1 hmm
      go_wp2_with fail
      refine (known42_any w1).mono ?_
      rintro e w2 ⟨rfl, b2⟩
      have g2 := below_later b2 b1
      clear b1 b2
      go_wp2_with fail
      go_ret
      exact ⟨rfl, g2⟩
    · have t1 : decide (m < 1) = false := by simp; omega
      have t2 : decide (4096 < m) = true := by simp; omega
      clear h1 hmm
      go_wp2_with fail
      refine (known42_any w1).mono ?_
      rintro e w2 ⟨rfl, b2⟩
      have g2 := below_later b2 b1
      clear b1 b2
      go_wp2_with fail
      go_ret
      exact ⟨rfl, g2⟩
  · have t1 : decide (m < 1) = false := by simp; omega
    have t2 : decide (4096 < m) = false := by simp; omega
    go_enter Try.func11, Try.ntmps11
    go_wp2_with fail
    refine (storeNew_good m w (by omega) (by omega)).mono ?_
    rintro e w1 ⟨rfl, r1, b1⟩
    have R1 := Lib.hid r1
    have B1 := Lib.hid b1
    clear r1 b1 hmm
    go_wp2_with fail
    clear t1 t2
    go_loopw [7, 8] (fun l i wr => ∃ (k : Nat) (rs : List Req) (Q : Option Addr) (n c : Nat), k ≤ 60 ∧ i = .int .i64 k ∧ l = .slice Q n c ∧ rs.length ≤ k ∧ Fine rs ∧ Both wr (w.heap.size + 1) w.heap.size m rs Q n c ∧ Below w.heap.size w wr) (fun _ i _ => 60 - (intOf i).toNat)
    case atStart => exact ⟨0, [], none, 0, 0, by omega, rfl, rfl, Nat.le_refl _, Fine.nil, ⟨R1.out, Sl.nil _ _ _⟩, B1.out⟩
    case round =>
      clear R1 B1
      obtain ⟨k, rs, Q, n, c, hk, rfl, rfl, hrs, hfine, hboth, hb⟩ := hrel
      have HB := Lib.hid hb
      have HO := Lib.hid hboth
      have HF := Lib.hid hfine
      clear hb hboth hfine
      by_cases hlt : k < nt ∧ k < 60
      · obtain ⟨hl1, hl2⟩ := hlt
        have t1 : decide ((k : Int) < (nt : Int)) = true := by simp; omega
        have t2 : decide ((k : Int) < 60) = true := by simp; omega
        have p1 : (k : Int) < (nt : Int) := by omega
        obtain ⟨o, ob, off, PA, pn, pc, PB, pm, pd, PL, pl, pk, hx, rfl, hdo, hcell⟩ := (H.out.below HB.out (fun _ h => h)).do_at k hl1
        have c9 : wr.cell? ⟨ob, off + k * 23 + 9, none⟩ = some (.slice PA pn pc) := hcell 9 _ rfl
        have c13 : wr.cell? ⟨ob, off + k * 23 + 13, none⟩ = some (.slice PB pm pd) := hcell 13 _ rfl
        have c19 : wr.cell? ⟨ob, off + k * 23 + 19, none⟩ = some (.slice PL pl pk) := hcell 19 _ rfl
        have HD := Lib.hid hdo
        have HC := Lib.hid hcell
        clear hx hdo hcell
        by_cases hbig : 300 < pn ∨ 300 < pm ∨ 100 < pl
        · have hbi : (300 < (pn : Int)) ∨ (300 < (pm : Int)) ∨ (100 < (pl : Int)) := by omega
          clear hbig
          go_wp2_with fail
          all_goals (try (exfalso; omega))
          all_goals
            refine (known42_any wr).mono ?_
            rintro e w2 ⟨rfl, b2⟩
            have g2 := below_later b2 HB.out
            clear b2
            go_wp2_with fail
            go_ret
            exact ⟨rfl, g2⟩
        · have s1 : decide (300 < (pn : Int)) = false := by simp; omega
          have s2 : decide (300 < (pm : Int)) = false := by simp; omega
          have s3 : decide (100 < (pl : Int)) = false := by simp; omega
          go_wp2_with (refine wpList_load_mid rfl 103 (.tmp 85) rfl ob (off + k * 23) rfl (doCells o PA pn pc PB pm pd PL pl pk).toList _ (fun j v hv => HC.out j v (by rw [← Array.getElem?_toList]; exact hv)) Try.underlying103 rfl (by kernel_rfl) ?_)
          have zb := HB.out.size
          have hoff : ∀ x, blo w.heap.size x → offM wr w.heap.size x := fun x hx => ⟨Nat.lt_of_lt_of_le hx zb, Nat.ne_of_lt hx⟩
          have d1 := HD.out.input.n_eq
          have d2 := HD.out.value.n_eq
          have d3 := HD.out.logits.n_eq
          have hfd := HF.out.do_ (m := m) (o := o) (by omega) (by omega) (by omega)
          obtain ⟨rs', hrs'⟩ : ∃ rs', doOp rs m o = rs' := ⟨_, rfl⟩
          refine (do_any (w.heap.size + 1) w.heap.size m rs Q n c o PA pn pc PB pm pd PL pl pk wr HO.out ⟨HD.out.ok, HD.out.input.more hoff, HD.out.value.more hoff, HD.out.logits.more hoff⟩ HM.out (by omega) (by omega) (by omega) (by omega)).mono ?_
          rintro e w3 ⟨Q', n', c', rfl, hb3, g3⟩
          rw [hrs'] at hb3 hfd
          have hn' := hb3.len
          subst hn'
          have B3 := Lib.hid (HB.out.grown g3 HB.out.size (fun k h => by have := Option.some.inj h; omega))
          have HO3 := Lib.hid hb3
          have HF3 := Lib.hid hfd.1
          have hlen3 : rs'.length ≤ 60 := by have := hfd.2; omega
          have hlen4 : rs'.length ≤ k + 1 := by have := hfd.2; omega
          clear hrs' hfd hb3 g3 HB HO HF HD HC d1 d2 d3 hoff zb c9 c13 c19 s1 s2 s3 hbig hrs t1 t2 p1
          go_wp2_with fail
          refine (storeLen_any _ _ m rs' w3 HO3.out.store).mono ?_
          rintro e w4 ⟨rfl, b4⟩
          have B4 := Lib.hid (below_later b4 B3.out)
          have HO4 := Lib.hid (HO3.out.later b4)
          have tl : ((rs'.length : Int) != (rs'.length : Int)) = false := by simp
          clear b4 HO3 B3
          go_wp2_with fail
          clear tl
          go_loopw [11] (fun i w5 => ∃ j : Nat, j ≤ rs'.length + 2 ∧ i = .int .i64 j ∧ Below w4.heap.size w4 w5) (fun i _ => 100 - (intOf i).toNat)
          case atStart => exact ⟨0, Nat.zero_le _, rfl, Below.refl _ _⟩
          case round =>
            obtain ⟨j, hj, rfl, b5⟩ := hrel
            have B5 := Lib.hid b5
            clear b5
            by_cases hjl : j ≤ rs'.length + 1
            · have u1 : decide ((j : Int) ≤ (rs'.length : Int) + 1) = true := by simp; omega
              have hsm : ∀ r, reqOf rs' (j : Int) = some r → Small r := fun r hr => by
                obtain ⟨i, _, hi, hri⟩ := reqOf_some hr
                exact HF3.out.small i r hri
              go_wp2_with fail
              refine (storeGet_any _ _ m rs' (j : Int) wr (HO4.out.later B5.out).store (by rw [inK_i64]; omega) hsm).mono ?_
              rintro e w6 ⟨r, X, xn, xc, Y, y, yc, L, nl, cl, rfl, hr, hq, b6⟩
              have HQ := Lib.hid hq
              have B6 := Lib.hid (below_call B5.out b6 B5.out.size)
              clear hsm b6 hq
              by_cases hin : 1 ≤ j ∧ j ≤ rs'.length
              · obtain ⟨i, hij⟩ : ∃ i, j = i + 1 := ⟨j - 1, by omega⟩
                have hcast : (j : Int) = (i : Int) + 1 := by omega
                have hji : (j : Int) - 1 = (i : Int) := by omega
                have hii : i < rs'.length := by omega
                have hri : rs'[i]? = some r := by
                  rw [hcast, reqOf_nth] at hr
                  cases hx : rs'[i]? with
                  | none => rw [List.getElem?_eq_none_iff] at hx; omega
                  | some r' => rw [hx] at hr; rw [hr]; rfl
                have ho : reqOf rs' (j : Int) = some r := by rw [hcast, reqOf_nth, hri]
                have hidr : r.id = (j : Int) := by rw [hcast]; exact HF3.out.ids i r hri
                rw [ho]
                have p1 : (i : Int) < (rs'.length : Int) := by omega
                obtain ⟨rq, qb, qoff, X1, x1, xc1, Y1, y1, yc1, L1, nl1, cl1, hx1, rfl, _, _, _, hq1, hcell1⟩ := HO4.out.rows.q_at i hii
                rw [List.getElem?_map, hri] at hx1
                obtain rfl : zeroId r = rq := Option.some.inj hx1
                have HC1 := Lib.hid hcell1
                have HQ1 := Lib.hid hq1
                have tj : (r.id != (j : Int)) = false := by simp [hidr]
                have tj2 : (r.id != (i : Int) + 1) = false := by rw [hidr, hcast]; simp
                have ts : (r.state != r.state) = false := by simp
                have td : (r.due != r.due) = false := by simp
                clear hr ho hx1 hq1 hcell1 hidr hri hcast
                go_wp2_with (first
                  | (refine wpList_store_all rfl 107 (.tmp 12) (.tmp 111) rfl w6.heap.size (reqCells r X xn xc Y y yc L nl cl) rfl rfl _ _ (Blk.now _ _ _ _ rfl) rfl (by kernel_rfl) (by simp [Value.oneCell', reqCells]) ?_; intro w7 B7 g7; have G67 := Lib.hid (show Below w6.heap.size w6 w7 from ((Below.refl _ _).alloc (Nat.le_refl _) _).grown g7 (by simp) (fun k h => by have := Option.some.inj h; omega)); have G7 := Lib.hid (below_call B6.out G67.out B6.out.size))
                  | (refine wpList_load_mid rfl 112 (.tmp 135) rfl qb (qoff + i * 22) rfl (qCells (zeroId r) X1 x1 xc1 Y1 y1 yc1 L1 nl1 cl1).toList _ (fun jj v hv => cell_later G7.out (HC1.out jj v (by rw [← Array.getElem?_toList]; exact hv))) Try.underlying112 rfl (by kernel_rfl) ?_)
                  | (refine wpList_store_all rfl 112 (.tmp 14) (.tmp 136) rfl w7.heap.size (qCells (zeroId r) X1 x1 xc1 Y1 y1 yc1 L1 nl1 cl1) rfl rfl _ _ (Blk.now _ _ _ _ rfl) rfl (by kernel_rfl) (by simp [Value.oneCell', qCells]) ?_; intro w8 B8 g8))
                all_goals (try (exfalso; omega))
                have G78 : Below w7.heap.size w7 w8 := ((Below.refl _ _).alloc (Nat.le_refl _) _).grown g8 (by simp) (fun k h => by have := Option.some.inj h; omega)
                have G8 := Lib.hid (below_call G7.out G78 G7.out.size)
                have G68 := below_call G67.out G78 G67.out.size
                have BR := Lib.hid (B7.later G78)
                have BQ := Lib.hid B8
                have R8 := Lib.hid (HQ.out.keep (fun x hx => G68.block x hx.2))
                have Q8 := Lib.hid (HQ1.out.keep (fun x hx => G8.out.block x hx.1))
                have z68 := G68.size
                have z48 := G8.out.size
                have rr := fun (x : Ext w8) => (R8.out.keep (w' := x.1) (fun y hy => x.2.block y (Nat.lt_of_lt_of_le hy.2 z68))).more (S' := blo x.1.heap.size) (fun y hy => Nat.lt_of_lt_of_le hy.2 (Nat.le_trans z68 x.2.size))
                have qq := fun (x : Ext w8) => (Q8.out.keep (w' := x.1) (fun y hy => x.2.block y (Nat.lt_of_lt_of_le hy.1 z48))).more (S' := blo x.1.heap.size) (fun y hy => Nat.lt_of_lt_of_le hy.1 (Nat.le_trans z48 x.2.size))
                have E1 := Lib.hid (fun x : Ext w8 => calls_ext x (ofPoint_any r.p X Y xn xc y yc x.1))
                have E2 := Lib.hid (fun x : Ext w8 => calls_ext x (same36_eq r.p X Y X1 Y1 xn xc y yc x1 xc1 y1 yc1 x.1 (rr x).input (rr x).value (qq x).input (qq x).value))
                have E3 := Lib.hid (fun x : Ext w8 => calls_ext x (sameAnswer_eq r.a L L1 nl cl nl1 cl1 x.1 (rr x).logits (qq x).logits))
                unfold ptCells ansCells at *
                have cr0 : ∀ x : Ext w8, x.1.cell? ⟨w6.heap.size, 0, none⟩ = some (.int .i64 r.id) := fun x => (BR.out.ext x).cell 0
                have cr1 : ∀ x : Ext w8, x.1.cell? ⟨w6.heap.size, 1, none⟩ = some (.int .i64 r.state) := fun x => (BR.out.ext x).cell 1
                have cr2 : ∀ x : Ext w8, x.1.cell? ⟨w6.heap.size, 2, none⟩ = some (.int .i64 r.due) := fun x => (BR.out.ext x).cell 2
                have cr3 : ∀ x : Ext w8, x.1.cell? ⟨w6.heap.size, 3, none⟩ = some (.int .i64 r.p.model) := fun x => (BR.out.ext x).cell 3
                have cr4 : ∀ x : Ext w8, x.1.cell? ⟨w6.heap.size, 4, none⟩ = some (.int .i64 r.p.block) := fun x => (BR.out.ext x).cell 4
                have cr5 : ∀ x : Ext w8, x.1.cell? ⟨w6.heap.size, 5, none⟩ = some (.int .i64 r.p.spent) := fun x => (BR.out.ext x).cell 5
                have cr6 : ∀ x : Ext w8, x.1.cell? ⟨w6.heap.size, 6, none⟩ = some (.int .i64 r.p.input.h) := fun x => (BR.out.ext x).cell 6
                have cr7 : ∀ x : Ext w8, x.1.cell? ⟨w6.heap.size, 7, none⟩ = some (.int .i64 r.p.input.v) := fun x => (BR.out.ext x).cell 7
                have cr8 : ∀ x : Ext w8, x.1.cell? ⟨w6.heap.size, 8, none⟩ = some (.int .i64 r.p.input.c) := fun x => (BR.out.ext x).cell 8
                have cr9 : ∀ x : Ext w8, x.1.cell? ⟨w6.heap.size, 9, none⟩ = some (.slice X xn xc) := fun x => (BR.out.ext x).cell 9
                have cr10 : ∀ x : Ext w8, x.1.cell? ⟨w6.heap.size, 10, none⟩ = some (.int .i64 r.p.value.h) := fun x => (BR.out.ext x).cell 10
                have cr11 : ∀ x : Ext w8, x.1.cell? ⟨w6.heap.size, 11, none⟩ = some (.int .i64 r.p.value.v) := fun x => (BR.out.ext x).cell 11
                have cr12 : ∀ x : Ext w8, x.1.cell? ⟨w6.heap.size, 12, none⟩ = some (.int .i64 r.p.value.c) := fun x => (BR.out.ext x).cell 12
                have cr13 : ∀ x : Ext w8, x.1.cell? ⟨w6.heap.size, 13, none⟩ = some (.slice Y y yc) := fun x => (BR.out.ext x).cell 13
                have cr14 : ∀ x : Ext w8, x.1.cell? ⟨w6.heap.size, 14, none⟩ = some (.int .i64 r.a.id) := fun x => (BR.out.ext x).cell 14
                have cr15 : ∀ x : Ext w8, x.1.cell? ⟨w6.heap.size, 15, none⟩ = some (.int .i64 r.a.model) := fun x => (BR.out.ext x).cell 15
                have cr16 : ∀ x : Ext w8, x.1.cell? ⟨w6.heap.size, 16, none⟩ = some (.int .i64 r.a.block) := fun x => (BR.out.ext x).cell 16
                have cr17 : ∀ x : Ext w8, x.1.cell? ⟨w6.heap.size, 17, none⟩ = some (.int .i64 r.a.cls) := fun x => (BR.out.ext x).cell 17
                have cr18 : ∀ x : Ext w8, x.1.cell? ⟨w6.heap.size, 18, none⟩ = some (.int .i64 r.a.margin) := fun x => (BR.out.ext x).cell 18
                have cr19 : ∀ x : Ext w8, x.1.cell? ⟨w6.heap.size, 19, none⟩ = some (.slice L nl cl) := fun x => (BR.out.ext x).cell 19
                have cr20 : ∀ x : Ext w8, x.1.cell? ⟨w6.heap.size, 20, none⟩ = some (.int .i64 r.a.spent) := fun x => (BR.out.ext x).cell 20
                have cr21 : ∀ x : Ext w8, x.1.cell? ⟨w6.heap.size, 21, none⟩ = some (.int .i64 r.a.why) := fun x => (BR.out.ext x).cell 21
                have cr22 : ∀ x : Ext w8, x.1.cell? ⟨w6.heap.size, 22, none⟩ = some (.int .i64 r.a.tick) := fun x => (BR.out.ext x).cell 22
                have cq0 : ∀ x : Ext w8, x.1.cell? ⟨w7.heap.size, 0, none⟩ = some (.int .i64 r.state) := fun x => (BQ.out.ext x).cell 0
                have cq1 : ∀ x : Ext w8, x.1.cell? ⟨w7.heap.size, 1, none⟩ = some (.int .i64 r.due) := fun x => (BQ.out.ext x).cell 1
                have cq2 : ∀ x : Ext w8, x.1.cell? ⟨w7.heap.size, 2, none⟩ = some (.int .i64 r.p.model) := fun x => (BQ.out.ext x).cell 2
                have cq3 : ∀ x : Ext w8, x.1.cell? ⟨w7.heap.size, 3, none⟩ = some (.int .i64 r.p.block) := fun x => (BQ.out.ext x).cell 3
                have cq4 : ∀ x : Ext w8, x.1.cell? ⟨w7.heap.size, 4, none⟩ = some (.int .i64 r.p.spent) := fun x => (BQ.out.ext x).cell 4
                have cq5 : ∀ x : Ext w8, x.1.cell? ⟨w7.heap.size, 5, none⟩ = some (.int .i64 r.p.input.h) := fun x => (BQ.out.ext x).cell 5
                have cq6 : ∀ x : Ext w8, x.1.cell? ⟨w7.heap.size, 6, none⟩ = some (.int .i64 r.p.input.v) := fun x => (BQ.out.ext x).cell 6
                have cq7 : ∀ x : Ext w8, x.1.cell? ⟨w7.heap.size, 7, none⟩ = some (.int .i64 r.p.input.c) := fun x => (BQ.out.ext x).cell 7
                have cq8 : ∀ x : Ext w8, x.1.cell? ⟨w7.heap.size, 8, none⟩ = some (.slice X1 x1 xc1) := fun x => (BQ.out.ext x).cell 8
                have cq9 : ∀ x : Ext w8, x.1.cell? ⟨w7.heap.size, 9, none⟩ = some (.int .i64 r.p.value.h) := fun x => (BQ.out.ext x).cell 9
                have cq10 : ∀ x : Ext w8, x.1.cell? ⟨w7.heap.size, 10, none⟩ = some (.int .i64 r.p.value.v) := fun x => (BQ.out.ext x).cell 10
                have cq11 : ∀ x : Ext w8, x.1.cell? ⟨w7.heap.size, 11, none⟩ = some (.int .i64 r.p.value.c) := fun x => (BQ.out.ext x).cell 11
                have cq12 : ∀ x : Ext w8, x.1.cell? ⟨w7.heap.size, 12, none⟩ = some (.slice Y1 y1 yc1) := fun x => (BQ.out.ext x).cell 12
                have cq13 : ∀ x : Ext w8, x.1.cell? ⟨w7.heap.size, 13, none⟩ = some (.int .i64 r.a.id) := fun x => (BQ.out.ext x).cell 13
                have cq14 : ∀ x : Ext w8, x.1.cell? ⟨w7.heap.size, 14, none⟩ = some (.int .i64 r.a.model) := fun x => (BQ.out.ext x).cell 14
                have cq15 : ∀ x : Ext w8, x.1.cell? ⟨w7.heap.size, 15, none⟩ = some (.int .i64 r.a.block) := fun x => (BQ.out.ext x).cell 15
                have cq16 : ∀ x : Ext w8, x.1.cell? ⟨w7.heap.size, 16, none⟩ = some (.int .i64 r.a.cls) := fun x => (BQ.out.ext x).cell 16
                have cq17 : ∀ x : Ext w8, x.1.cell? ⟨w7.heap.size, 17, none⟩ = some (.int .i64 r.a.margin) := fun x => (BQ.out.ext x).cell 17
                have cq18 : ∀ x : Ext w8, x.1.cell? ⟨w7.heap.size, 18, none⟩ = some (.slice L1 nl1 cl1) := fun x => (BQ.out.ext x).cell 18
                have cq19 : ∀ x : Ext w8, x.1.cell? ⟨w7.heap.size, 19, none⟩ = some (.int .i64 r.a.spent) := fun x => (BQ.out.ext x).cell 19
                have cq20 : ∀ x : Ext w8, x.1.cell? ⟨w7.heap.size, 20, none⟩ = some (.int .i64 r.a.why) := fun x => (BQ.out.ext x).cell 20
                have cq21 : ∀ x : Ext w8, x.1.cell? ⟨w7.heap.size, 21, none⟩ = some (.int .i64 r.a.tick) := fun x => (BQ.out.ext x).cell 21
                clear rr qq B7 B8 g7 g8 G78 G68
                (try simp only [Act.put])
                refine wp_region_ext w8 (by kernel_rfl) (by kernel_rfl) (Below.refl _ _) ?_
                repeat (go_big_quiet_step ((first | exact E1.out _ | exact E2.out _ | exact E3.out _)))
                refine wpQuiet_nil ?_
                rintro _ ⟨⟨w9, hb9⟩, rfl⟩
                have G9 := below_call G8.out hb9 G8.out.size
                go_wp2_with fail
                exact ⟨⟨j + 1, by omega, by go_num, G9⟩, by simp [intOf]; omega⟩
              · have ho : reqOf rs' (j : Int) = none := by
                  unfold reqOf
                  split
                  · exact List.getElem?_eq_none (by omega)
                  · rfl
                rw [ho] at hr ⊢
                obtain rfl : r = noReq := hr
                clear ho
                go_wp2_with (refine wpList_store_all rfl 107 (.tmp 12) (.tmp 111) rfl w6.heap.size (reqCells noReq X xn xc Y y yc L nl cl) rfl rfl _ _ (Blk.now _ _ _ _ rfl) rfl (by kernel_rfl) (by simp [Value.oneCell', reqCells]) ?_; intro w7 B7 g7; have G7 := Lib.hid (show Below w4.heap.size w4 w7 from (B6.out.alloc B6.out.size _).grown g7 (by have := B6.out.size; simp; omega) (fun k h => by have := Option.some.inj h; have := B6.out.size; omega)); have q0 : w7.cell? ⟨w6.heap.size, 0, none⟩ = some (.int .i64 0) := B7.cell 0; have q1 : w7.cell? ⟨w6.heap.size, 1, none⟩ = some (.int .i64 0) := B7.cell 1; clear B7 g7)
                all_goals (try (exfalso; omega))
                all_goals exact ⟨⟨j + 1, by omega, by go_num, G7.out⟩, by simp [intOf]; omega⟩
            · have u1 : decide ((j : Int) ≤ (rs'.length : Int) + 1) = false := by simp; omega
              clear hjl hj
              go_wp2_with fail
              go_loopw [15] (fun i w7 => ∃ q : Nat, q ≤ 6 ∧ i = .int .i64 q ∧ Below w4.heap.size w4 w7) (fun i _ => 100 - (intOf i).toNat)
              case atStart => exact ⟨0, by omega, rfl, B5.out⟩
              case round =>
                obtain ⟨q, hq, rfl, b7⟩ := hrel
                have B7 := Lib.hid b7
                clear b7
                by_cases hq6 : q < 6
                · have v1 : decide ((q : Int) < 6) = true := by simp; omega
                  go_wp2_with fail
                  refine (storeCount_any _ _ m rs' (q : Int) wr (HO4.out.later B7.out).store (by omega)).mono ?_
                  rintro e w8 ⟨rfl, b8⟩
                  have B8 := Lib.hid (below_call B7.out b8 B7.out.size)
                  clear b8
                  go_wp2_with fail
                  refine (refCount_any Q' rs'.length c' (rs'.map zeroId) (q : Int) w8 ((HO4.out.later B8.out).rows.more (fun x hx => hx.1)) (by omega)).mono ?_
                  rintro e w9 ⟨rfl, b9⟩
                  rw [many_zero]
                  have B9 := Lib.hid (below_call B8.out b9 B8.out.size)
                  have v2 : ((many rs' (q : Int) : Int) != (many rs' (q : Int) : Int)) = false := by simp
                  clear b9
                  go_wp2_with fail
                  exact ⟨⟨q + 1, by omega, by go_num, B9.out⟩, by simp [intOf]; omega⟩
                · obtain rfl : q = 6 := by omega
                  have hend := (HO4.out.later B7.out)
                  have bend := below_call B4.out B7.out B4.out.size
                  clear hq6 hq
                  go_wp2_with fail
                  exact ⟨⟨k + 1, rs', Q', rs'.length, c', by omega, by go_num, rfl, hlen4, HF3.out, hend, bend⟩, by simp [intOf]; omega⟩
      · have u0 : nt ≤ k ∨ 60 ≤ k := by omega
        clear hlt
        go_wp2_with fail
        all_goals (try (exfalso; omega))
        all_goals
          refine (known42_any wr).mono ?_
          rintro e w2 ⟨rfl, b2⟩
          have g2 := below_later b2 HB.out
          clear b2
          go_wp2_with fail
          go_ret
          exact ⟨rfl, g2⟩

theorem storePlays_walk (m : Int) (hm : InK .i64 m) (A : Option Addr) (n c : Nat) (l : List Do) {W : World} (h : Sl tDo W (blo W.heap.size) A n c l) (w : World) (e : W = w) :
    Calls Try.prog 11 #[.int .i64 m, .slice A n c] w fun e w' => e = .returned (.bool true) ∧ Below w.heap.size w w' := by
  subst e
  exact plays_any m A n c l W hm h
end Go.Proofs.Ytlhnapjglebacaa
