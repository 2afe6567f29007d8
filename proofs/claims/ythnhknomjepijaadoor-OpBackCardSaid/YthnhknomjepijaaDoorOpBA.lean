/-
  The walk of OpBack (layer 44).
  Conditions: the library's variables lie as they are laid.
-/
import Derived.Test.YthnhknomjepijaaDoorOpBT
namespace Go.Proofs.YthnhknomjepijaaDoor
set_option linter.unusedVariables false
set_option linter.unusedSimpArgs false
open Go Go.RowKit Go.ChangeShapes Go.WideShapes
set_option maxRecDepth 100000
set_option maxHeartbeats 4000000

theorem bytes_eq {T : ByteArray} {l : List UInt8} (h : T.data.toList = l) : (⟨l.toArray⟩ : ByteArray) = T := by
  subst h
  obtain ⟨⟨t⟩⟩ := T
  rfl
theorem opBack_walk (A : Option Addr) (n cap : Nat) (l : List Opd) (s : ByteArray) (w : World) (hs : Sl tOp w (blo w.heap.size) A n cap l) (hw : LW w) (hm : LM w) :
    Calls Tryd.prog 6 #[.slice A n cap, .string s] w fun e w' => e = .returned (.bool true) ∧ Below w.heap.size w w' := by
  have FR := Lib.hid (Far.refl w)
  have HL := Lib.hid hw
  have HMX := Lib.hid hm
  have HS := Lib.hid (Old.now hs)
  have LN := Lib.hid hs.n_eq
  have mx : n ≤ 9223372036854775807 := Nat.le_trans hs.cap_le hs.max_le
  have HO := Lib.hid (show ∀ o ∈ l, OkO o from fun o ho => by
    obtain ⟨i, hi, rfl⟩ := List.mem_iff_getElem.1 ho
    obtain ⟨x, b, off, A', m, c, hx, -, -, hd, hk⟩ := hs.op_at i (by rw [← hs.n_eq]; exact hi)
    rw [List.getElem?_eq_getElem hi] at hx
    cases hx
    refine ⟨hk.2.1, hk.2.2, fun v hv => ?_⟩
    obtain ⟨j, hj, rfl⟩ := List.mem_iff_getElem.1 hv
    have hq := hd.n_eq
    obtain ⟨_, _, _, _, _, _, ix⟩ := hd.int_at j (by omega)
    rw [List.getD_eq_getElem?_getD, List.getElem?_eq_getElem hj, inK_u8] at ix
    exact ix)
  by_cases c1 : 30 < n
  · have p1 : (30 : Int) < (n : Int) := by omega
    clear c1
    go_enter Tryd.func6, Tryd.ntmps6
    go_wp2_with fail
    refine (known44_any _ (HL.out.fut FR.out.out)).mono ?_
    rintro e w' ⟨rfl, hb⟩
    replace FR := Lib.hid (FR.out.fut hb)
    clear hb
    go_wp2_with fail
    go_ret
    exact ⟨rfl, FR.out.out⟩
  have p1 : ¬ (30 : Int) < (n : Int) := by omega
  by_cases c2 : 100 < s.size
  · have p2 : (100 : Int) < (s.size : Int) := by omega
    clear c1 c2
    go_enter Tryd.func6, Tryd.ntmps6
    go_wp2_with fail
    refine (known44_any _ (HL.out.fut FR.out.out)).mono ?_
    rintro e w' ⟨rfl, hb⟩
    replace FR := Lib.hid (FR.out.fut hb)
    clear hb
    go_wp2_with fail
    go_ret
    exact ⟨rfl, FR.out.out⟩
  have p2 : ¬ (100 : Int) < (s.size : Int) := by omega
  have HTL := Lib.hid (fun k => show (textB (l.take k)).length ≤ 2000000 by
    refine Nat.le_trans (text_len _ fun o ho => ⟨(HO.out o (List.mem_of_mem_take ho)).1, (HO.out o (List.mem_of_mem_take ho)).2.1⟩) ?_
    have h1 := LN.out
    have h2 : (l.take k).length ≤ 30 := by rw [List.length_take]; omega
    omega)
  have CU := Lib.hid (fun w => ropCut_any s 10 w (by omega))
  have CL := Lib.hid (cutS_len s 10)
  have CN := Lib.hid (fun x (h : x ∈ cutS s 10) => cutS_ne h)
  have CZ := Lib.hid (fun x (h : x ∈ cutS s 10) => Nat.le_trans (cutS_size h) (show s.size ≤ 100 by omega))
  obtain ⟨cl, hcl⟩ : ∃ x, cutS s 10 = x := ⟨_, rfl⟩
  rw [hcl] at CU CL CN CZ
  have n30 : n ≤ 30 := by omega
  clear hs hw hm hcl c1 c2
  go_enter Tryd.func6, Tryd.ntmps6
  go_wp2_with fail
  go_loopw [5, 6, 7] (fun u tt i wr => ∃ (k q : Nat) (T : ByteArray), k ≤ n ∧ i = .int .i64 k ∧ tt = .string T ∧ T.data.toList = textB (l.take k) ∧ Own tOp wr (blo w.heap.size) w.heap.size 24 u q (rightsL (l.take k)) ∧ Below w.heap.size w wr) (fun _ _ i _ => n - (intOf i).toNat)
  case atStart => exact ⟨0, 0, ⟨#[]⟩, Nat.zero_le _, rfl, rfl, rfl, Own.nil _ _ _ _ _, FR.out.out⟩
  case round =>
    clear FR
    obtain ⟨k, q, T, hk, rfl, rfl, hT, hown, hb⟩ := hrel
    have FR := Lib.hid (Far.mk hb)
    have ON := Lib.hid hown
    have HT := Lib.hid hT
    have LQ := Lib.hid (hown.length (by decide))
    have TZ := Lib.hid (show T.size ≤ 2000000 by rw [← lenSz, hT]; exact HTL.out k)
    clear hb hown hT
    by_cases hlt : k < n
    · have p3 : (k : Int) < (n : Int) := by omega
      have gi : IntKind.i64.wrap ((k : Int) + 1) = ((k + 1 : Nat) : Int) := (IntWalk.i64_in _ (by omega)).trans (by simp)
      obtain ⟨x, b0, off, D, m, cD, hx, rfl, rg, sl, hi⟩ := HS.out.out.op_at k hlt
      have RG := Lib.hid (fun W (hb : Below w.heap.size w W) => rangeAt_later rg hb)
      have SX := Lib.hid (Old.now sl)
      have HI := Lib.hid hi
      have LD := Lib.hid sl.n_eq
      have c3 : wr.cell? ⟨b0, off + k * 4 + 3, none⟩ = some (.slice D m cD) := RG.out wr FR.out.out 3 _ rfl
      have mz : m ≤ 9223372036854775807 := Nat.le_trans sl.cap_le sl.max_le
      by_cases c5 : 500 < m
      · have p5 : (500 : Int) < (m : Int) := by omega
        clear c5
        go_wp2_with fail
        refine (known44_any _ (HL.out.fut FR.out.out)).mono ?_
        rintro e w' ⟨rfl, hb⟩
        replace FR := Lib.hid (FR.out.fut hb)
        clear hb
        go_wp2_with fail
        go_ret
        exact ⟨rfl, FR.out.out⟩
      have p5 : ¬ (500 : Int) < (m : Int) := by omega
      have TS := Lib.hid (textB_some hx)
      have TO := Lib.hid (textB_none hx)
      have LS := Lib.hid (line_small hi.2.1 hi.2.2)
      have RO := Lib.hid (fun w => ropRight_any x.kind x.n x.d D m cD x.data w LD.out)
      have RL := Lib.hid (fun w hs => ropLine_any x.kind x.n x.d D m cD x.data w hs HI.out.2.1 HI.out.2.2)
      obtain ⟨ln, hln⟩ : ∃ s, lineO x = s := ⟨_, rfl⟩
      rw [hln] at TS LS
      simp only [show lineO ⟨x.kind, x.n, x.d, x.data⟩ = ln from hln] at RL
      obtain ⟨rr, hrr⟩ : ∃ b, rightO x = b := ⟨_, rfl⟩
      simp only [show rightO ⟨x.kind, x.n, x.d, x.data⟩ = rr from hrr] at RO
      rw [hrr] at TS TO
      have OT := Lib.hid (rep_op (S := blo w.heap.size) SX.out.out HI.out.1 HI.out.2.1 HI.out.2.2)
      have z1 : ¬ 9223372036854775807 < T.size + ln.size := by have := TZ.out; have := LS.out; omega
      have z2 : ¬ 9223372036854775807 < T.size + ln.size + 1 := by have := TZ.out; have := LS.out; omega
      clear hln hrr rg sl hi hx c5
      cases rr with
      | false =>
        obtain ⟨NT, NR⟩ := TO.out rfl
        have NT := Lib.hid NT
        have NR := Lib.hid NR
        clear TS TO RL
        go_wp2_with (first
          | (refine wpList_load_mid rfl 24 (.tmp 39) rfl b0 (off + k * 4) rfl _ _ (RG.out _ FR.out.out) Tryd.underlying24 rfl (by kernel_rfl) ?_)
          | (go_at_call 11; refine (RO.out _).mono ?_; rintro e w5 ⟨rfl, hb⟩; have O5 := Lib.hid (ON.out.below hb (Nat.le_refl _) (fun b h => Nat.lt_of_lt_of_le h FR.out.size)); replace FR := Lib.hid (FR.out.fut hb); clear hb))
        exact ⟨⟨k + 1, q, T, by omega, by go_num, rfl, HT.out.trans NT.out.symm, by rw [NR.out]; exact O5.out, FR.out.out⟩, by simp [intOf]; omega⟩
      | true =>
        obtain ⟨NT, NR⟩ := TS.out rfl
        have NT := Lib.hid NT
        have NR := Lib.hid NR
        have qb : q ≤ 30 := by
          have := LQ.out
          have h2 : (rightsL (l.take k)).length ≤ (l.take k).length := List.length_filter_le _ _
          have h3 : (l.take k).length ≤ k := List.length_take_le _ _
          omega
        clear TS TO
        go_wp2_with (first
          | (refine wpList_load_mid rfl 24 (.tmp 39) rfl b0 (off + k * 4) rfl _ _ (RG.out _ FR.out.out) Tryd.underlying24 rfl (by kernel_rfl) ?_)
          | (go_at_call 11; refine (RO.out _).mono ?_; rintro e w5 ⟨rfl, hb⟩; have O5 := Lib.hid (ON.out.below hb (Nat.le_refl _) (fun b h => Nat.lt_of_lt_of_le h FR.out.size)); replace FR := Lib.hid (FR.out.fut hb); have OL := Lib.hid O5.out.lt; have z5 := FR.out.size; clear hb)
          | (refine wpList_load_mid rfl 24 (.tmp 45) rfl b0 (off + k * 4) rfl _ _ (RG.out _ FR.out.out) Tryd.underlying24 rfl (by kernel_rfl) ?_)
          | (refine wpList_lit1 rfl (.tmp 46) rfl ei_ops #[.int .i64 x.kind, .int .i64 x.n, .int .i64 x.d, .slice D m cD] rfl rfl (by decide) ?_)
          | (at_builtin; refine wpList_push (W := w5) (cs := #[.int .i64 x.kind, .int .i64 x.n, .int .i64 x.d, .slice D m cD]) (E := 24) (t := tOp) (S := blo w.heap.size) (base := w.heap.size) rfl (.tmp 42) (.tmp 47) rfl ei_ops rfl O5.out 1 rfl x (tOp.keep OT.out (fun b h => FR.out.out.block b h)) (by unfold maxLen; omega) (by omega) FR.out.size (fun b h => ⟨Nat.lt_of_lt_of_le h FR.out.size, fun e => absurd (OL.out b e.symm).1 (Nat.not_le.2 h)⟩) ?_; intro v' wz ownz gz atz; have FZ := Lib.hid (Far.mk (FR.out.out.grown gz FR.out.size (fun j hj => (OL.out j hj).1))))
          | (refine wpList_load_mid rfl 24 (.tmp 52) rfl b0 (off + k * 4) rfl _ _ (RG.out _ FZ.out.out) Tryd.underlying24 rfl (by kernel_rfl) ?_)
          | (go_at_call 13; refine (RL.out _ (SX.out.fut FZ.out.out).all).mono ?_; rintro e w6 ⟨rfl, hb⟩; have O6 := Lib.hid (ownz.below hb (Nat.le_refl _) (fun b h => Nat.lt_of_lt_of_le h FZ.out.size)); replace FZ := Lib.hid (FZ.out.fut hb); clear hb))
        exact ⟨⟨k + 1, q + 1, T ++ ln ++ ⟨#[10]⟩, by omega, by go_num, rfl, by rw [ByteArray.data_append, ByteArray.data_append, NT.out, ← HT.out]; simp, by rw [NR.out]; exact O6.out, FZ.out.out⟩, by simp [intOf]; omega⟩
    · obtain rfl : k = n := by omega
      have TK := Lib.hid (show l.take k = l by rw [List.take_of_length_le (by rw [LN.out]; exact Nat.le_refl _)])
      rw [TK.out] at HT ON LQ
      have p3 : ¬ (k : Int) < (k : Int) := by omega
      have BE := Lib.hid (bytes_eq HT.out)
      have TX := Lib.hid (fun w h hw => opText_any A k cap l w h n30 hw)
      simp only [BE.out] at TX
      obtain ⟨A1, c1, rfl, sl⟩ := ON.out.sl (S' := blo wr.heap.size) (by decide) (fun b h1 h2 => h2) (fun b h => Nat.lt_of_lt_of_le h FR.out.size)
      have SR := Lib.hid (Old.now sl)
      have t1 : (T.toList == T.toList) = true := by simp
      clear sl hlt hk
      obtain ⟨wl, hwl⟩ : ∃ x, x = wr := ⟨_, rfl⟩
      subst hwl
      by_cases c6 : 60000 < T.size
      · have p6 : (60000 : Int) < (T.size : Int) := by omega
        clear c6
        go_wp2_with fail
        refine (TX.out _ (HS.out.fut FR.out.out).all (HL.out.fut FR.out.out)).mono ?_
        rintro e w1 ⟨rfl, hb⟩
        replace FR := Lib.hid (FR.out.fut hb)
        clear hb
        go_wp2_with fail
        refine (known44_any _ (HL.out.fut FR.out.out)).mono ?_
        rintro e w' ⟨rfl, hb⟩
        replace FR := Lib.hid (FR.out.fut hb)
        clear hb
        go_wp2_with fail
        go_ret
        exact ⟨rfl, FR.out.out⟩
      have p6 : ¬ (60000 : Int) < (T.size : Int) := by omega
      have TZ6 := Lib.hid (show T.size ≤ 60000 by omega)
      clear c6
      go_wp2_with fail
      refine (TX.out _ (HS.out.fut FR.out.out).all (HL.out.fut FR.out.out)).mono ?_
      rintro e w1 ⟨rfl, hb⟩
      replace FR := Lib.hid (FR.out.fut hb)
      replace SR := Lib.hid (SR.out.fut hb)
      clear hb
      go_wp2_with fail
      refine (CU.out _).mono ?_
      rintro e w2 ⟨A2, n2, c2, rfl, sl, hb⟩
      replace FR := Lib.hid (FR.out.fut hb)
      replace SR := Lib.hid (SR.out.fut hb)
      have n21 : 0 < n2 := by have := CL.out.1; have := sl.n_eq; omega
      have q21 : (0 : Int) < (n2 : Int) := by omega
      obtain ⟨bs, os, rfl, -, -, cz, -⟩ := str_at sl 0 n21
      have PN := Lib.hid (show ∀ y ∈ (cl.getD 0 ⟨#[]⟩).data.toList, y ≠ 10 from CN.out _ (by
        rw [List.getD_eq_getElem?_getD, List.getElem?_eq_getElem (by have := CL.out.1; omega)]
        exact List.getElem_mem _))
      have PZ := Lib.hid (getD_size CZ.out 0)
      obtain ⟨pl, hpl⟩ : ∃ x, cl.getD 0 ⟨#[]⟩ = x := ⟨_, rfl⟩
      rw [hpl] at cz PN PZ
      rw [Nat.add_zero] at cz
      have z1 : ¬ 9223372036854775807 < 1 + pl.size := by have := PZ.out; omega
      have z2 : ¬ 9223372036854775807 < 1 + pl.size + 2 := by have := PZ.out; omega
      have z3 : ¬ 9223372036854775807 < 1 + pl.size + 2 + T.size := by have := PZ.out; have := TZ6.out; omega
      have PE := Lib.hid (show backT pl (textB l) = ⟨#[35]⟩ ++ pl ++ ⟨#[10, 10]⟩ ++ T by unfold backT; rw [BE.out])
      obtain ⟨a, ha, he⟩ := back_lines (l := l) PN.out HO.out
      obtain ⟨eo, hg⟩ := back_ops HO.out ha he
      have PS := Lib.hid (show (backT pl (textB l)).size ≤ 65536 by
        rw [PE.out, ByteArray.size_append, ByteArray.size_append, ByteArray.size_append]
        have := PZ.out; have := TZ6.out
        show 1 + pl.size + 2 + T.size ≤ _
        omega)
      have SCR := Lib.hid (fun w hw hm => opScript_any (backT pl (textB l)) w PS.out hw hm)
      have EO := Lib.hid eo
      have HG := Lib.hid hg
      obtain ⟨ls, hls⟩ : ∃ x, cutS (backT pl (textB l)) 10 = x := ⟨_, rfl⟩
      rw [hls] at SCR EO HG
      simp only [PE.out] at SCR
      clear hpl sl hb CU ha he eo hg hls
      go_wp2_with fail
      refine (SCR.out _ (HL.out.fut FR.out.out) (HMX.out.fut FR.out.out)).mono ?_
      rintro e w3 (⟨i0, x0, hi0, -, hx0, -, -⟩ | ⟨-, B, nb, cb, rfl, slB, hb⟩)
      · exfalso
        have h1 := HG.out i0 x0 (List.getElem?_eq_some_iff.1 hi0).1 hi0
        rw [hx0] at h1
        cases h1
      replace FR := Lib.hid (FR.out.fut hb)
      replace SR := Lib.hid (SR.out.fut hb)
      rw [EO.out] at slB
      have SB := Lib.hid (Old.now slB.old)
      obtain rfl : nb = q := by rw [← slB.n_eq]; exact LQ.out
      have nbb : nb ≤ 30 := by
        have h2 : (rightsL l).length ≤ l.length := List.length_filter_le _ _
        have := LQ.out
        have := LN.out
        omega
      have t9 : ((nb : Int) != (nb : Int)) = false := by simp
      clear slB hb cz
      go_wp2_with fail
      have FS := Lib.hid FR.out
      have SRW := Lib.hid SR.out
      go_loopw [13] (fun i wr => ∃ j : Nat, j ≤ nb ∧ i = .int .i64 j ∧ Below w3.heap.size w3 wr) (fun i _ => nb - (intOf i).toNat)
      case atStart => exact ⟨0, Nat.zero_le _, rfl, Below.refl _ _⟩
      case round =>
        obtain ⟨j, hj, rfl, hb3⟩ := hrel
        have FR := Lib.hid (FS.out.fut hb3)
        have QL := Lib.hid (SB.out.fut hb3)
        have QW := Lib.hid (SRW.out.fut hb3)
        have H3 := Lib.hid hb3
        clear hb3
        by_cases hj2 : j < nb
        · have p4 : (j : Int) < (nb : Int) := by omega
          have gi : IntKind.i64.wrap ((j : Int) + 1) = ((j + 1 : Nat) : Int) := (IntWalk.i64_in _ (by omega)).trans (by simp)
          obtain ⟨x, b1, o1, D1, m1, q1, hx, rfl, r1, s1, -⟩ := QL.out.all.op_at j hj2
          obtain ⟨b2, o2, D2, m2, q2, h2, r2, s2⟩ := QW.out.all.op_of j hj2 hx
          subst h2
          have R1 := Lib.hid (fun x : Ext wr => rangeAt_later r1 x.2)
          have R2 := Lib.hid (fun x : Ext wr => rangeAt_later r2 x.2)
          have S1 := Lib.hid (Old.now s1)
          have S2 := Lib.hid (Old.now s2)
          have E1 := Lib.hid (fun y : Ext wr => calls_ext y (same44_any x.kind x.n x.d x.kind x.n x.d D1 D2 m1 q1 m2 q2 x.data x.data y.1 (S1.out.fut y.2).all (S2.out.fut y.2).all))
          simp only [beq_self_eq_true, Bool.true_and, decide_true] at E1
          clear r1 r2 s1 s2 hx
          go_upto_region 23 with fail
          refine wp_region_ext wr (by kernel_rfl) (by kernel_rfl) (Below.refl _ _) ?_
          go_big_quiet_step (fail)
          go_big_quiet_step (fail)
          go_big_quiet_step (fail)
          refine wpQuiet_load_mid (by kernel_rfl) 24 (.tmp 108) rfl b1 (o1 + j * 4) rfl _ _ (by rintro _ ⟨x, rfl⟩; exact R1.out x) Tryd.underlying24 rfl (by kernel_rfl) ?_
          simp only [Act.put, List.getElem_toArray, List.getElem_cons_succ, List.getElem_cons_zero, List.setIfInBounds_toArray, List.set_cons_zero, List.set_cons_succ]
          go_big_quiet_step (fail)
          go_big_quiet_step (fail)
          go_big_quiet_step (fail)
          refine wpQuiet_load_mid (by kernel_rfl) 24 (.tmp 112) rfl b2 (o2 + j * 4) rfl _ _ (by rintro _ ⟨x, rfl⟩; exact R2.out x) Tryd.underlying24 rfl (by kernel_rfl) ?_
          simp only [Act.put, List.getElem_toArray, List.getElem_cons_succ, List.getElem_cons_zero, List.setIfInBounds_toArray, List.set_cons_zero, List.set_cons_succ]
          go_big_quiet_step ((with_reducible exact E1.out _))
          go_big_quiet_step (fail)
          refine wpQuiet_nil ?_
          rintro wa ⟨⟨_, hb⟩, rfl⟩
          replace H3 := Lib.hid (below_later hb H3.out)
          clear hb
          go_wp2_with fail
          exact ⟨⟨j + 1, by omega, by go_num, H3.out⟩, by simp [intOf]; omega⟩
        · obtain rfl : j = nb := by omega
          have p4 : ¬ (j : Int) < (j : Int) := by omega
          clear hj hj2
          go_wp2_with fail
          refine (known44_any _ (HL.out.fut FR.out.out)).mono ?_
          rintro e w' ⟨rfl, hb⟩
          replace FR := Lib.hid (FR.out.fut hb)
          clear hb
          go_wp2_with fail
          go_ret
          exact ⟨rfl, FR.out.out⟩
end Go.Proofs.YthnhknomjepijaaDoor
