/-
  Ops (layer 44): the document's Line.
  Conditions: numbers of 64 bits.
-/
import Derived.Test.YthnhknomjepijaaDoorOpJ
import Derived.Test.YthnhknomjepijaaDoorOpD
namespace Go.Proofs.YthnhknomjepijaaDoor
set_option linter.unusedVariables false
set_option linter.unusedSimpArgs false
open Go.RowKit Go.ChangeShapes Go.WideShapes
set_option maxRecDepth 100000
set_option maxHeartbeats 4000000

theorem joinB1 (a : ByteArray) : joinB [a] = a := by
  apply ByteArray.ext
  show (Lib.join _ _).toArray = _
  rw [List.map_cons, List.map_nil, Lib.join_one]
theorem joinB2 (a b : ByteArray) : joinB [a, b] = a ++ ⟨#[32]⟩ ++ b := by
  apply ByteArray.ext
  rw [ByteArray.data_append, ByteArray.data_append]
  show (Lib.join _ _).toArray = _
  simp [Lib.join_cons, Lib.joinTail]
theorem joinB3 (a b c : ByteArray) : joinB [a, b, c] = a ++ ⟨#[32]⟩ ++ b ++ ⟨#[32]⟩ ++ c := by
  apply ByteArray.ext
  rw [ByteArray.data_append, ByteArray.data_append, ByteArray.data_append, ByteArray.data_append]
  show (Lib.join _ _).toArray = _
  simp [Lib.join_cons, Lib.joinTail]

theorem ropLine_any (k n d : Int) (A : Option Addr) (m cap : Nat) (l : List Int) (w : World) (hs : Sl (tInt .u8) w (blo w.heap.size) A m cap l) (hn : InK .i64 n) (hd : InK .i64 d) :
    Calls Tryd.prog 13 #[.agg #[.int .i64 k, .int .i64 n, .int .i64 d, .slice A m cap]] w fun e w' => e = .returned (.string (lineO ⟨k, n, d, l⟩)) ∧ Below w.heap.size w w' := by
  have FR := Lib.hid (Far.refl w)
  have HS := Lib.hid (Old.now hs)
  have RO := Lib.hid (fun w => ropRight_any k n d A m cap l w hs.n_eq)
  have LN := Lib.hid hs.n_eq
  have HV := Lib.hid (show lineO ⟨k, n, d, l⟩ = if rightO ⟨k, n, d, l⟩ = true then joinB (strsO ⟨k, n, d, l⟩) else ⟨#[]⟩ from rfl)
  have HW := Lib.hid (right_ways (o := ⟨k, n, d, l⟩))
  have HK := Lib.hid (fun h : rightO ⟨k, n, d, l⟩ = true => show 1 ≤ k ∧ k ≤ 6 by
    unfold rightO at h
    simp only [Bool.and_eq_true, decide_eq_true_eq] at h
    exact h.1.1.1.1)
  have WO := Lib.hid (fun w => ropWord_any k w)
  have DN := Lib.hid (fun w => ropDigits_any n w hn)
  have DD := Lib.hid (fun w => ropDigits_any d w hd)
  have SN := Lib.hid (itoa_size hn)
  have SD := Lib.hid (itoa_size hd)
  have SV := Lib.hid (show strsO ⟨k, n, d, l⟩ = wordB k :: ((if tel0 k = true then [strOfNums (hexB l)] else []) ++ ((if tel1 k = true then [⟨(Lib.itoa d).toArray⟩] else []) ++ (if tel2 k = true then [⟨(Lib.itoa n).toArray⟩] else []))) from rfl)
  obtain ⟨r, hr⟩ : ∃ r, rightO ⟨k, n, d, l⟩ = r := ⟨_, rfl⟩
  obtain ⟨v, hv⟩ : ∃ r, lineO ⟨k, n, d, l⟩ = r := ⟨_, rfl⟩
  have WS := Lib.hid (word_size k)
  obtain ⟨s, hss⟩ : ∃ s, wordB k = s := ⟨_, rfl⟩
  rw [hr] at RO HV HW HK
  rw [hv] at HV ⊢
  rw [hss] at WO SV WS
  try simp only at HW
  clear hs hn hd hr hv hss
  obtain ⟨w1, hw_w1⟩ : ∃ nw_, w.alloc (.cells #[.int .i64 k, .int .i64 n, .int .i64 d, .slice A m cap] 24) = nw_ := ⟨_, rfl⟩
  have k_w1 : Below w.heap.size w w1 := by rw [← hw_w1]; exact (Below.refl _ _).alloc (Nat.le_refl _) _
  replace FR := Lib.hid (FR.out.fut k_w1)
  have BN := Lib.hid (show Blk w1 w.heap.size 24 #[.int .i64 k, .int .i64 n, .int .i64 d, .slice A m cap] by rw [← hw_w1]; exact Blk.now _ _ _ _ rfl)
  clear k_w1
  have k0 := BN.out.cell 0; have k1 := BN.out.cell 1; have k2 := BN.out.cell 2; have k3 := BN.out.cell 3; simp only [List.getElem?_toArray, List.getElem?_cons_succ, List.getElem?_cons_zero] at k0 k1 k2 k3
  cases r with
  | false =>
    go_enter Tryd.func13, Tryd.ntmps13
    go_wp2_with (first | (refine wpList_load_row rfl 24 (.tmp 1) rfl w.heap.size rfl _ _ (0, 0) _ BN.out.heap Tryd.underlying24 rfl (by kernel_rfl) ?_) | (go_at_call 11; refine (RO.out _).mono ?_; rintro e w5 ⟨rfl, hb⟩; replace FR := Lib.hid (FR.out.fut hb); replace BN := Lib.hid (BN.out.fut hb); clear hb; (try clear k0); (try clear k1); (try clear k2); (try clear k3); have k0 := BN.out.cell 0; have k1 := BN.out.cell 1; have k2 := BN.out.cell 2; have k3 := BN.out.cell 3; simp only [List.getElem?_toArray, List.getElem?_cons_succ, List.getElem?_cons_zero] at k0 k1 k2 k3; clear hw_w1))
    go_ret
    exact ⟨by rw [HV.out] <;> rfl, FR.out.out⟩
  | true =>
    have HW2 := Lib.hid (HW.out rfl)
    rw [if_pos rfl] at HV
    have hk := HK.out rfl
    have HX := Lib.hid (fun w hs => ropHex_any A m cap l w hs (by have := HW2.out.1; have := LN.out; omega))
    have HZ := Lib.hid (show (strOfNums (hexB l)).size ≤ 32769 by rw [strOf_size]; have := hexB_len l; have := HW2.out.1; omega)
    obtain ⟨hx, hhx⟩ : ∃ x, strOfNums (hexB l) = x := ⟨_, rfl⟩
    rw [hhx] at HX HZ SV
    obtain ⟨sd, hsd⟩ : ∃ x : ByteArray, ⟨(Lib.itoa d).toArray⟩ = x := ⟨_, rfl⟩
    rw [hsd] at DD SD SV
    obtain ⟨sn, hsn⟩ : ∃ x : ByteArray, ⟨(Lib.itoa n).toArray⟩ = x := ⟨_, rfl⟩
    rw [hsn] at DN SN SV
    have z1 : ¬ 9223372036854775807 < s.size + 1 := by have := WS.out; omega
    have z2 : ¬ 9223372036854775807 < s.size + 1 + hx.size := by have := WS.out; have := HZ.out; omega
    have z3 : ¬ 9223372036854775807 < s.size + 1 + hx.size + 1 := by have := WS.out; have := HZ.out; omega
    have z4 : ¬ 9223372036854775807 < s.size + 1 + hx.size + 1 + sd.size := by have := WS.out; have := HZ.out; have := SD.out; omega
    have z5 : ¬ 9223372036854775807 < s.size + 1 + sn.size := by have := WS.out; have := SN.out; omega
    clear HW hhx hsd hsn
    have hk6 : k = 1 ∨ k = 2 ∨ (k = 3 ∨ k = 4 ∨ k = 5) ∨ k = 6 := by omega
    clear hk
    rcases hk6 with rfl | rfl | hk | rfl
    · replace SV := Lib.hid (show strsO ⟨1, n, d, l⟩ = [s, hx] from SV.out.trans rfl)
      rw [SV.out, joinB2] at HV
      go_enter Tryd.func13, Tryd.ntmps13
      go_wp2_with (first | (refine wpList_load_row rfl 24 (.tmp 1) rfl w.heap.size rfl _ _ (0, 0) _ BN.out.heap Tryd.underlying24 rfl (by kernel_rfl) ?_) | (go_at_call 11; refine (RO.out _).mono ?_; rintro e w5 ⟨rfl, hb⟩; replace FR := Lib.hid (FR.out.fut hb); replace BN := Lib.hid (BN.out.fut hb); clear hb; (try clear k0); (try clear k1); (try clear k2); (try clear k3); have k0 := BN.out.cell 0; have k1 := BN.out.cell 1; have k2 := BN.out.cell 2; have k3 := BN.out.cell 3; simp only [List.getElem?_toArray, List.getElem?_cons_succ, List.getElem?_cons_zero] at k0 k1 k2 k3; clear hw_w1) | (go_at_call 29; refine (WO.out _).mono ?_; rintro e w6 ⟨rfl, hb⟩; replace FR := Lib.hid (FR.out.fut hb); replace BN := Lib.hid (BN.out.fut hb); clear hb; (try clear k0); (try clear k1); (try clear k2); (try clear k3); have k0 := BN.out.cell 0; have k1 := BN.out.cell 1; have k2 := BN.out.cell 2; have k3 := BN.out.cell 3; simp only [List.getElem?_toArray, List.getElem?_cons_succ, List.getElem?_cons_zero] at k0 k1 k2 k3) | (go_at_call 21; refine (HX.out _ (HS.out.fut FR.out.out).all).mono ?_; rintro e w7 ⟨rfl, hb⟩; replace FR := Lib.hid (FR.out.fut hb); replace BN := Lib.hid (BN.out.fut hb); clear hb; (try clear k0); (try clear k1); (try clear k2); (try clear k3); have k0 := BN.out.cell 0; have k1 := BN.out.cell 1; have k2 := BN.out.cell 2; have k3 := BN.out.cell 3; simp only [List.getElem?_toArray, List.getElem?_cons_succ, List.getElem?_cons_zero] at k0 k1 k2 k3))
      go_ret
      exact ⟨by rw [HV.out] <;> rfl, FR.out.out⟩
    · replace SV := Lib.hid (show strsO ⟨2, n, d, l⟩ = [s, hx, sd] from SV.out.trans rfl)
      rw [SV.out, joinB3] at HV
      go_enter Tryd.func13, Tryd.ntmps13
      go_wp2_with (first | (refine wpList_load_row rfl 24 (.tmp 1) rfl w.heap.size rfl _ _ (0, 0) _ BN.out.heap Tryd.underlying24 rfl (by kernel_rfl) ?_) | (go_at_call 11; refine (RO.out _).mono ?_; rintro e w5 ⟨rfl, hb⟩; replace FR := Lib.hid (FR.out.fut hb); replace BN := Lib.hid (BN.out.fut hb); clear hb; (try clear k0); (try clear k1); (try clear k2); (try clear k3); have k0 := BN.out.cell 0; have k1 := BN.out.cell 1; have k2 := BN.out.cell 2; have k3 := BN.out.cell 3; simp only [List.getElem?_toArray, List.getElem?_cons_succ, List.getElem?_cons_zero] at k0 k1 k2 k3; clear hw_w1) | (go_at_call 29; refine (WO.out _).mono ?_; rintro e w6 ⟨rfl, hb⟩; replace FR := Lib.hid (FR.out.fut hb); replace BN := Lib.hid (BN.out.fut hb); clear hb; (try clear k0); (try clear k1); (try clear k2); (try clear k3); have k0 := BN.out.cell 0; have k1 := BN.out.cell 1; have k2 := BN.out.cell 2; have k3 := BN.out.cell 3; simp only [List.getElem?_toArray, List.getElem?_cons_succ, List.getElem?_cons_zero] at k0 k1 k2 k3) | (go_at_call 21; refine (HX.out _ (HS.out.fut FR.out.out).all).mono ?_; rintro e w7 ⟨rfl, hb⟩; replace FR := Lib.hid (FR.out.fut hb); replace BN := Lib.hid (BN.out.fut hb); clear hb; (try clear k0); (try clear k1); (try clear k2); (try clear k3); have k0 := BN.out.cell 0; have k1 := BN.out.cell 1; have k2 := BN.out.cell 2; have k3 := BN.out.cell 3; simp only [List.getElem?_toArray, List.getElem?_cons_succ, List.getElem?_cons_zero] at k0 k1 k2 k3) | (go_at_call 23; refine (DD.out _).mono ?_; rintro e w8 ⟨rfl, hb⟩; replace FR := Lib.hid (FR.out.fut hb); replace BN := Lib.hid (BN.out.fut hb); clear hb; (try clear k0); (try clear k1); (try clear k2); (try clear k3); have k0 := BN.out.cell 0; have k1 := BN.out.cell 1; have k2 := BN.out.cell 2; have k3 := BN.out.cell 3; simp only [List.getElem?_toArray, List.getElem?_cons_succ, List.getElem?_cons_zero] at k0 k1 k2 k3))
      go_ret
      exact ⟨by rw [HV.out] <;> rfl, FR.out.out⟩
    · rcases hk with rfl | rfl | rfl
      all_goals
        replace SV := Lib.hid (show strsO _ = [s, sn] from SV.out.trans rfl)
        rw [SV.out, joinB2] at HV
        go_enter Tryd.func13, Tryd.ntmps13
        go_wp2_with (first | (refine wpList_load_row rfl 24 (.tmp 1) rfl w.heap.size rfl _ _ (0, 0) _ BN.out.heap Tryd.underlying24 rfl (by kernel_rfl) ?_) | (go_at_call 11; refine (RO.out _).mono ?_; rintro e w5 ⟨rfl, hb⟩; replace FR := Lib.hid (FR.out.fut hb); replace BN := Lib.hid (BN.out.fut hb); clear hb; (try clear k0); (try clear k1); (try clear k2); (try clear k3); have k0 := BN.out.cell 0; have k1 := BN.out.cell 1; have k2 := BN.out.cell 2; have k3 := BN.out.cell 3; simp only [List.getElem?_toArray, List.getElem?_cons_succ, List.getElem?_cons_zero] at k0 k1 k2 k3; clear hw_w1) | (go_at_call 29; refine (WO.out _).mono ?_; rintro e w6 ⟨rfl, hb⟩; replace FR := Lib.hid (FR.out.fut hb); replace BN := Lib.hid (BN.out.fut hb); clear hb; (try clear k0); (try clear k1); (try clear k2); (try clear k3); have k0 := BN.out.cell 0; have k1 := BN.out.cell 1; have k2 := BN.out.cell 2; have k3 := BN.out.cell 3; simp only [List.getElem?_toArray, List.getElem?_cons_succ, List.getElem?_cons_zero] at k0 k1 k2 k3) | (go_at_call 23; refine (DN.out _).mono ?_; rintro e w8 ⟨rfl, hb⟩; replace FR := Lib.hid (FR.out.fut hb); replace BN := Lib.hid (BN.out.fut hb); clear hb; (try clear k0); (try clear k1); (try clear k2); (try clear k3); have k0 := BN.out.cell 0; have k1 := BN.out.cell 1; have k2 := BN.out.cell 2; have k3 := BN.out.cell 3; simp only [List.getElem?_toArray, List.getElem?_cons_succ, List.getElem?_cons_zero] at k0 k1 k2 k3))
        go_ret
        exact ⟨by rw [HV.out] <;> rfl, FR.out.out⟩
    · replace SV := Lib.hid (show strsO ⟨6, n, d, l⟩ = [s] from SV.out.trans rfl)
      rw [SV.out, joinB1] at HV
      go_enter Tryd.func13, Tryd.ntmps13
      go_wp2_with (first | (refine wpList_load_row rfl 24 (.tmp 1) rfl w.heap.size rfl _ _ (0, 0) _ BN.out.heap Tryd.underlying24 rfl (by kernel_rfl) ?_) | (go_at_call 11; refine (RO.out _).mono ?_; rintro e w5 ⟨rfl, hb⟩; replace FR := Lib.hid (FR.out.fut hb); replace BN := Lib.hid (BN.out.fut hb); clear hb; (try clear k0); (try clear k1); (try clear k2); (try clear k3); have k0 := BN.out.cell 0; have k1 := BN.out.cell 1; have k2 := BN.out.cell 2; have k3 := BN.out.cell 3; simp only [List.getElem?_toArray, List.getElem?_cons_succ, List.getElem?_cons_zero] at k0 k1 k2 k3; clear hw_w1) | (go_at_call 29; refine (WO.out _).mono ?_; rintro e w6 ⟨rfl, hb⟩; replace FR := Lib.hid (FR.out.fut hb); replace BN := Lib.hid (BN.out.fut hb); clear hb; (try clear k0); (try clear k1); (try clear k2); (try clear k3); have k0 := BN.out.cell 0; have k1 := BN.out.cell 1; have k2 := BN.out.cell 2; have k3 := BN.out.cell 3; simp only [List.getElem?_toArray, List.getElem?_cons_succ, List.getElem?_cons_zero] at k0 k1 k2 k3))
      go_ret
      exact ⟨by rw [HV.out] <;> rfl, FR.out.out⟩
end Go.Proofs.YthnhknomjepijaaDoor
