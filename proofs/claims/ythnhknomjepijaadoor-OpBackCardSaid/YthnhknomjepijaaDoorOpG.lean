/-
  A text cut (layer 44): op.words, the document's Cut.
  Conditions: at most 2^40 bytes.
-/
import Derived.Test.YthnhknomjepijaaDoorOpB
import Derived.Test.YthnhknomjepijaaDoorOpF
import Derived.Lib.OthersKept
namespace Go.Proofs.YthnhknomjepijaaDoor
set_option linter.unusedVariables false
set_option linter.unusedSimpArgs false
open Go.RowKit Go.ChangeShapes Go.WideShapes
set_option maxRecDepth 100000
set_option maxHeartbeats 4000000

theorem ei_str : EI Tryd.prog 46 9 (.string ⟨#[]⟩) 1 16 := ⟨Tryd.underlying46, by kernel_rfl, rfl, by decide⟩
theorem sub_in (s : ByteArray) (a b : Nat) (h : s.size ≤ 1099511627776) : (s.extract a b).size ≤ maxLen := by rw [ByteArray.size_extract]; unfold maxLen; omega
theorem grown_iter (w : World) (k : Nat) (s : ByteArray) (p : Nat) : w.grownBy (w.iterAt k s p) (some k) :=
  ⟨rfl, rfl, rfl, by rw [Lib.iterAt_size]; exact Nat.le_refl _, fun i _ hne => Lib.iterAt_other w k i s p (fun e => hne (by rw [e]))⟩
theorem opWords_any (s : ByteArray) (w : World) (hn : s.size ≤ 1099511627776) :
    Calls Tryd.prog 28 #[.string s] w (RetSl tStr w (cutS s 32)) := by
  have SI := Lib.hid (fun a b => sub_in s a b hn)
  have HC := Lib.hid (show cutS s 32 = (cutK s 32 s.size).1 ++ [s.extract (cutK s 32 s.size).2 s.size] from rfl)
  obtain ⟨N, hN⟩ : ∃ N, s.size = N := ⟨_, rfl⟩
  have KL := Lib.hid (cutK_le s 32)
  have HN := Lib.hid hN
  rw [hN] at HC hn
  obtain ⟨w1, hw1⟩ : ∃ w1, w.iter s 0 = w1 := ⟨_, rfl⟩
  have H1 := Lib.hid (show w1.heap[w.heap.size]? = some (.stringIter s 0) by rw [← hw1]; exact World.iter_heap w s 0)
  have B1 := Lib.hid (show Below w.heap.size w w1 by rw [← hw1]; exact (Below.refl _ w).alloc (Nat.le_refl _) _)
  clear hN
  go_enter Tryd.func28, Tryd.ntmps28
  go_wp2_with fail
  go_loopw [3, 4] (fun u ff wr => ∃ (pos n from' : Nat) (l : List ByteArray), pos ≤ N ∧ cutK s 32 pos = (l, from') ∧ ff = .int .i64 from' ∧ Own tStr wr (fun _ => False) (w.heap.size + 1) 9 u n l ∧ wr.heap[w.heap.size]? = some (.stringIter s pos) ∧ Below w.heap.size w wr) (fun _ _ wr => N - wr.iterPos w.heap.size)
  case atStart => exact ⟨0, 0, 0, [], Nat.zero_le _, rfl, rfl, Own.nil _ _ _ _ _, H1.out, B1.out⟩
  case round =>
    obtain ⟨pos, n, from', l, hp, hk, rfl, hown, hit, hb⟩ := hrel
    have ON := Lib.hid hown
    have KL2 := Lib.hid (show from' ≤ pos ∧ l.length ≤ pos by have h := KL.out pos; rw [hk] at h; exact h)
    have LN := Lib.hid (hown.length (by decide))
    have HK := Lib.hid hk
    have HB := Lib.hid hb
    have IT := Lib.hid hit
    have IP := Lib.hid (show wr.iterPos w.heap.size = pos by simp only [World.iterPos, hit])
    have SZ := Lib.hid (show w.heap.size < wr.heap.size from (Array.getElem?_eq_some_iff.1 hit).1)
    clear hown hk hb
    by_cases hlt : pos < N
    · have hps : pos < s.size := by have := HN.out; omega
      have RS := Lib.hid (rune_step s pos hps)
      obtain ⟨r, hr⟩ : ∃ r, (Utf8.decode s pos).1 = r := ⟨_, rfl⟩
      obtain ⟨d, hd⟩ : ∃ d, (Utf8.decode s pos).2 = d := ⟨_, rfl⟩
      obtain ⟨w2, hw2⟩ : ∃ w2, wr.iterAt w.heap.size s (pos + d) = w2 := ⟨_, rfl⟩
      have hnx : ∀ ty, (Instr.next (.pointer (some ⟨w.heap.size, 0, none⟩)) true ty).run Tryd.prog wr = .ok (.tuple #[.bool true, .int .i64 pos, .int .i32 r]) w2 := fun ty => by
        rw [Lib.run_next_any_at wr w.heap.size s pos ty hit hps, hr, hd, hw2]
      rw [hr, hd] at RS
      have GI := grown_iter wr w.heap.size s (pos + d)
      rw [hw2] at GI
      have HN2 := Lib.hid (show ∀ k, u3.ownBlock = some k → k ≠ w.heap.size from fun k h e => by have := (ON.out.lt k h).1; omega)
      have ON2 := Lib.hid (ON.out.flat GI (by cases q : u3.ownBlock with | none => exact .inl rfl | some k => exact .inr (fun e => HN2.out k q (Option.some.inj e))) (fun b h => h.elim))
      have HB2 := Lib.hid (show Below w.heap.size w w2 by rw [← hw2]; exact Lib.below_iterAt HB.out (Nat.le_refl _) s _)
      have IT2 := Lib.hid (show w2.heap[w.heap.size]? = some (.stringIter s (pos + d)) by rw [← hw2]; exact Lib.iterAt_heap wr _ s pos _ hit)
      have SZ2 := Lib.hid (show w.heap.size + 1 ≤ w2.heap.size by have := (Array.getElem?_eq_some_iff.1 IT2.out).1; omega)
      have PB := Lib.hid (show pos + d ≤ N ∧ 1 ≤ d by have := RS.out; have := HN.out; omega)
      clear hr hd hw2 hit GI
      by_cases c : r = 32
      · have RS2 := Lib.hid RS.out.2.2
        rw [if_pos c] at RS2
        have t1 : ((r : Int) == 32) = true := by simp [c]
        obtain ⟨pc, hpc⟩ : ∃ pc, s.extract from' pos = pc := ⟨_, rfl⟩
        have PI := Lib.hid (show pc.size ≤ maxLen by rw [← hpc]; exact SI.out _ _)
        have hsl : ∀ wx, (Instr.slice 9 (.string s) (some (.int .i64 from')) (some (.int .i64 pos)) none).run Tryd.prog wx = .ok (.string pc) wx := fun wx => by
          rw [run_slice_string wx 9 s .i64 .i64 from' pos Tryd.underlying9 (by omega) (by have := KL2.out.1; omega) (by omega), ← hpc]; rfl
        have HK2 := Lib.hid (show cutK s 32 (pos + 1) = (l ++ [pc], pos + 1) by rw [cutK_hit RS2.out.1, HK.out, ← hpc])
        have D1 := Lib.hid RS2.out.2
        have gi : IntKind.i64.wrap ((pos : Int) + 1) = ((pos + 1 : Nat) : Int) := (IntWalk.i64_in _ (by omega)).trans (by simp)
        clear c hpc
        go_wp2_with (at_builtin; refine wpList_push (t := tStr) rfl _ _ rfl ei_str (v := u3) rfl ON2.out 1 rfl pc ⟨rfl, PI.out⟩ (by have := KL2.out.2; have := LN.out; unfold maxLen; omega) (by have := KL2.out.2; have := LN.out; omega) SZ2.out (fun _ h => h.elim) ?_; intro v6 w6 o6 g6 at6)
        have IT6 : w6.heap[w.heap.size]? = some (.stringIter s (pos + d)) := by
          rw [g6.block _ (by have := SZ2.out; omega) (fun e => HN2.out _ e.symm rfl)]; exact IT2.out
        have HB6 : Below w.heap.size w w6 := HB2.out.grown g6 (by have := SZ2.out; omega) (fun k h => by have := (ON.out.lt k h).1; omega)
        refine ⟨⟨pos + 1, n + 1, pos + 1, l ++ [pc], by omega, HK2.out, by go_num, o6, by rw [IT6, D1.out], HB6⟩, ?_⟩
        rw [IP.out]
        simp only [World.iterPos, IT6, D1.out]
        omega
      · have RS2 := Lib.hid RS.out.2.2
        rw [if_neg c] at RS2
        have t1 : ((r : Int) == 32) = false := by simpa using fun h => c (by omega)
        clear c
        go_wp2_with fail
        refine ⟨⟨pos + d, n, from', l, PB.out.1, RS2.out.trans HK.out, rfl, ON2.out, IT2.out, HB2.out⟩, ?_⟩
        rw [IP.out]
        simp only [World.iterPos, IT2.out]
        have := PB.out
        omega
    · obtain rfl : pos = N := by omega
      have hnx : ∀ ty, (Instr.next (.pointer (some ⟨w.heap.size, 0, none⟩)) true ty).run Tryd.prog wr = .ok (.tuple #[.bool false]) wr := fun ty => Lib.run_next_end_at wr w.heap.size s pos ty hit (by have := HN.out; omega)
      obtain ⟨pc, hpc⟩ : ∃ pc, s.extract from' pos = pc := ⟨_, rfl⟩
      have PI := Lib.hid (show pc.size ≤ maxLen by rw [← hpc]; exact SI.out _ _)
      have hsl : ∀ wx, (Instr.slice 9 (.string s) (some (.int .i64 from')) none none).run Tryd.prog wx = .ok (.string pc) wx := fun wx => by
        rw [run_slice_string_l wx 9 s Tryd.underlying9 .i64 from' (by omega) (by have := KL2.out.1; have := HN.out; omega), ← hpc, HN.out]; rfl
      rw [HK.out, hpc] at HC
      clear hpc hit
      go_wp2_with (at_builtin; refine wpList_push (t := tStr) rfl _ _ rfl ei_str (v := u3) rfl ON.out 1 rfl pc ⟨rfl, PI.out⟩ (by have := KL2.out.2; have := LN.out; unfold maxLen; omega) (by have := KL2.out.2; have := LN.out; omega) SZ.out (fun _ h => h.elim) ?_; intro v6 w6 o6 g6 at6)
      have HB6 : Below w.heap.size w w6 := HB.out.grown g6 (by have := SZ.out; omega) (fun k h => by have := (ON.out.lt k h).1; omega)
      obtain ⟨A1, c1, rfl, sl⟩ := o6.sl (S' := bin w.heap.size w6.heap.size) (by decide) (fun b h1 h2 => ⟨by omega, h2⟩) (fun _ h => h.elim)
      go_ret
      rw [HC.out]
      exact ⟨A1, n + 1, c1, rfl, sl, HB6⟩

theorem ropCut_any (s : ByteArray) (c : Int) (w : World) (hn : s.size ≤ 1099511627776) :
    Calls Tryd.prog 25 #[.string s, .int .u8 c] w (RetSl tStr w (cutS s c)) := by
  have SI := Lib.hid (fun a b => sub_in s a b hn)
  have HC := Lib.hid (show cutS s c = (cutK s c s.size).1 ++ [s.extract (cutK s c s.size).2 s.size] from rfl)
  obtain ⟨N, hN⟩ : ∃ N, s.size = N := ⟨_, rfl⟩
  have KL := Lib.hid (cutK_le s c)
  have HN := Lib.hid hN
  have FR := Lib.hid (Far.refl w)
  rw [hN] at HC hn
  go_enter Tryd.func25, Tryd.ntmps25
  go_wp2_with fail
  go_loopw [5, 6, 7] (fun u ff ii wr => ∃ (i n from' : Nat) (l : List ByteArray), i ≤ N + 1 ∧ (i ≤ N → cutK s c i = (l, from')) ∧ (i = N + 1 → l = cutS s c) ∧ ff = .int .i64 from' ∧ ii = .int .i64 i ∧ Own tStr wr (fun _ => False) w.heap.size 9 u n l ∧ Below w.heap.size w wr) (fun _ _ ii _ => N + 1 - (intOf ii).toNat)
  case atStart => exact ⟨0, 0, 0, [], Nat.zero_le _, fun _ => rfl, fun h => by omega, rfl, rfl, Own.nil _ _ _ _ _, FR.out.out⟩
  case round =>
    obtain ⟨i, n, from', l, hi, hk, hf, rfl, rfl, hown, hb⟩ := hrel
    have ON := Lib.hid hown
    have LN := Lib.hid (hown.length (by decide))
    have HB := Lib.hid hb
    clear hown hb
    by_cases hlt : i ≤ N
    · have HK := Lib.hid (hk hlt)
      have KL2 := Lib.hid (show from' ≤ i ∧ l.length ≤ i by have h := KL.out i; rw [HK.out] at h; exact h)
      have gi : IntKind.i64.wrap ((i : Int) + 1) = ((i + 1 : Nat) : Int) := (IntWalk.i64_in _ (by omega)).trans (by simp)
      have p1 : (i : Int) ≤ (N : Int) := by omega
      clear hk hf
      by_cases e : i = N
      · have t1 : ((i : Int) == (N : Int)) = true := by simp [e]
        have EN := Lib.hid e
        clear e
        obtain ⟨pc, hpc⟩ : ∃ pc, s.extract from' i = pc := ⟨_, rfl⟩
        have PI := Lib.hid (show pc.size ≤ maxLen by rw [← hpc]; exact SI.out _ _)
        have hsl : ∀ wx, (Instr.slice 9 (.string s) (some (.int .i64 from')) (some (.int .i64 i)) none).run Tryd.prog wx = .ok (.string pc) wx := fun wx => by
          rw [run_slice_string wx 9 s .i64 .i64 from' i Tryd.underlying9 (by omega) (by have := KL2.out.1; omega) (by have := HN.out; omega), ← hpc]; rfl
        have HC2 := Lib.hid (show l ++ [pc] = cutS s c by rw [HC.out, ← EN.out, HK.out, ← hpc])
        clear hpc
        go_wp2_with (at_builtin; refine wpList_push (t := tStr) rfl _ _ rfl ei_str (v := u5) rfl ON.out 1 rfl pc ⟨rfl, PI.out⟩ (by have := KL2.out.2; have := LN.out; unfold maxLen; omega) (by have := KL2.out.2; have := LN.out; omega) HB.out.size (fun _ h => h.elim) ?_; intro v6 w6 o6 g6 at6)
        have HB6 : Below w.heap.size w w6 := HB.out.grown g6 HB.out.size (fun k h => (ON.out.lt k h).1)
        exact ⟨⟨i + 1, n + 1, i + 1, l ++ [pc], by have := EN.out; omega, fun h => by have := EN.out; omega, fun _ => HC2.out, by go_num, by go_num, o6, HB6⟩, by simp [intOf]; omega⟩
      · have t1 : ((i : Int) == (N : Int)) = false := by simp; omega
        have his : i < s.size := by have := HN.out; omega
        have pj : (i : Int) < (N : Int) := by omega
        have NA := Lib.hid (nums_at his)
        have IL := Lib.hid (show i < N by omega)
        clear e
        by_cases h : ((s[i]'his).toNat : Int) = c
        · have t2 : (((s[i]'his).toNat : Int) == c) = true := by simpa using h
          have HK2 := Lib.hid (show cutK s c (i + 1) = (l ++ [s.extract from' i], i + 1) by rw [cutK_hit (by rw [← NA.out]; exact h), HK.out])
          clear h
          obtain ⟨pc, hpc⟩ : ∃ pc, s.extract from' i = pc := ⟨_, rfl⟩
          have PI := Lib.hid (show pc.size ≤ maxLen by rw [← hpc]; exact SI.out _ _)
          have hsl : ∀ wx, (Instr.slice 9 (.string s) (some (.int .i64 from')) (some (.int .i64 i)) none).run Tryd.prog wx = .ok (.string pc) wx := fun wx => by
            rw [run_slice_string wx 9 s .i64 .i64 from' i Tryd.underlying9 (by omega) (by have := KL2.out.1; omega) (by have := HN.out; omega), ← hpc]; rfl
          rw [hpc] at HK2
          clear hpc
          go_wp2_with (at_builtin; refine wpList_push (t := tStr) rfl _ _ rfl ei_str (v := u5) rfl ON.out 1 rfl pc ⟨rfl, PI.out⟩ (by have := KL2.out.2; have := LN.out; unfold maxLen; omega) (by have := KL2.out.2; have := LN.out; omega) HB.out.size (fun _ h => h.elim) ?_; intro v6 w6 o6 g6 at6)
          have HB6 : Below w.heap.size w w6 := HB.out.grown g6 HB.out.size (fun k h => (ON.out.lt k h).1)
          exact ⟨⟨i + 1, n + 1, i + 1, l ++ [pc], by have := IL.out; omega, fun _ => HK2.out, fun h => by have := IL.out; omega, by go_num, by go_num, o6, HB6⟩, by simp [intOf]; omega⟩
        · have t2 : (((s[i]'his).toNat : Int) == c) = false := by simpa using h
          have HK2 := Lib.hid (show cutK s c (i + 1) = (l, from') by rw [cutK_miss (by rw [← NA.out]; exact h), HK.out])
          clear h
          go_wp2_with fail
          exact ⟨⟨i + 1, n, from', l, by have := IL.out; omega, fun _ => HK2.out, fun h => by have := IL.out; omega, rfl, by go_num, ON.out, HB.out⟩, by simp [intOf]; omega⟩
    · have p1 : ¬ (i : Int) ≤ (N : Int) := by omega
      have RV := Lib.hid (hf (by omega))
      clear hk hf
      obtain ⟨A1, c1, rfl, sl⟩ := ON.out.sl (S' := bin w.heap.size wr.heap.size) (by decide) (fun b h1 h2 => ⟨h1, h2⟩) (fun _ h => h.elim)
      have SL := Lib.hid sl
      clear sl
      go_wp2_with fail
      go_ret
      rw [← RV.out]
      exact ⟨A1, n, c1, rfl, SL.out, HB.out⟩
end Go.Proofs.YthnhknomjepijaaDoor
