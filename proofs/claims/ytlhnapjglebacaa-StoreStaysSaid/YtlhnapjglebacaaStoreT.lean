/-
  The document's requests: Count and Set; a whole row of any elements appended to one's own (layer 42).
  Conditions: fewer than 2^39 requests.
-/
import Derived.Test.YtlhnapjglebacaaChecked
import Derived.Test.YtlhnapjglebacaaStoreS
namespace Go.Proofs.Ytlhnapjglebacaa
set_option linter.unusedVariables false
set_option linter.unusedSimpArgs false
open Go.RowKit Go.ChangeShapes Go.WideShapes
set_option maxRecDepth 100000
set_option maxHeartbeats 2000000

theorem many_take {l : List Req} {st : Int} {k : Nat} {r : Req} (h : l[k]? = some r) : many (l.take (k + 1)) st = many (l.take k) st + (if r.state == st then 1 else 0) := by
  unfold many
  rw [take_snoc l k r h, List.countP_append]
  by_cases hs : (r.state == st) = true
  · rw [if_pos hs]; simp [hs]
  · rw [if_neg hs]; simp at hs; simp [hs]

theorem refCount_any (A : Option Addr) (n c : Nat) (l : List Req) (st : Int) (w : World) (h : Sl tQ w (blo w.heap.size) A n c l) (hk : n < 549755813888) :
    Calls Try.prog 58 #[.slice A n c, .int .i64 st] w fun e w' => e = .returned (.int .i64 (many l st)) ∧ Below w.heap.size w w' := by
  have H := Lib.hid h
  obtain ⟨T, hT⟩ : ∃ T, many l st = T := ⟨_, rfl⟩
  rw [hT]
  have HT := Lib.hid hT
  clear h hT
  go_enter Try.func58, Try.ntmps58
  go_wp2_with fail
  go_loopw [5, 6] (fun v i wr => ∃ k : Nat, k ≤ n ∧ i = .int .i64 k ∧ (∃ q : Nat, v = .int .i64 q ∧ q ≤ k ∧ q = many (l.take k) st) ∧ Below w.heap.size w wr) (fun _ i _ => n - (intOf i).toNat)
  case atStart => exact ⟨0, Nat.zero_le _, rfl, ⟨0, rfl, Nat.le_refl _, rfl⟩, Below.refl _ _⟩
  case round =>
    obtain ⟨k, hk2, rfl, ⟨q, rfl, hq1, hq⟩, hb⟩ := hrel
    have HB := Lib.hid hb
    by_cases hlt : k < n
    · have t1 : decide ((k : Int) < (n : Int)) = true := by simp; omega
      obtain ⟨r, b, off, X, x, xc, Y, y, yc, L, nl, cl, hx, rfl, _, _, _, _, hcell⟩ := (H.out.later hb (Nat.le_refl _)).q_at k hlt
      have c0 : wr.cell? ⟨b, off + k * 22, none⟩ = some (.int .i64 r.state) := hcell 0 _ rfl
      have hs := Lib.hid (many_take (st := st) hx)
      have HQ := Lib.hid hq
      obtain ⟨sv, hsv⟩ : ∃ sv, r.state = sv := ⟨_, rfl⟩
      rw [hsv] at c0 hs
      have p1 : (k : Int) < (n : Int) := by omega
      clear hb hx hcell hsv hlt hq
      by_cases e : sv = st
      · have te : (sv == st) = true := by simp [e]
        have HE := Lib.hid te
        clear e
        go_wp2_with fail
        exact ⟨⟨k + 1, by omega, by go_num, ⟨q + 1, by go_num, by omega, by have := hs.out; rw [HE.out] at this; have := HQ.out; simp at *; omega⟩, HB.out⟩, by simp [intOf]; omega⟩
      · have te : (sv == st) = false := by simp [e]
        have HE := Lib.hid te
        clear e
        go_wp2_with fail
        exact ⟨⟨k + 1, by omega, by go_num, ⟨q, by go_num, by omega, by have := hs.out; rw [HE.out] at this; have := HQ.out; simp at *; omega⟩, HB.out⟩, by simp [intOf]; omega⟩
    · obtain rfl : k = n := by omega
      have t1 : decide ((k : Int) < (k : Int)) = false := by simp
      rw [List.take_of_length_le (Nat.le_of_eq H.out.n_eq)] at hq
      obtain rfl : q = T := by rw [hq]; exact HT.out
      clear hb hlt hq
      go_wp2_with fail
      go_ret
      exact ⟨rfl, HB.out⟩

/-! ### A whole row appended -/
theorem Sl.rows {α : Type} {t : Ty α} {w : World} {S : Nat → Prop} {A : Option Addr} {n cap : Nat} {l : List α} (h : Sl t w S A n cap l) (hp : 0 < t.size) :
    ∀ k, k ≤ n → ∃ vs, RowsOf t w S vs (l.take k) ∧ vs.length = k * t.size ∧ ∀ j u, vs[j]? = some u → ∃ b off, A = some ⟨b, off, none⟩ ∧ w.cell? ⟨b, off + j, none⟩ = some u
  | 0, _ => ⟨[], rfl, by simp, by simp⟩
  | k + 1, hk => by
    obtain ⟨vs, h1, h2, h3⟩ := Sl.rows h hp k (by omega)
    obtain ⟨x, b, off, xs, hx, hA, _, _, hr, hl, hc⟩ := h.cells k (by omega) hp
    refine ⟨vs ++ xs, by rw [take_snoc l k x hx]; exact h1.snoc hr, by simp [h2, hl, Nat.add_mul], fun j u hu => ?_⟩
    by_cases hj : j < vs.length
    · rw [List.getElem?_append_left hj] at hu
      exact h3 j u hu
    · rw [List.getElem?_append_right (by omega)] at hu
      refine ⟨b, off, hA, ?_⟩
      have hcell := hc (j - vs.length) u hu
      have e : off + (k * t.size + (j - vs.length)) = off + j := by omega
      rw [e] at hcell
      exact hcell

section
variable {α : Type} {t : Ty α} {P : Program} {ops : Array Oper} {rest : List Oper} {o : Oper} {a : Act} {Q : Go.Exit → Act → World → Prop} {T E : TypeId} {z : Value} {bytes base n m c : Nat} {v : Value} {l l2 : List α} {A : Option Addr} {S S' : Nat → Prop}

/-- 'append(l, r...)' where l is the call's own, as a law on the operation. -/
theorem oper_extend {K : Act → World → Prop} {W : World} (s x : Operand) (ho : o.op = .call { callee := .builtin .append, args := #[s, x], argTypes := #[T, T] }) (ei : EI P T E z t.size bytes)
    (hs : a.eval s = v) (own : Own t W S base E v n l) (hx : a.eval x = .slice A m c) (sl : Sl t W S' A m c l2) (hS' : ∀ b, S' b → S b)
    (h63 : n + m ≤ maxLen) (hbytes : (n + m) * bytes ≤ 140737488355328) (hbase : base ≤ W.heap.size) (hin : ∀ b, S b → b < W.heap.size ∧ some b ≠ v.ownBlock)
    (h : ∀ v' w', Own t w' S base E v' (n + m) (l ++ l2) → W.grownBy w' v.ownBlock → (v'.ownBlock = v.ownBlock ∨ v'.ownBlock = some W.heap.size) → K (a.put o.dst v') w') : o.wp P a W K Q := by
  obtain ⟨i, hi, hz0, hz1, hz2⟩ := info_parts ei.hi
  obtain ⟨vs, h1, h2⟩ := own.out
  have hl2 := sl.n_eq
  obtain ⟨us, r1, r2, r3⟩ := sl.rows ei.hp m (Nat.le_refl _)
  rw [List.take_of_length_le (Nat.le_of_eq hl2)] at r1
  have one : ∀ {α : Type} {t : Ty α} {w : World} {S : Nat → Prop} {l : List α} {vs : List Value}, RowsOf t w S vs l → ∀ u ∈ vs, u.oneCell' = true := by
    intro α t w S l
    induction l with
    | nil => intro vs hr u hu; cases hr; cases hu
    | cons y l ih =>
      rintro vs ⟨ys, vs', rfl, hy, hr⟩ u hu
      rcases List.mem_append.1 hu with hu | hu
      · exact t.one hy u hu
      · exact ih hr u hu
  have more : ∀ {w' : World}, W.grownBy w' v.ownBlock → RowsOf t w' S us l2 := fun hg => (r1.more hS').keep fun b hb => hg.block b (hin b hb).1 (hin b hb).2
  cases A with
  | none =>
    have hc := sl.nil_ rfl
    have hm := sl.cap_le
    obtain rfl : c = 0 := hc
    obtain rfl : m = 0 := by omega
    obtain rfl : l2 = [] := List.length_eq_zero_iff.1 hl2
    have hrun := run_append_owned_none (P := P) (w := W) base T o.type E i t.size ei.ht hi v n vs h1
    unfold Oper.wp
    simp [execOp, ho, resolve, invoke, builtin, hs, hx, hrun, Result.andThen]
    refine h v W ?_ ⟨rfl, rfl, rfl, Nat.le_refl _, fun _ _ _ => rfl⟩ (.inl rfl)
    rw [List.append_nil]
    exact own
  | some ad =>
    have hnews : ∀ j u, us[j]? = some u → W.cell? (ad.add j) = some u := by
      intro j u hu
      obtain ⟨b, off, hA, hcell⟩ := r3 j u hu
      cases hA
      have hadd : (⟨b, off, none⟩ : Addr).add j = ⟨b, off + j, none⟩ := by unfold Addr.add; split <;> simp_all
      rw [hadd]
      exact hcell
    obtain ⟨v', w', hrun, k1, k2, _, k3⟩ := run_append_own_at (P := P) W base T o.type E i z t.size bytes ei.ht hi hz0 hz1 hz2 ei.hz ei.hp v n vs h1 ad m c us r2 hnews (one r1) h63 hbytes hbase
    unfold Oper.wp execOp
    simp only [ho, resolve, invoke, builtin, Sem.run_bind, Sem.run_pure, Result.andThen_ok, List.map_toArray, List.map_cons, List.map_nil, hs, hx, hrun]
    exact h v' w' ⟨vs ++ us, k1, (h2.keep fun b hb => k2.block b (hin b hb).1 (hin b hb).2).append (more k2)⟩ k2 k3

theorem wpList_extend_rows {W : World} (hgd : o.guard = none) (s x : Operand) (ho : o.op = .call { callee := .builtin .append, args := #[s, x], argTypes := #[T, T] }) (ei : EI P T E z t.size bytes)
    (hs : a.eval s = v) (own : Own t W S base E v n l) (hx : a.eval x = .slice A m c) (sl : Sl t W S' A m c l2) (hS' : ∀ b, S' b → S b)
    (h63 : n + m ≤ maxLen) (hbytes : (n + m) * bytes ≤ 140737488355328) (hbase : base ≤ W.heap.size) (hin : ∀ b, S b → b < W.heap.size ∧ some b ≠ v.ownBlock)
    (h : ∀ v' w', Own t w' S base E v' (n + m) (l ++ l2) → W.grownBy w' v.ownBlock → (v'.ownBlock = v.ownBlock ∨ v'.ownBlock = some W.heap.size) → wpList P ops Q rest (a.put o.dst v') w') : wpList P ops Q (o :: rest) a W :=
  wpList_plain hgd fun K hK => oper_extend s x ho ei hs own hx sl hS' h63 hbytes hbase hin fun v' w' h1 h2 h3 => hK _ _ (h v' w' h1 h2 h3)
end
end Go.Proofs.Ytlhnapjglebacaa
