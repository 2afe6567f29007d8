/-
  Points as bytes (layer 37), in numbers: there and back.
  Conditions: none.
-/
import Derived.Test.YtanglfmolnfjeaaJ42
import Derived.Test.YtanglfmolnfjeaaJ43
namespace Go.Proofs.Ytanglfmolnfjeaa
set_option linter.unusedVariables false
set_option linter.unusedSimpArgs false
set_option maxRecDepth 100000

def Bytes (l : List Int) : Prop := ∀ x ∈ l, 0 ≤ x ∧ x ≤ 255
theorem Bytes.getD {l : List Int} (h : Bytes l) (i : Nat) : 0 ≤ l.getD i 0 ∧ l.getD i 0 ≤ 255 := by
  by_cases hi : i < l.length
  · rw [List.getD_eq_getElem?_getD, List.getElem?_eq_getElem hi]
    exact h _ (List.getElem_mem hi)
  · rw [List.getD_eq_getElem?_getD, List.getElem?_eq_none (by omega)]
    exact ⟨by decide, by decide⟩
theorem Bytes.drop {l : List Int} (h : Bytes l) (n : Nat) : Bytes (l.drop n) := fun x hx => h x (List.mem_of_mem_drop hx)

/-! ### Numbers -/
theorem lebTo_getD (y : Nat) (k : Nat) : ∀ j, j < k → (lebTo y k).getD j 0 = ((lebRest y j % 128 + 128 : Nat) : Int) := by
  induction k with
  | zero => intro j hj; omega
  | succ k ih =>
    intro j hj
    unfold lebTo
    by_cases e : j = k
    · subst e
      rw [List.getD_eq_getElem?_getD, List.getElem?_append_right (by rw [lebTo_length]; exact Nat.le_refl _), lebTo_length]
      simp
    · have h1 := ih j (by omega)
      rw [List.getD_eq_getElem?_getD] at h1 ⊢
      rw [List.getElem?_append_left (by rw [lebTo_length]; omega)]
      exact h1
theorem getD_left {l m : List Int} {j : Nat} (h : j < l.length) : (l ++ m).getD j 0 = l.getD j 0 := by
  rw [List.getD_eq_getElem?_getD, List.getD_eq_getElem?_getD, List.getElem?_append_left h]
theorem getD_mid {l m : List Int} {x : Int} : (l ++ [x] ++ m).getD l.length 0 = x := by
  rw [List.getD_eq_getElem?_getD, List.append_assoc, List.getElem?_append_right (Nat.le_refl _)]
  simp

theorem lebGetV_enc (y : Nat) (hy : y < 18446744073709551616) (rest : List Int) : lebGetV (lebV y ++ rest) = (y, (lebV y).length, 0) := by
  obtain ⟨s1, s2⟩ := lebLen_spec 9 y (Nat.lt_of_lt_of_le hy (by decide))
  have h9 := lebLen_le 9 y
  have hlen : (lebV y).length = lebLen y 9 + 1 := lebV_length y
  rw [hlen]
  unfold lebV
  generalize lebLen y 9 = k at *
  obtain ⟨l, hl⟩ : ∃ l, lebTo y k ++ [((lebRest y k : Nat) : Int)] ++ rest = l := ⟨_, rfl⟩
  rw [hl]
  have g1 : ∀ j, j < k → l.getD j 0 = ((lebRest y j % 128 + 128 : Nat) : Int) := fun j hj => by
    rw [← hl, getD_left (by rw [List.length_append, lebTo_length]; simp; omega), getD_left (by rw [lebTo_length]; exact hj)]
    exact lebTo_getD y k j hj
  have g2 : l.getD k 0 = ((lebRest y k : Nat) : Int) := by
    have := getD_mid (l := lebTo y k) (m := rest) (x := ((lebRest y k : Nat) : Int))
    rw [lebTo_length] at this
    rw [← hl]; exact this
  have hll : k < l.length := by rw [← hl]; simp [lebTo_length]
  rw [lebGetV_at h9 hll (by rw [g2]; omega) (fun j hj => by rw [g1 j hj]; omega), if_neg]
  · have hs : ∀ i, i ≤ k → lebSum l i = y % 128 ^ i := by
      intro i
      induction i with
      | zero => intro _; simp [lebSum, Nat.mod_one]
      | succ i ih =>
        intro hi
        rw [lebSum, ih (by omega), g1 i (by omega), Nat.mod_pow_succ]
        unfold lebRest
        have e : (((y / 128 ^ i % 128 + 128 : Nat) : Int) % 128).toNat = y / 128 ^ i % 128 := by omega
        rw [e, Nat.mul_comm]
    have : lebSum l (k + 1) = y := by
      rw [lebSum, hs k (Nat.le_refl _), g2]
      have e : (((lebRest y k : Nat) : Int) % 128).toNat = lebRest y k := by omega
      rw [e]
      unfold lebRest
      rw [Nat.mul_comm]
      exact Nat.mod_add_div y (128 ^ k)
    rw [this]
  · rintro (⟨rfl, h⟩ | ⟨h0, h⟩)
    · rw [g2] at h
      have : lebRest y 9 ≤ 1 := by
        unfold lebRest
        have e : (128 : Nat) ^ 9 = 9223372036854775808 := by decide
        rw [e]
        omega
      omega
    · rw [g2] at h
      have h1 := s1 (k - 1) (by omega)
      have h2 := lebRest_next y (k - 1)
      rw [show k - 1 + 1 = k by omega] at h2
      omega

theorem lebSum_mod (l : List Int) (i m : Nat) (h : i ≤ m) : lebSum l m % 128 ^ i = lebSum l i := by
  induction m with
  | zero =>
    obtain rfl : i = 0 := by omega
    simp [lebSum]
  | succ m ih =>
    by_cases e : i = m + 1
    · subst e
      exact Nat.mod_eq_of_lt (lebSum_lt l _)
    · rw [lebSum]
      have hd : 128 ^ i ∣ ((l.getD m 0) % 128).toNat * 128 ^ m := Nat.dvd_trans (Nat.pow_dvd_pow 128 (by omega)) (Nat.dvd_mul_left _ _)
      obtain ⟨q, hq⟩ := hd
      rw [hq, Nat.add_mul_mod_self_left]
      exact ih (by omega)
theorem digit_eq (l : List Int) (i m : Nat) (h : i < m) : lebSum l m / 128 ^ i % 128 = ((l.getD i 0) % 128).toNat := by
  have h1 := lebSum_mod l (i + 1) m (by omega)
  have h2 := lebSum_mod l i m (by omega)
  rw [Nat.mod_pow_succ, h2, lebSum, Nat.mul_comm] at h1
  have h3 : lebSum l m / 128 ^ i % 128 * 128 ^ i = ((l.getD i 0) % 128).toNat * 128 ^ i := by omega
  exact Nat.eq_of_mul_eq_mul_right (Nat.pow_pos (by decide)) h3

theorem lebGetV_dec {l : List Int} (hb : Bytes l) {v n : Nat} (h : lebGetV l = (v, n, 0)) : l.take n = lebV v ∧ v < 18446744073709551616 := by
  have hbd := lebGetV_bd l (fun i => (hb.getD i).1)
  rw [h] at hbd
  refine ⟨?_, hbd.1⟩
  clear hbd
  unfold lebGetV lebGet at h
  cases he : lebEnd l 10 0 with
  | none =>
    rw [he] at h
    simp only at h
    split at h <;> simp at h
  | some j =>
    rw [he] at h
    simp only at h
    split at h
    · simp at h
    · rename_i hn
      simp only [Prod.mk.injEq, and_true] at h
      obtain ⟨rfl, rfl⟩ := h
      obtain ⟨_, hj10, hjl, hsm, hbig⟩ := lebEnd_some 10 he
      have hr : ∀ i, i ≤ j → lebRest (lebSum l (j + 1)) i % 128 = ((l.getD i 0) % 128).toNat := fun i hi => digit_eq l i (j + 1) (by omega)
      have hlt : lebRest (lebSum l (j + 1)) j < 128 := by
        unfold lebRest
        rw [Nat.div_lt_iff_lt_mul (Nat.pow_pos (by decide)), Nat.mul_comm, ← Nat.pow_succ]
        exact lebSum_lt l (j + 1)
      have hbj := hb.getD j
      have hge : ∀ i, i < j → 128 ≤ lebRest (lebSum l (j + 1)) i := by
        intro i hi
        unfold lebRest
        rw [Nat.le_div_iff_mul_le (Nat.pow_pos (by decide)), Nat.mul_comm, ← Nat.pow_succ]
        have hne : l.getD j 0 ≠ 0 := fun c => hn (.inr ⟨by omega, c⟩)
        have h1 : 1 ≤ ((l.getD j 0) % 128).toNat := by omega
        have h2 : 128 ^ j ≤ lebSum l (j + 1) := by
          rw [lebSum]
          have := Nat.mul_le_mul_right (128 ^ j) h1
          omega
        exact Nat.le_trans (Nat.pow_le_pow_right (by decide) (by omega)) h2
      have hv : lebSum l (j + 1) < 128 ^ (9 + 1) := Nat.lt_of_lt_of_le (lebSum_lt l (j + 1)) (Nat.pow_le_pow_right (by decide) (by omega))
      obtain ⟨p1, p2⟩ := lebLen_spec 9 _ hv
      have hk : lebLen (lebSum l (j + 1)) 9 = j := by
        rcases Nat.lt_trichotomy (lebLen (lebSum l (j + 1)) 9) j with c | c | c
        · have := hge _ c; omega
        · exact c
        · have := p1 j c; omega
      unfold lebV
      rw [hk]
      have key : ∀ i, i ≤ j → (l.take i) = lebTo (lebSum l (j + 1)) i := by
        intro i
        induction i with
        | zero => intro _; rfl
        | succ i ih =>
          intro hi
          rw [take_snoc l i (l.getD i 0) (by rw [List.getD_eq_getElem?_getD, List.getElem?_eq_getElem (by omega)]; rfl), ih (by omega), lebTo, hr i (by omega)]
          have h1 := hbig i (by omega) (by omega)
          have h2 := hb.getD i
          congr 2
          omega
      rw [take_snoc l j (l.getD j 0) (by rw [List.getD_eq_getElem?_getD, List.getElem?_eq_getElem hjl]; rfl), key j (Nat.le_refl _)]
      have h3 := hr j (Nat.le_refl _)
      congr 2
      omega

/-! ### A reader -/
theorem cntV_enc (m y : Nat) (hy : y ≤ m) (h64 : y < 18446744073709551616) (rest : List Int) : cntV m (lebV y ++ rest, 0) = (y, (rest, 0)) := by
  have hn : nextV (lebV y ++ rest, 0) = ((y, true), (rest, 0)) := by
    unfold nextV
    simp only
    rw [if_pos trivial, lebGetV_enc y h64 rest]
    simp
  unfold cntV
  rw [hn]
  simp only
  rw [if_pos trivial, if_neg (by omega)]
theorem cntV_dec {m y : Nat} {s : List Int × Int} {l' : List Int} (hb : Bytes s.1) (h : cntV m s = (y, (l', 0))) : s.2 = 0 ∧ s.1 = lebV y ++ l' ∧ y ≤ m ∧ y < 18446744073709551616 ∧ Bytes l' := by
  obtain ⟨l, bad⟩ := s
  unfold cntV at h
  by_cases q : bad = 0
  · subst q
    obtain ⟨⟨v, n, e⟩, hg⟩ : ∃ x, lebGetV l = x := ⟨_, rfl⟩
    have hn : nextV (l, 0) = if e = 0 then ((v, true), (l.drop n, 0)) else ((0, false), ([], e)) := by
      unfold nextV
      simp only
      rw [if_pos trivial, hg]
    rw [hn] at h
    by_cases he : e = 0
    · subst he
      rw [if_pos rfl] at h
      simp only at h
      rw [if_pos trivial] at h
      by_cases hv : m < v
      · rw [if_pos hv] at h
        simp [fails] at h
      · rw [if_neg hv] at h
        simp only [Prod.mk.injEq, and_true] at h
        obtain ⟨rfl, rfl⟩ := h
        obtain ⟨h1, h2⟩ := lebGetV_dec hb hg
        refine ⟨rfl, ?_, by omega, h2, hb.drop n⟩
        show l = lebV v ++ l.drop n
        rw [← h1, List.take_append_drop]
    · rw [if_neg he] at h
      simp only [Bool.false_eq_true, if_false, Prod.mk.injEq] at h
      exact absurd h.2.2 he
  · have hn : nextV (l, bad) = ((0, false), (l, bad)) := by unfold nextV; simp only; rw [if_neg q]
    rw [hn] at h
    simp only [Bool.false_eq_true, if_false, Prod.mk.injEq] at h
    exact absurd h.2.2 q

theorem s8_oct (x : Int) (h : InK .i8 x) : s8 (x % 256) = x := by
  rw [inK_i8] at h
  unfold s8
  simp only [IntKind.wrap, IntKind.signed, IntKind.bits]
  simp
  omega
theorem oct_s8 (x : Int) (h : 0 ≤ x ∧ x ≤ 255) : s8 x % 256 = x := by
  unfold s8
  simp only [IntKind.wrap, IntKind.signed, IntKind.bits]
  simp
  omega
theorem smalls_enc (d : List Int) (h : ∀ x ∈ d, InK .i8 x) : (octV d).map s8 = d := by
  unfold octV
  rw [List.map_map]
  conv => rhs; rw [← List.map_id d]
  exact List.map_congr_left fun x hx => s8_oct x (h x hx)
theorem smalls_dec (l : List Int) (h : Bytes l) : octV (l.map s8) = l := by
  unfold octV
  rw [List.map_map]
  conv => rhs; rw [← List.map_id l]
  exact List.map_congr_left fun x hx => oct_s8 x (h x hx)
theorem smallV_enc (d rest : List Int) (h0 : 0 < d.length) (h : ∀ x ∈ d, InK .i8 x) : smallV d.length (octV d ++ rest, 0) = (d, (rest, 0)) := by
  unfold smallV
  simp only
  rw [if_pos ⟨trivial, h0⟩, if_neg (by rw [List.length_append, octV_length]; omega)]
  have e : d.length = (octV d).length := (octV_length d).symm
  rw [e, List.take_left, List.drop_left, smalls_enc d h]
theorem smallV_dec {n : Nat} {l d l' : List Int} (hb : Bytes l) (h0 : 0 < n) (h : smallV n (l, 0) = (d, (l', 0))) : l = octV d ++ l' ∧ d.length = n ∧ Bytes l' ∧ ∀ x ∈ d, InK .i8 x := by
  unfold smallV at h
  simp only at h
  rw [if_pos ⟨trivial, h0⟩] at h
  by_cases q : l.length < n
  · rw [if_pos q] at h
    simp [fails] at h
  · rw [if_neg q] at h
    simp only [Prod.mk.injEq, and_true] at h
    obtain ⟨rfl, rfl⟩ := h
    refine ⟨?_, by simp; omega, hb.drop n, fun x hx => ?_⟩
    · rw [smalls_dec _ (fun x hx => hb x (List.mem_of_mem_take hx)), List.take_append_drop]
    · obtain ⟨y, _, rfl⟩ := List.mem_map.1 hx
      exact s8_in y

/-! ### A tensor -/
theorem takenV_enc (t : Tensor) (rest : List Int) (hr : rightT t = true) (h8 : ∀ x ∈ t.data, InK .i8 x) : takenV (laidV t ++ rest, 0) = ((t, 0), (rest, 0)) := by
  obtain ⟨k1, k1', k2, k3, k4⟩ := rightT_spec hr
  unfold rightT at hr
  obtain ⟨r1, r2⟩ := of_decide_eq_true hr
  have he := elems_iff t.h t.v t.c
  rw [if_pos (by
    by_cases q : 1 ≤ t.h ∧ t.h ≤ 16 ∧ 1 ≤ t.v ∧ t.v ≤ 16 ∧ 1 ≤ t.c ∧ t.c ≤ 1024 ∧ t.h * t.v * t.c ≤ 1024
    · exact q
    · rw [if_neg q] at he; omega)] at he
  have hq : 1 ≤ t.h ∧ t.h ≤ 16 ∧ 1 ≤ t.v ∧ t.v ≤ 16 ∧ 1 ≤ t.c ∧ t.c ≤ 1024 := by
    have he2 := elems_iff t.h t.v t.c
    by_cases q : 1 ≤ t.h ∧ t.h ≤ 16 ∧ 1 ≤ t.v ∧ t.v ≤ 16 ∧ 1 ≤ t.c ∧ t.c ≤ 1024 ∧ t.h * t.v * t.c ≤ 1024
    · exact ⟨q.1, q.2.1, q.2.2.1, q.2.2.2.1, q.2.2.2.2.1, q.2.2.2.2.2.1⟩
    · rw [if_neg q] at he2; omega
  clear he
  obtain ⟨h, v, c, d⟩ := t
  simp only at *
  obtain ⟨a, rfl⟩ : ∃ a : Nat, h = (a : Int) := ⟨h.toNat, by omega⟩
  obtain ⟨b, rfl⟩ : ∃ a : Nat, v = (a : Int) := ⟨v.toNat, by omega⟩
  obtain ⟨e, rfl⟩ : ∃ a : Nat, c = (a : Int) := ⟨c.toNat, by omega⟩
  have hl : laidV ⟨(a : Int), (b : Int), (e : Int), d⟩ ++ rest = lebV a ++ (lebV b ++ (lebV e ++ (octV d ++ rest))) := by
    unfold laidV
    rw [numbersV3]
    simp only [Int.toNat_natCast, List.append_assoc]
  rw [hl]
  unfold takenV
  simp only
  rw [cntV_enc 16 a (by omega) (by omega)]
  simp only
  rw [cntV_enc 16 b (by omega) (by omega)]
  simp only
  rw [cntV_enc 1024 e (by omega) (by omega)]
  simp only
  rw [if_pos trivial, if_neg (by omega)]
  have hm : (elems (a : Int) (b : Int) (e : Int)).toNat = d.length := by omega
  rw [hm, smallV_enc d rest (by omega) h8]

theorem takenV_dec {l : List Int} (hb : Bytes l) (h : (takenV (l, 0)).1.2 = 0) :
    l = laidV (takenV (l, 0)).1.1 ++ (takenV (l, 0)).2.1 ∧ (takenV (l, 0)).2.2 = 0 ∧ rightT (takenV (l, 0)).1.1 = true ∧ Bytes (takenV (l, 0)).2.1 := by
  obtain ⟨⟨a, ⟨l1, b1⟩⟩, e1⟩ : ∃ x, cntV 16 (l, 0) = x := ⟨_, rfl⟩
  obtain ⟨⟨b, ⟨l2, b2⟩⟩, e2⟩ : ∃ x, cntV 16 (l1, b1) = x := ⟨_, rfl⟩
  obtain ⟨⟨c, ⟨l3, b3⟩⟩, e3⟩ : ∃ x, cntV 1024 (l2, b2) = x := ⟨_, rfl⟩
  have hT : takenV (l, 0) = if b3 = 0 then (if elems (a : Int) (b : Int) (c : Int) = 0 then ((noTensor, 5), (l3, b3)) else ((⟨(a : Int), (b : Int), (c : Int), (smallV (elems (a : Int) (b : Int) (c : Int)).toNat (l3, b3)).1⟩, (smallV (elems (a : Int) (b : Int) (c : Int)).toNat (l3, b3)).2.2), (smallV (elems (a : Int) (b : Int) (c : Int)).toNat (l3, b3)).2)) else ((noTensor, b3), (l3, b3)) := by
    unfold takenV; simp only [e1, e2, e3]
  by_cases q3 : b3 = 0
  rotate_left
  · rw [hT, if_neg q3] at h; exact absurd h q3
  subst q3
  rw [if_pos rfl] at hT
  by_cases q0 : elems (a : Int) (b : Int) (c : Int) = 0
  · rw [hT, if_pos q0] at h; simp at h
  rw [if_neg q0] at hT
  have hc2 : b2 = 0 := by
    by_cases q : b2 = 0
    · exact q
    · exfalso
      have hn : nextV (l2, b2) = ((0, false), (l2, b2)) := by unfold nextV; simp only; rw [if_neg q]
      unfold cntV at e3
      rw [hn] at e3
      simp only [Bool.false_eq_true, if_false, Prod.mk.injEq] at e3
      exact q e3.2.2
  subst hc2
  have hc1 : b1 = 0 := by
    by_cases q : b1 = 0
    · exact q
    · exfalso
      have hn : nextV (l1, b1) = ((0, false), (l1, b1)) := by unfold nextV; simp only; rw [if_neg q]
      unfold cntV at e2
      rw [hn] at e2
      simp only [Bool.false_eq_true, if_false, Prod.mk.injEq] at e2
      exact q e2.2.2
  subst hc1
  obtain ⟨_, f1, g1, _, hb1⟩ := cntV_dec (s := (l, 0)) hb e1
  obtain ⟨_, f2, g2, _, hb2⟩ := cntV_dec (s := (l1, 0)) hb1 e2
  obtain ⟨_, f3, g3, _, hb3⟩ := cntV_dec (s := (l2, 0)) hb2 e3
  have eb := elems_range (a : Int) (b : Int) (c : Int)
  obtain ⟨m, hm⟩ : ∃ m : Nat, elems (a : Int) (b : Int) (c : Int) = (m : Int) := ⟨(elems (a : Int) (b : Int) (c : Int)).toNat, by omega⟩
  rw [hm, Int.toNat_natCast] at hT
  obtain ⟨⟨d, ⟨l4, b4⟩⟩, e4⟩ : ∃ x, smallV m (l3, 0) = x := ⟨_, rfl⟩
  rw [e4] at hT
  rw [hT] at h ⊢
  simp only at h ⊢
  subst h
  have m0 : 0 < m := by omega
  obtain ⟨f4, g4, hb4, _⟩ := smallV_dec hb3 m0 e4
  simp only at f1 f2 f3
  refine ⟨?_, rfl, ?_, hb4⟩
  · unfold laidV
    rw [numbersV3]
    simp only [Int.toNat_natCast, List.append_assoc]
    rw [← f4, ← f3, ← f2, ← f1]
  · unfold rightT
    simp only
    exact decide_eq_true ⟨by omega, by omega⟩

/-! ### A point -/
theorem likeT_eq {t u : Tensor} (h : likeT t u = true) : u = t := by
  unfold likeT at h
  obtain ⟨h, v, c, d⟩ := t
  obtain ⟨h', v', c', d'⟩ := u
  simp only [Bool.and_eq_true, beq_iff_eq, List.cons.injEq, decide_eq_true_eq, and_true] at h
  obtain ⟨⟨rfl, rfl, rfl⟩, rfl⟩ := h
  rfl
theorem likeT_refl (t : Tensor) : likeT t t = true := by unfold likeT; simp

theorem body_enc (p : Pt) (h1 : inV p.model 3 = true) (h2 : inV p.block 6 = true) (h3 : inV p.spent 1099511627776 = true) (h4 : rightT p.input = true) (h5 : rightT p.value = true)
    (k1 : ∀ x ∈ p.input.data, InK .i8 x) (k2 : ∀ x ∈ p.value.data, InK .i8 x) : rbodyV (bodyV p) = (p, 0) := by
  obtain ⟨m, b, s, ti, tv⟩ := p
  simp only at *
  have j1 := in_spec h1
  have j2 := in_spec h2
  have j3 := in_spec h3
  obtain ⟨a1, rfl⟩ : ∃ a : Nat, m = (a : Int) := ⟨m.toNat, by omega⟩
  obtain ⟨a2, rfl⟩ : ∃ a : Nat, b = (a : Int) := ⟨b.toNat, by omega⟩
  obtain ⟨a3, rfl⟩ : ∃ a : Nat, s = (a : Int) := ⟨s.toNat, by omega⟩
  have hb : bodyV ⟨(a1 : Int), (a2 : Int), (a3 : Int), ti, tv⟩ = lebV a1 ++ (lebV a2 ++ (lebV a3 ++ (laidV ti ++ (if likeT ti tv = true then lebV 0 else lebV 1 ++ laidV tv)))) := by
    unfold bodyV
    rw [numbersV3, numbersV1, numbersV1]
    simp only [Int.toNat_natCast, List.append_assoc]
    rfl
  rw [hb]
  unfold rbodyV
  simp only
  rw [cntV_enc 3 a1 (by omega) (by omega)]
  simp only
  rw [cntV_enc 6 a2 (by omega) (by omega)]
  simp only
  rw [cntV_enc 1099511627776 a3 (by omega) (by omega)]
  simp only
  rw [if_pos trivial, takenV_enc ti _ h4 k1]
  simp only
  rw [if_pos trivial]
  cases hl : likeT ti tv with
  | true =>
    obtain rfl := likeT_eq hl
    rw [if_pos rfl]
    have e0 := cntV_enc 1 0 (by omega) (by omega) []
    rw [List.append_nil] at e0
    rw [e0]
    simp [rendV, endV]
  | false =>
    rw [if_neg (show ¬ (false = true) by decide), cntV_enc 1 1 (by omega) (by omega)]
    simp only
    rw [if_pos trivial, if_pos trivial]
    have e1 := takenV_enc tv [] h5 k2
    rw [List.append_nil] at e1
    rw [e1]
    simp only
    rw [if_pos trivial, hl, if_neg (by decide)]
    simp [rendV, endV]

theorem body_dec {b : List Int} {q : Pt} (hb : Bytes b) (h : rbodyV b = (q, 0)) : bodyV q = b ∧ inV q.model 3 = true ∧ inV q.block 6 = true ∧ inV q.spent 1099511627776 = true ∧ rightT q.input = true ∧ rightT q.value = true := by
  obtain ⟨⟨a1, ⟨l1, b1⟩⟩, e1⟩ : ∃ x, cntV 3 (b, 0) = x := ⟨_, rfl⟩
  obtain ⟨⟨a2, ⟨l2, b2⟩⟩, e2⟩ : ∃ x, cntV 6 (l1, b1) = x := ⟨_, rfl⟩
  obtain ⟨⟨a3, ⟨l3, b3⟩⟩, e3⟩ : ∃ x, cntV 1099511627776 (l2, b2) = x := ⟨_, rfl⟩
  unfold rbodyV at h
  simp only [e1, e2, e3] at h
  by_cases q3 : b3 = 0
  rotate_left
  · rw [if_neg q3] at h; simp at h; exact absurd h.2 q3
  subst q3
  rw [if_pos rfl] at h
  have up : ∀ {m y : Nat} {l l' : List Int} {bb : Int}, cntV m (l, bb) = (y, (l', 0)) → bb = 0 := by
    intro m y l l' bb e
    by_cases q : bb = 0
    · exact q
    · exfalso
      have hn : nextV (l, bb) = ((0, false), (l, bb)) := by unfold nextV; simp only; rw [if_neg q]
      unfold cntV at e
      rw [hn] at e
      simp only [Bool.false_eq_true, if_false, Prod.mk.injEq] at e
      exact q e.2.2
  obtain rfl := up e3
  obtain rfl := up e2
  obtain ⟨_, f1, g1, _, hb1⟩ := cntV_dec (s := (b, 0)) hb e1
  obtain ⟨_, f2, g2, _, hb2⟩ := cntV_dec (s := (l1, 0)) hb1 e2
  obtain ⟨_, f3, g3, _, hb3⟩ := cntV_dec (s := (l2, 0)) hb2 e3
  simp only at f1 f2 f3
  have T := @takenV_dec l3 hb3
  obtain ⟨⟨⟨t, te⟩, ⟨l4, b4⟩⟩, e4⟩ : ∃ x, takenV (l3, 0) = x := ⟨_, rfl⟩
  rw [e4] at h T
  simp only at h T
  by_cases qe : te = 0
  rotate_left
  · rw [if_neg qe] at h; simp at h; exact absurd h.2 qe
  rw [if_pos qe] at h
  obtain ⟨f4, rfl, r4, hb4⟩ := T qe
  obtain ⟨⟨k, ⟨l5, b5⟩⟩, e5⟩ : ∃ x, cntV 1 (l4, 0) = x := ⟨_, rfl⟩
  rw [e5] at h
  simp only at h
  by_cases q5 : b5 = 0
  rotate_left
  · rw [if_neg q5] at h; simp at h; exact absurd h.2 q5
  subst q5
  rw [if_pos rfl] at h
  obtain ⟨_, f5, g5, _, hb5⟩ := cntV_dec (s := (l4, 0)) hb4 e5
  simp only at f5
  have hin : ∀ {a m : Nat}, a ≤ m → inV (a : Int) (m : Int) = true := fun h => decide_eq_true (by omega)
  by_cases qk : k = 1
  rotate_left
  · rw [if_neg qk] at h
    obtain rfl : k = 0 := by omega
    unfold rendV at h
    by_cases qd : endV (l5, 0) = 0
    rotate_left
    · rw [if_neg qd] at h; simp at h; exact absurd h.2 qd
    rw [if_pos qd] at h
    simp only [Prod.mk.injEq, and_true] at h
    subst h
    have hl5 : l5 = [] := by
      unfold endV at qd
      simp only at qd
      rw [if_pos trivial] at qd
      split at qd
      · simp at qd
      · exact List.length_eq_zero_iff.1 (by omega)
    subst hl5
    refine ⟨?_, hin g1, hin g2, hin g3, r4, r4⟩
    unfold bodyV
    simp only
    rw [likeT_refl, if_pos rfl, numbersV3, numbersV1]
    simp only [Int.toNat_natCast, List.append_assoc]
    rw [List.append_nil] at f5
    rw [show ((0 : Int).toNat) = 0 from rfl, ← f5, ← f4, ← f3, ← f2, ← f1]
  · subst qk
    rw [if_pos rfl] at h
    have U := @takenV_dec l5 hb5
    obtain ⟨⟨⟨u, ue⟩, ⟨l6, b6⟩⟩, e6⟩ : ∃ x, takenV (l5, 0) = x := ⟨_, rfl⟩
    rw [e6] at h U
    simp only at h U
    by_cases qu : ue = 0
    rotate_left
    · rw [if_neg qu] at h; simp at h; exact absurd h.2 qu
    rw [if_pos qu] at h
    obtain ⟨f6, rfl, r6, hb6⟩ := U qu
    cases hl : likeT t u with
    | true => rw [hl, if_pos rfl] at h; simp at h
    | false =>
      rw [hl, if_neg (by decide)] at h
      unfold rendV at h
      by_cases qd : endV (l6, 0) = 0
      rotate_left
      · rw [if_neg qd] at h; simp at h; exact absurd h.2 qd
      rw [if_pos qd] at h
      simp only [Prod.mk.injEq, and_true] at h
      subst h
      have hl6 : l6 = [] := by
        unfold endV at qd
        simp only at qd
        rw [if_pos trivial] at qd
        split at qd
        · simp at qd
        · exact List.length_eq_zero_iff.1 (by omega)
      subst hl6
      refine ⟨?_, hin g1, hin g2, hin g3, r4, r6⟩
      unfold bodyV
      simp only
      rw [hl, if_neg (by decide), numbersV3, numbersV1]
      simp only [Int.toNat_natCast, List.append_assoc]
      rw [List.append_nil] at f6
      rw [show ((1 : Int).toNat) = 1 from rfl, ← f6, ← f5, ← f4, ← f3, ← f2, ← f1]

/-! ### Bytes with their sum -/
theorem get_seal (b : List Int) : getV (sealV b) = rbodyV b := by
  rw [getV_eq]
  unfold rgetV
  have hl : (sealV b).length - 4 = b.length := by unfold sealV; rw [List.length_append]; simp [put32V]
  rw [if_neg (by unfold sealV; rw [List.length_append]; simp [put32V]), hl]
  unfold sealV
  rw [List.take_left, List.drop_left, if_pos rfl]
theorem get_put {p : Pt} {x : List Int} (k1 : ∀ y ∈ p.input.data, InK .i8 y) (k2 : ∀ y ∈ p.value.data, InK .i8 y) (h : putV p = (x, 0)) : getV x = (p, 0) := by
  unfold putV at h
  split at h
  · rename_i h1
    split at h
    · rename_i h2
      simp only [Prod.mk.injEq, and_true] at h
      subst h
      rw [get_seal]
      exact body_enc p h1.1 h1.2.1 h1.2.2 h2.1 h2.2 k1 k2
    · simp at h
  · simp at h
theorem put_get {b : List Int} {q : Pt} (hb : Bytes b) (h : getV (sealV b) = (q, 0)) : putV q = (sealV b, 0) := by
  rw [get_seal] at h
  obtain ⟨e, h1, h2, h3, h4, h5⟩ := body_dec hb h
  unfold putV
  rw [if_pos ⟨h1, h2, h3⟩, if_pos ⟨h4, h5⟩, e]
theorem get_none {l : List Int} {q : Pt} {f : Int} (h : getV l = (q, f)) (hf : f ≠ 0) : q = noPoint := by
  unfold getV at h
  split at h
  · simp at h; exact h.1.symm
  · split at h
    · split at h
      · split at h
        · simp at h; exact absurd h.2.symm hf
        · simp at h; exact h.1.symm
      · simp at h; exact h.1.symm
    · simp at h; exact h.1.symm
end Go.Proofs.Ytanglfmolnfjeaa
