/-
  A stable sort by blocks: the plain law of its two loops; no program in sight.
  Conditions: none.
-/
import Derived.Test.YtlbijkafcododaaStabA
namespace Go.Proofs.Ytlbijkafcododaa.Sta
set_option linter.unusedVariables false
set_option linter.unusedSimpArgs false
open Go.Sort
variable {α : Type} [Inhabited α]

structure P1 (L : α → α → Bool) (d0 : Array α) (s a : Nat) (d : Array α) : Prop where
  mul : ∃ t, a = t * s
  le : a ≤ d0.size
  size : d.size = d0.size
  to : BlocksTo L d0 s a d
  rest : ∀ i, a ≤ i → d[i]! = d0[i]!

theorem P1.start (L : α → α → Bool) (d0 : Array α) (s : Nat) (hs : 0 < s) : P1 L d0 s 0 d0 := ⟨⟨0, by simp⟩, Nat.zero_le _, rfl, fun k hk => by omega, fun _ _ => rfl⟩

theorem P1.agree {lt L : α → α → Bool} {d0 d : Array α} {s a : Nat} (h : P1 L d0 s a d) (hG : ∀ p q, p < q → q < d0.size → Agree lt L d0[q]! d0[p]!) (b : Nat) (hb : b ≤ d0.size) : ∀ p q, a ≤ p → p < q → q < b → Agree lt L d[q]! d[p]! := by
  intro p q hp hpq hq
  rw [h.rest p hp, h.rest q (by omega)]
  exact hG p q hpq (by omega)

theorem P1.loc {L : α → α → Bool} {d0 d d' : Array α} {s a b : Nat} (h : P1 L d0 s a d) (hb : b ≤ d0.size) (hm : Merged L a b d d') : Loc L d0 a b d' := by
  refine Loc.merged ?_ hm
  rw [extract_congr h.size (by omega) (fun k hk hk2 => h.rest k hk)]

theorem P1.next {L : α → α → Bool} {d0 d d' : Array α} {s a b : Nat} (h : P1 L d0 s a d) (hs : 0 < s) (hb : b = a + s) (hn : b ≤ d0.size) (hm : Merged L a b d d') : P1 L d0 s b d' := by
  have hl := h.loc hn hm
  obtain ⟨t, ht⟩ := h.mul
  subst hb
  refine ⟨⟨t + 1, by rw [Nat.add_mul, Nat.one_mul, ht]⟩, hn, by rw [hm.perm.1, h.size], ?_, fun i hi => by rw [PermIn.out hm.perm i (.inr hi), h.rest i (by omega)]⟩
  have h1 : BlocksTo L d0 s a d' := h.to.same h.size h.le hm.perm
  subst ht
  exact h1.next hl hs

theorem P1.done {L : α → α → Bool} {d0 d d' : Array α} {s a : Nat} (h : P1 L d0 s a d) (hs : 0 < s) (hn : d0.size < a + s) (hm : Merged L a d0.size d d') : BlocksFrom L d0 s 0 d' ∧ d'.size = d0.size := by
  have hl := h.loc (Nat.le_refl _) hm
  obtain ⟨t, ht⟩ := h.mul
  have h1 : BlocksTo L d0 s a d' := h.to.same h.size h.le hm.perm
  have h2 := h.le
  subst ht
  exact ⟨h1.all hs h2 hn hl, by rw [hm.perm.1, h.size]⟩

structure P2 (L : α → α → Bool) (d0 : Array α) (s a : Nat) (d : Array α) : Prop where
  mul : ∃ t, a = t * (2 * s)
  le : a ≤ d0.size
  size : d.size = d0.size
  to : BlocksTo L d0 (2 * s) a d
  rest : BlocksFrom L d0 s a d

theorem P2.start {L : α → α → Bool} {d0 d : Array α} {s : Nat} (hs : 0 < s) (h : BlocksFrom L d0 s 0 d) (hz : d.size = d0.size) : P2 L d0 s 0 d := ⟨⟨0, by simp⟩, Nat.zero_le _, hz, fun k hk => by omega, h⟩

theorem P2.parts {L : α → α → Bool} {d0 d : Array α} {s a m e : Nat} (h : P2 L d0 s a d) (hs : 0 < s) (hm : m = a + s) (he : e = min (a + 2 * s) d0.size) (hn : m < d0.size) : Loc L d0 a m d ∧ Loc L d0 m e d := by
  obtain ⟨t, ht⟩ := h.mul
  have e1 : 2 * t * s = a := by rw [ht, Nat.mul_assoc, Nat.mul_left_comm]
  have e2 : (2 * t + 1) * s = m := by rw [Nat.add_mul, Nat.one_mul, e1, hm]
  have h1 := h.rest (2 * t) (by omega) (by omega)
  have h2 := h.rest (2 * t + 1) (by omega) (by omega)
  rw [e1] at h1
  rw [e2] at h2
  rw [show min (a + s) d0.size = m by omega] at h1
  rw [show min (m + s) d0.size = e by omega] at h2
  exact ⟨h1, h2⟩

theorem P2.merge {lt L : α → α → Bool} {d0 d : Array α} {s a m e : Nat} (h : P2 L d0 s a d) (hs : 0 < s) (hm : m = a + s) (he : e = min (a + 2 * s) d0.size) (hn : m < d0.size)
    (hG : ∀ p q, p < q → q < d0.size → Agree lt L d0[q]! d0[p]!) : Asc L a m d ∧ Asc L m e d ∧ Cross lt L a m e d ∧ ∀ d', Merged L a e d d' → Loc L d0 a e d' := by
  obtain ⟨h1, h2⟩ := h.parts hs hm he hn
  refine ⟨h1.asc, h2.asc, Loc.cross h.size (by omega) (by omega) (by omega) h1 h2 hG, fun d' hm' => Loc.merged (Loc.join h.size (by omega) (by omega) (by omega) h1 h2) hm'⟩

theorem P2.next {L : α → α → Bool} {d0 d d' : Array α} {s a b : Nat} (h : P2 L d0 s a d) (hs : 0 < s) (hb : b = a + 2 * s) (hn : b ≤ d0.size) (hm : Merged L a b d d') (hl : Loc L d0 a b d') : P2 L d0 s b d' := by
  obtain ⟨t, ht⟩ := h.mul
  subst hb
  refine ⟨⟨t + 1, by rw [Nat.add_mul, Nat.one_mul, ht]⟩, hn, by rw [hm.perm.1, h.size], ?_, h.rest.same h.size (by omega) hm.perm⟩
  have h1 : BlocksTo L d0 (2 * s) a d' := h.to.same h.size h.le hm.perm
  subst ht
  exact h1.next hl (by omega)

theorem P2.end1 {L : α → α → Bool} {d0 d d' : Array α} {s a : Nat} (h : P2 L d0 s a d) (hs : 0 < s) (hn : d0.size < a + 2 * s) (hm : Merged L a d0.size d d') (hl : Loc L d0 a d0.size d') : BlocksFrom L d0 (2 * s) 0 d' ∧ d'.size = d0.size := by
  obtain ⟨t, ht⟩ := h.mul
  have h1 : BlocksTo L d0 (2 * s) a d' := h.to.same h.size h.le hm.perm
  have h2 := h.le
  subst ht
  exact ⟨h1.all (by omega) h2 hn hl, by rw [hm.perm.1, h.size]⟩

theorem P2.end2 {L : α → α → Bool} {d0 d : Array α} {s a : Nat} (h : P2 L d0 s a d) (hs : 0 < s) (hn : d0.size ≤ a + s) : BlocksFrom L d0 (2 * s) 0 d := by
  obtain ⟨t, ht⟩ := h.mul
  have h2 := h.le
  have hl : Loc L d0 a d0.size d := by
    by_cases c : a = d0.size
    · subst c
      refine ⟨?_, fun i j _ _ _ => by omega⟩
      rw [extract_toList d _ _ (by rw [h.size]; exact Nat.le_refl _), extract_toList d0 _ _ (Nat.le_refl _)]
      simp
    · have e1 : 2 * t * s = a := by rw [ht, Nat.mul_assoc, Nat.mul_left_comm]
      have h1 := h.rest (2 * t) (by omega) (by omega)
      rw [e1] at h1
      rw [show min (a + s) d0.size = d0.size by omega] at h1
      exact h1
  have h1 := h.to
  subst ht
  exact h1.all (by omega) h2 (by omega) hl
end Go.Proofs.Ytlbijkafcododaa.Sta
