/-
  The document's requests: Set (layer 42).
  Conditions: fewer than 2^39 requests.
-/
import Derived.Test.YtlhnapjglebacaaChecked
import Derived.Test.YtlhnapjglebacaaStoreT
namespace Go.Proofs.Ytlhnapjglebacaa
set_option linter.unusedVariables false
set_option linter.unusedSimpArgs false
open Go.RowKit Go.ChangeShapes Go.WideShapes
set_option maxRecDepth 100000
set_option maxHeartbeats 2000000

theorem ei_q : EI Try.prog 99 112 (.agg (qCells noReq none 0 0 none 0 0 none 0 0)) 22 224 := ⟨Try.underlying99, by kernel_rfl, rfl, by decide⟩

theorem RowsOf.setAt {α : Type} {t : Ty α} {w : World} {S : Nat → Prop} : ∀ {l : List α} {vs us : List Value} (i : Nat) (x : α), RowsOf t w S vs l → i < l.length → t.rep w S us x → RowsOf t w S (vs.take (i * t.size) ++ us ++ vs.drop ((i + 1) * t.size)) (l.set i x)
  | [], _, _, _, _, _, hi, _ => by simp at hi
  | y :: l, vs, us, 0, x, ⟨ys, vs', e, hy, hr⟩, _, hu => by
    subst e
    refine ⟨us, vs', ?_, hu, hr⟩
    simp [t.len hy]
  | y :: l, vs, us, i + 1, x, ⟨ys, vs', e, hy, hr⟩, hi, hu => by
    subst e
    refine ⟨ys, _, ?_, hy, RowsOf.setAt i x hr (by simpa using hi) hu⟩
    have hl := t.len hy
    have e1 : (i + 1) * t.size = ys.length + i * t.size := by rw [hl, Nat.add_mul, Nat.one_mul, Nat.add_comm]
    have e2 : (i + 1 + 1) * t.size = ys.length + (i + 1) * t.size := by rw [hl, Nat.add_mul (i + 1), Nat.one_mul, Nat.add_comm]
    have a1 : (ys ++ vs').take ((i + 1) * t.size) = ys ++ vs'.take (i * t.size) := by rw [e1, List.take_length_add_append]
    have a2 : (ys ++ vs').drop ((i + 1 + 1) * t.size) = vs'.drop ((i + 1) * t.size) := by rw [e2, List.drop_length_add_append]
    rw [a1, a2]
    simp

theorem splice_take {c us : List Value} {P s N : Nat} (h1 : us.length = s) (h2 : P + s ≤ N) (h3 : N ≤ c.length) : (c.take P ++ us ++ c.drop (P + s)).take N = (c.take N).take P ++ us ++ (c.take N).drop (P + s) := by
  rw [List.take_append, List.take_of_length_le (l := c.take P ++ us) (by simp; omega), List.take_take, List.drop_take]
  have e : (c.take P ++ us).length = P + s := by simp; omega
  rw [e, show min P N = P by omega]

/-- One's own block, and what a store of one element does. -/
theorem Own.blk {α : Type} {t : Ty α} {w : World} {S : Nat → Prop} {base : Nat} {E : TypeId} {v : Value} {n : Nat} {l : List α} (h : Own t w S base E v n l) (i : Nat) (hi : i < n) (hp : 0 < t.size) :
    ∃ g cap cur, v = .slice (some ⟨g, 0, none⟩) n cap ∧ base ≤ g ∧ n ≤ cap ∧ Blk w g E cur ∧ i * t.size + t.size ≤ cur.size ∧ (∀ b, S b → b ≠ g → True) ∧
      ∀ (w' : World) (us : List Value) (cur' : Array Value) (x : α), us.length = t.size → Blk w' g E cur' → cur'.toList = cur.toList.take (i * t.size) ++ us ++ cur.toList.drop (i * t.size + t.size) → (∀ b, S b → w'.heap[b]? = w.heap[b]?) → t.rep w' S us x →
        Own t w' S base E v n (l.set i x) := by
  obtain ⟨vs, ⟨h1, h2⟩, h3⟩ := h.out
  rcases h2 with ⟨_, h0⟩ | ⟨g, cap, cur, e1, e2, e3, e4, e5, e6, e7⟩
  · omega
  have hn : l.length = n := h.length hp
  have hk : i * t.size + t.size ≤ n * t.size := by rw [← Nat.succ_mul]; exact Nat.mul_le_mul_right _ hi
  have hk2 : n * t.size ≤ cur.size := by rw [e6]; exact Nat.mul_le_mul_right _ e4
  refine ⟨g, cap, cur, e1, e2, e4, ⟨e3⟩, by omega, fun _ _ _ => trivial, fun w' us cur' x hu hb hc hS hr => ?_⟩
  have hsz : cur'.size = cur.size := by
    have := congrArg List.length hc
    simp [hu] at this
    omega
  refine ⟨vs.take (i * t.size) ++ us ++ vs.drop ((i + 1) * t.size), ⟨?_, .inr ⟨g, cap, cur', e1, e2, hb.heap, e4, e5, by rw [hsz, e6], ?_⟩⟩, (h3.keep hS).setAt i x (by omega) hr⟩
  · have e3 : (i + 1) * t.size = i * t.size + t.size := Nat.succ_mul _ _
    simp only [List.length_append, List.length_take, List.length_drop, h1, hu, e3]
    omega
  · have e3 : (i + 1) * t.size = i * t.size + t.size := Nat.succ_mul _ _
    rw [hc, ← e7, e3]
    exact splice_take hu hk (by simpa using hk2)
end Go.Proofs.Ytlhnapjglebacaa
