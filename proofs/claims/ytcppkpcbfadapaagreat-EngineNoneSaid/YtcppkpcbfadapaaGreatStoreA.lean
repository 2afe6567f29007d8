/-
  The requests of a store as a map whose keys are 1, 2, .. (layer 42).
  Conditions: none.
-/
import Derived.Test.YtcppkpcbfadapaaGreatChecked
import Derived.Test.YtcppkpcbfadapaaGreatOwn
import Derived.Maps.OwnSet
import Derived.Maps.RangeWalk
namespace Go.Proofs.YtcppkpcbfadapaaGreat
set_option linter.unusedVariables false
set_option linter.unusedSimpArgs false
open Go.RowKit Go.ChangeShapes Go.WideShapes
set_option maxRecDepth 100000

/-- How an element of the map reads: as its cells. -/
def reqR : Value → Option (DataW (Array Value) × List MemPlace) := fun v => match v with | .agg cs => some (.held cs, []) | _ => none
theorem reqR_mk (cs : Array Value) : reqR (.agg cs) = some (.held cs, []) := rfl
theorem reqR_inv {v : Value} {y : DataW (Array Value) × List MemPlace} (h : reqR v = some y) : ∃ cs, v = .agg cs := by
  cases v <;> simp [reqR] at h
  exact ⟨_, rfl⟩
theorem reqR_held {v : Value} {cs : Array Value} {ps : List MemPlace} (h : reqR v = some (.held cs, ps)) : v = .agg cs := by
  obtain ⟨c, rfl⟩ := reqR_inv h
  simp [reqR] at h
  rw [h.1]

def nth (i : Nat) : Lit := .int .i64 ((i : Int) + 1)
theorem nth_inj {i j : Nat} : nth i = nth j ↔ i = j := by
  constructor
  · intro h
    have := Lit.int.inj h
    omega
  · rintro rfl; rfl

structure Holds (D : DataW (Array Value)) (vs : List (Array Value)) : Prop where
  map : Maps.IsMap D
  size : Maps.size D = vs.length
  at_ : ∀ i x, vs[i]? = some x → ∀ zd, D.atKey (nth i) zd = .held x
  has : ∀ kl, Maps.has D kl = true ↔ ∃ i, i < vs.length ∧ kl = nth i

theorem Holds.empty : Holds (.map []) [] := ⟨Maps.isMap_empty, rfl, by simp, fun kl => by simp [Maps.has]⟩

theorem Holds.hasF {D : DataW (Array Value)} {vs : List (Array Value)} (h : Holds D vs) {kl : Lit} (hn : ∀ i, i < vs.length → kl ≠ nth i) : Maps.has D kl = false := by
  cases hh : Maps.has D kl
  · rfl
  · obtain ⟨i, hi, e⟩ := (h.has kl).1 hh
    exact absurd e (hn i hi)

theorem Holds.push {D : DataW (Array Value)} {vs : List (Array Value)} (h : Holds D vs) (ht : Maps.Tidy D) (x : Array Value) : Holds (D.put (nth vs.length) (.held x)) (vs ++ [x]) := by
  have hk : WideAt.IsKeyLit (nth vs.length) := trivial
  have hne : Maps.has D (nth vs.length) = false := h.hasF fun i hi e => by have := nth_inj.1 e; omega
  refine ⟨h.map.put _ _, ?_, fun i y hi zd => ?_, fun kl => ?_⟩
  · rw [Maps.size_put ht, hne, h.size]
    simp
  · rcases Nat.lt_or_ge i vs.length with hlt | hge
    · rw [List.getElem?_append_left hlt] at hi
      rw [Maps.atKey_put_other (by intro e; have := nth_inj.1 e; omega)]
      exact h.at_ i y hi zd
    · have hl := (List.getElem?_eq_some_iff.1 hi).1
      simp at hl
      obtain rfl : i = vs.length := by omega
      simp at hi
      rw [Maps.atKey_put_same h.map hk, hi]
  · by_cases e : kl = nth vs.length
    · subst e
      rw [Maps.has_put_same h.map hk]
      exact ⟨fun _ => ⟨vs.length, by simp, rfl⟩, fun _ => rfl⟩
    · rw [Maps.has_put_other e, h.has kl]
      constructor
      · rintro ⟨i, hi, rfl⟩; exact ⟨i, by simp; omega, rfl⟩
      · rintro ⟨i, hi, rfl⟩
        simp at hi
        refine ⟨i, ?_, rfl⟩
        have : i ≠ vs.length := fun e2 => e (by rw [e2])
        omega

theorem Holds.set {D : DataW (Array Value)} {vs : List (Array Value)} (h : Holds D vs) (ht : Maps.Tidy D) (j : Nat) (hj : j < vs.length) (x : Array Value) : Holds (D.put (nth j) (.held x)) (vs.set j x) := by
  have hk : WideAt.IsKeyLit (nth j) := trivial
  have hy : Maps.has D (nth j) = true := (h.has _).2 ⟨j, hj, rfl⟩
  refine ⟨h.map.put _ _, ?_, fun i y hi zd => ?_, fun kl => ?_⟩
  · have e := Maps.size_put (k := nth j) ht (.held x)
    rw [hy, h.size] at e
    simp only [List.length_set]
    simpa using e
  · rw [List.getElem?_set] at hi
    by_cases e : j = i
    · subst e
      rw [if_pos rfl] at hi
      rw [if_pos hj] at hi
      rw [Maps.atKey_put_same h.map hk]
      rw [Option.some.inj hi]
    · rw [if_neg e] at hi
      rw [Maps.atKey_put_other (by intro e2; have := nth_inj.1 e2; omega)]
      exact h.at_ i y hi zd
  · by_cases e : kl = nth j
    · subst e
      rw [Maps.has_put_same h.map hk]
      exact ⟨fun _ => ⟨j, by simpa using hj, rfl⟩, fun _ => rfl⟩
    · rw [Maps.has_put_other e, h.has kl, List.length_set]

theorem keyed : Maps.Keyed Tryz.prog 3 := Maps.int_keyed Tryz.underlying3
end Go.Proofs.YtcppkpcbfadapaaGreat
