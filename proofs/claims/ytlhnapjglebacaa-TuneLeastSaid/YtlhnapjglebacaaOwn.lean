/-
  Rows of cells as lists of data, and slices of the call's own as such: what a literal, a make or an append leaves, read as data.
  Conditions: none (plain lemmas).
-/
import Derived.Test.YtlhnapjglebacaaRep
import Derived.Laws.OwnMore
import Derived.Handy
namespace Go.Proofs.Ytlhnapjglebacaa
open Go.RowKit Go.ChangeShapes Go.WideShapes Go.Deep

/-- A list of values that is one row of data behind the other. -/
def RowsOf {α : Type} (t : Ty α) (w : World) (S : Nat → Prop) : List Value → List α → Prop
  | vs, [] => vs = []
  | vs, x :: l => ∃ xs ys, vs = xs ++ ys ∧ t.rep w S xs x ∧ RowsOf t w S ys l

section
variable {α : Type} {t : Ty α} {w w' : World} {S S' : Nat → Prop} {vs us : List Value} {l m : List α}

theorem RowsOf.len (h : RowsOf t w S vs l) : vs.length = l.length * t.size := by
  induction l generalizing vs with
  | nil => have : vs = [] := h
           subst this; simp
  | cons x l ih =>
    obtain ⟨xs, ys, rfl, h1, h2⟩ := h
    rw [List.length_append, t.len h1, ih h2, List.length_cons, Nat.add_mul]; omega

theorem RowsOf.keep (h : RowsOf t w S vs l) (hk : ∀ b, S b → w'.heap[b]? = w.heap[b]?) : RowsOf t w' S vs l := by
  induction l generalizing vs with
  | nil => exact h
  | cons x l ih =>
    obtain ⟨xs, ys, rfl, h1, h2⟩ := h
    exact ⟨xs, ys, rfl, t.keep h1 hk, ih h2⟩

theorem RowsOf.more (h : RowsOf t w S vs l) (hk : ∀ b, S b → S' b) : RowsOf t w S' vs l := by
  induction l generalizing vs with
  | nil => exact h
  | cons x l ih =>
    obtain ⟨xs, ys, rfl, h1, h2⟩ := h
    exact ⟨xs, ys, rfl, t.more h1 hk, ih h2⟩

theorem RowsOf.append (h : RowsOf t w S vs l) (h' : RowsOf t w S us m) : RowsOf t w S (vs ++ us) (l ++ m) := by
  induction l generalizing vs with
  | nil => have : vs = [] := h
           subst this; exact h'
  | cons x l ih =>
    obtain ⟨xs, ys, rfl, h1, h2⟩ := h
    exact ⟨xs, ys ++ us, by simp, h1, ih h2⟩

theorem RowsOf.one {x : α} (h : t.rep w S vs x) : RowsOf t w S vs [x] := ⟨vs, [], by simp, h, rfl⟩
theorem RowsOf.cons {x : α} (h : t.rep w S vs x) (h' : RowsOf t w S us l) : RowsOf t w S (vs ++ us) (x :: l) := ⟨vs, us, rfl, h, h'⟩
theorem RowsOf.snoc {x : α} (h : RowsOf t w S vs l) (h' : t.rep w S us x) : RowsOf t w S (vs ++ us) (l ++ [x]) := h.append (.one h')
theorem RowsOf.nil (t : Ty α) (w : World) (S : Nat → Prop) : RowsOf t w S [] ([] : List α) := rfl

theorem RowsOf.at_ (h : RowsOf t w S vs l) (i : Nat) (x : α) (hx : l[i]? = some x) : ∃ xs, t.rep w S xs x ∧ ∀ j v, xs[j]? = some v → vs[i * t.size + j]? = some v := by
  induction l generalizing vs i with
  | nil => cases hx
  | cons y l ih =>
    obtain ⟨xs, ys, rfl, h1, h2⟩ := h
    cases i with
    | zero =>
      simp only [List.getElem?_cons_zero, Option.some.injEq] at hx
      subst hx
      refine ⟨xs, h1, fun j v hv => ?_⟩
      rw [Nat.zero_mul, Nat.zero_add, List.getElem?_append_left (List.getElem?_eq_some_iff.1 hv).1]
      exact hv
    | succ i =>
      obtain ⟨zs, h3, h4⟩ := ih h2 i (by simpa using hx)
      refine ⟨zs, h3, fun j v hv => ?_⟩
      rw [List.getElem?_append_right (by rw [t.len h1, Nat.add_mul]; omega), t.len h1, show (i + 1) * t.size + j - t.size = i * t.size + j by rw [Nat.add_mul]; omega]
      exact h4 j v hv

theorem RowsOf.ints {k : IntKind} {w : World} {S : Nat → Prop} {l : List Int} (h : ∀ x ∈ l, InK k x) : RowsOf (tInt k) w S (l.map (Value.int k)) l := by
  induction l with
  | nil => rfl
  | cons x l ih => exact ⟨[.int k x], l.map (Value.int k), rfl, ⟨rfl, h x (by simp)⟩, ih fun y hy => h y (by simp [hy])⟩

theorem RowsOf.ints_iff {k : IntKind} {w : World} {S : Nat → Prop} {vs : List Value} {l : List Int} (h : RowsOf (tInt k) w S vs l) : vs = l.map (Value.int k) ∧ ∀ x ∈ l, InK k x := by
  induction l generalizing vs with
  | nil => exact ⟨h, by simp⟩
  | cons x l ih =>
    obtain ⟨xs, ys, rfl, ⟨rfl, h1⟩, h2⟩ := h
    obtain ⟨rfl, h3⟩ := ih h2
    exact ⟨rfl, by simpa using ⟨h1, h3⟩⟩

/-- A slice whose cells lie at the head of a block. -/
theorem Sl.of_block {g n cap : Nat} {cs : Array Value} {e : TypeId} {fr : Nat × Nat} (hb : w.heap[g]? = some (.cells cs e fr)) (hS : S g) (h1 : n ≤ cap) (h2 : cap ≤ maxLen) (hl : l.length = n)
    (h : RowsOf t w S (cs.toList.take (n * t.size)) l) : Sl t w S (some ⟨g, 0, none⟩) n cap l := by
  refine ⟨hl, h1, h2, (fun h => by cases h), fun i x hx => ?_⟩
  obtain ⟨xs, h3, h4⟩ := h.at_ i x hx
  refine ⟨_, xs, rfl, hS, h3, fun j v hv => ?_⟩
  have := h4 j v hv
  have hadd : (⟨g, 0, none⟩ : Addr).add (i * t.size + j) = ⟨g, i * t.size + j, none⟩ := by unfold Addr.add; split <;> simp_all
  rw [hadd, cell_of_row w g _ cs e fr hb]
  rw [List.getElem?_take] at this
  split at this
  · simpa using this
  · cases this

/-- A slice of the call's own. -/
theorem Sl.of_own {base : Nat} {e : TypeId} {v : Value} {n : Nat} (h : w.ownsRow base e t.size v n vs) (hr : RowsOf t w S vs l) (hp : 0 < t.size) (hS : ∀ b, base ≤ b → b < w.heap.size → S b) : ∃ A cap, v = .slice A n cap ∧ Sl t w S A n cap l := by
  have hlen := hr.len
  rw [h.1] at hlen
  have hn : l.length = n := (Nat.eq_of_mul_eq_mul_right hp hlen).symm
  rcases h.2 with ⟨rfl, rfl⟩ | ⟨g, cap, cur, rfl, hb, hh, h1, h2, h3, h4⟩
  · have : l = [] := List.eq_nil_of_length_eq_zero hn
    subst this
    exact ⟨none, 0, rfl, Sl.nil t w S⟩
  · refine ⟨_, cap, rfl, Sl.of_block hh (hS g hb (Array.getElem?_eq_some_iff.1 hh).1) h1 h2 hn ?_⟩
    rw [h4]; exact hr
end

/-- A block that was laid just now. -/
theorem heap_new (w : World) (o : Obj) : (w.alloc o).heap[w.heap.size]? = some o := heap_alloc_new w o
end Go.Proofs.Ytlhnapjglebacaa
