/-
  Rows of cells as lists of data, and slices of the call's own as such: what a literal, a make or an append leaves, read as data.
  Conditions: none (plain lemmas).
-/
import Derived.Test.YthnhknomjepijaaDoorRep
import Derived.Laws.OwnMore
import Derived.Laws.ResultCell
import Derived.Laws.Rows
import Derived.Maps.AppendAt
import Derived.Deep.Draws
import Derived.BigQuiet
import Derived.Deep.QuietTactic
import Derived.Handy
namespace Go.Proofs.YthnhknomjepijaaDoor
set_option linter.unusedVariables false
set_option linter.unusedSimpArgs false
open Go.RowKit Go.ChangeShapes Go.WideShapes Go.Deep

/-- A list of values that is one row of data behind the other. -/
def RowsOf {α : Type} (t : Ty α) (w : World) (S : Nat → Prop) : List Value → List α → Prop
  | vs, [] => vs = []
  | vs, x :: l => ∃ xs ys, vs = xs ++ ys ∧ t.rep w S xs x ∧ RowsOf t w S ys l

section
variable {α : Type} {t : Ty α} {w w' : World} {S S' : Nat → Prop} {vs us : List Value} {l m : List α}

theorem RowsOf.len (h : RowsOf t w S vs l) : vs.length = l.length * t.size := by
  induction l generalizing vs with
  | nil => have : vs = [] := h
           subst this; simp
  | cons x l ih =>
    obtain ⟨xs, ys, rfl, h1, h2⟩ := h
    rw [List.length_append, t.len h1, ih h2, List.length_cons, Nat.add_mul]; omega

theorem RowsOf.keep (h : RowsOf t w S vs l) (hk : ∀ b, S b → w'.heap[b]? = w.heap[b]?) : RowsOf t w' S vs l := by
  induction l generalizing vs with
  | nil => exact h
  | cons x l ih =>
    obtain ⟨xs, ys, rfl, h1, h2⟩ := h
    exact ⟨xs, ys, rfl, t.keep h1 hk, ih h2⟩

theorem RowsOf.more (h : RowsOf t w S vs l) (hk : ∀ b, S b → S' b) : RowsOf t w S' vs l := by
  induction l generalizing vs with
  | nil => exact h
  | cons x l ih =>
    obtain ⟨xs, ys, rfl, h1, h2⟩ := h
    exact ⟨xs, ys, rfl, t.more h1 hk, ih h2⟩

theorem RowsOf.append (h : RowsOf t w S vs l) (h' : RowsOf t w S us m) : RowsOf t w S (vs ++ us) (l ++ m) := by
  induction l generalizing vs with
  | nil => have : vs = [] := h
           subst this; exact h'
  | cons x l ih =>
    obtain ⟨xs, ys, rfl, h1, h2⟩ := h
    exact ⟨xs, ys ++ us, by simp, h1, ih h2⟩

theorem RowsOf.one {x : α} (h : t.rep w S vs x) : RowsOf t w S vs [x] := ⟨vs, [], by simp, h, rfl⟩
theorem RowsOf.cons {x : α} (h : t.rep w S vs x) (h' : RowsOf t w S us l) : RowsOf t w S (vs ++ us) (x :: l) := ⟨vs, us, rfl, h, h'⟩
theorem RowsOf.snoc {x : α} (h : RowsOf t w S vs l) (h' : t.rep w S us x) : RowsOf t w S (vs ++ us) (l ++ [x]) := h.append (.one h')
theorem RowsOf.nil (t : Ty α) (w : World) (S : Nat → Prop) : RowsOf t w S [] ([] : List α) := rfl

theorem RowsOf.at_ (h : RowsOf t w S vs l) (i : Nat) (x : α) (hx : l[i]? = some x) : ∃ xs, t.rep w S xs x ∧ ∀ j v, xs[j]? = some v → vs[i * t.size + j]? = some v := by
  induction l generalizing vs i with
  | nil => cases hx
  | cons y l ih =>
    obtain ⟨xs, ys, rfl, h1, h2⟩ := h
    cases i with
    | zero =>
      simp only [List.getElem?_cons_zero, Option.some.injEq] at hx
      subst hx
      refine ⟨xs, h1, fun j v hv => ?_⟩
      rw [Nat.zero_mul, Nat.zero_add, List.getElem?_append_left (List.getElem?_eq_some_iff.1 hv).1]
      exact hv
    | succ i =>
      obtain ⟨zs, h3, h4⟩ := ih h2 i (by simpa using hx)
      refine ⟨zs, h3, fun j v hv => ?_⟩
      rw [List.getElem?_append_right (by rw [t.len h1, Nat.add_mul]; omega), t.len h1, show (i + 1) * t.size + j - t.size = i * t.size + j by rw [Nat.add_mul]; omega]
      exact h4 j v hv

theorem RowsOf.ints {k : IntKind} {w : World} {S : Nat → Prop} {l : List Int} (h : ∀ x ∈ l, InK k x) : RowsOf (tInt k) w S (l.map (Value.int k)) l := by
  induction l with
  | nil => rfl
  | cons x l ih => exact ⟨[.int k x], l.map (Value.int k), rfl, ⟨rfl, h x (by simp)⟩, ih fun y hy => h y (by simp [hy])⟩

theorem RowsOf.ints_iff {k : IntKind} {w : World} {S : Nat → Prop} {vs : List Value} {l : List Int} (h : RowsOf (tInt k) w S vs l) : vs = l.map (Value.int k) ∧ ∀ x ∈ l, InK k x := by
  induction l generalizing vs with
  | nil => exact ⟨h, by simp⟩
  | cons x l ih =>
    obtain ⟨xs, ys, rfl, ⟨rfl, h1⟩, h2⟩ := h
    obtain ⟨rfl, h3⟩ := ih h2
    exact ⟨rfl, by simpa using ⟨h1, h3⟩⟩

/-- A slice whose cells lie at the head of a block. -/
theorem Sl.of_block {g n cap : Nat} {cs : Array Value} {e : TypeId} {fr : Nat × Nat} (hb : w.heap[g]? = some (.cells cs e fr)) (hS : S g) (h1 : n ≤ cap) (h2 : cap ≤ maxLen) (hl : l.length = n)
    (h : RowsOf t w S (cs.toList.take (n * t.size)) l) : Sl t w S (some ⟨g, 0, none⟩) n cap l := by
  refine ⟨hl, h1, h2, (fun h => by cases h), fun i x hx => ?_⟩
  obtain ⟨xs, h3, h4⟩ := h.at_ i x hx
  refine ⟨_, xs, rfl, hS, h3, fun j v hv => ?_⟩
  have := h4 j v hv
  have hadd : (⟨g, 0, none⟩ : Addr).add (i * t.size + j) = ⟨g, i * t.size + j, none⟩ := by unfold Addr.add; split <;> simp_all
  rw [hadd, cell_of_row w g _ cs e fr hb]
  rw [List.getElem?_take] at this
  split at this
  · simpa using this
  · cases this

/-- A slice of the call's own. -/
theorem Sl.of_own {base : Nat} {e : TypeId} {v : Value} {n : Nat} (h : w.ownsRow base e t.size v n vs) (hr : RowsOf t w S vs l) (hp : 0 < t.size) (hS : ∀ b, base ≤ b → b < w.heap.size → S b) : ∃ A cap, v = .slice A n cap ∧ Sl t w S A n cap l := by
  have hlen := hr.len
  rw [h.1] at hlen
  have hn : l.length = n := (Nat.eq_of_mul_eq_mul_right hp hlen).symm
  rcases h.2 with ⟨rfl, rfl⟩ | ⟨g, cap, cur, rfl, hb, hh, h1, h2, h3, h4⟩
  · have : l = [] := List.eq_nil_of_length_eq_zero hn
    subst this
    exact ⟨none, 0, rfl, Sl.nil t w S⟩
  · refine ⟨_, cap, rfl, Sl.of_block hh (hS g hb (Array.getElem?_eq_some_iff.1 hh).1) h1 h2 hn ?_⟩
    rw [h4]; exact hr
end

/-- The numbers of a slice type: its element type, that one's zero value, cells and bytes. -/
structure EI (P : Program) (T E : TypeId) (z : Value) (size bytes : Nat) : Prop where
  ht : P.underlying T = some (.slice E)
  hi : (P.info? E).map (fun i => (i.zero, i.size, i.bytes)) = some (some z, size, bytes)
  hz : z.cells.size = size
  hp : 0 < size

/-- A slice of the call's own that reads as a list; what the elements lead to lies within S. -/
structure Own {α : Type} (t : Ty α) (w : World) (S : Nat → Prop) (base : Nat) (E : TypeId) (v : Value) (n : Nat) (l : List α) : Prop where
  out : ∃ vs, w.ownsRow base E t.size v n vs ∧ RowsOf t w S vs l

section
variable {α : Type} {t : Ty α} {w w' : World} {S S' : Nat → Prop} {l : List α} {base n : Nat} {E : TypeId} {v : Value}

theorem Own.nil (t : Ty α) (w : World) (S : Nat → Prop) (base : Nat) (E : TypeId) : Own t w S base E (.slice none 0 0) 0 ([] : List α) := ⟨[], World.ownsRow_nil _ _ _ _, rfl⟩
theorem Own.length (h : Own t w S base E v n l) (hp : 0 < t.size) : l.length = n := by
  obtain ⟨vs, h1, h2⟩ := h.out
  have := h2.len
  rw [h1.1] at this
  exact (Nat.eq_of_mul_eq_mul_right hp this).symm
theorem Own.lt (h : Own t w S base E v n l) : ∀ k, v.ownBlock = some k → base ≤ k ∧ k < w.heap.size := by
  obtain ⟨vs, h1, _⟩ := h.out
  exact h1.lt
/-- An owned slice while the world grows and another row is written. -/
theorem Own.kept (h : Own t w S base E v n l) {row : Option Nat} (hg : w.grownBy w' row) (hne : v.ownBlock = none ∨ v.ownBlock ≠ row) (hS : ∀ b, S b → b < w.heap.size ∧ some b ≠ row) : Own t w' S base E v n l := by
  obtain ⟨vs, h1, h2⟩ := h.out
  exact ⟨vs, h1.kept hg hne, h2.keep fun b hb => hg.block b (hS b hb).1 (hS b hb).2⟩
theorem Own.flat (h : Own t w S base E v n l) {row : Option Nat} (hg : w.grownBy w' row) (hne : v.ownBlock = none ∨ v.ownBlock ≠ row) (hS : ∀ b, ¬ S b) : Own t w' S base E v n l :=
  h.kept hg hne fun b hb => (hS b hb).elim
theorem Own.below (h : Own t w S base E v n l) {B : Nat} (hb : Below B w w') (hB : w.heap.size ≤ B) (hS : ∀ b, S b → b < w.heap.size) : Own t w' S base E v n l := by
  obtain ⟨vs, h1, h2⟩ := h.out
  have hg : w.grownBy w' none := ⟨hb.os, hb.tape, hb.output, hb.size, fun k hk _ => hb.block k (by omega)⟩
  exact ⟨vs, h1.kept hg (by cases v.ownBlock <;> simp), h2.keep fun b hs => hb.block b (by have := hS b hs; omega)⟩
theorem Own.heap (h : Own t w S base E v n l) (he : w'.heap = w.heap) : Own t w' S base E v n l := by
  obtain ⟨vs, h1, h2⟩ := h.out
  refine ⟨vs, ⟨h1.1, ?_⟩, h2.keep fun b _ => by rw [he]⟩
  rcases h1.2 with h | ⟨g, cap, cur, a, b, c, d⟩
  · exact .inl h
  · exact .inr ⟨g, cap, cur, a, b, by rw [he]; exact c, d⟩
/-- An owned slice read as a slice. -/
theorem Own.sl (h : Own t w S base E v n l) (hp : 0 < t.size) (hS : ∀ b, base ≤ b → b < w.heap.size → S' b) (hin : ∀ b, S b → S' b) : ∃ A cap, v = .slice A n cap ∧ Sl t w S' A n cap l := by
  obtain ⟨vs, h1, h2⟩ := h.out
  exact Sl.of_own h1 (h2.more hin) hp hS

theorem Own.ret {w0 : World} (h : Own t w S w0.heap.size E v n l) (hp : 0 < t.size) (hb : Below w0.heap.size w0 w) (hin : ∀ b, S b → w0.heap.size ≤ b ∧ b < w.heap.size) : RetSl t w0 l (.returned v) w := by
  obtain ⟨A, cap, rfl, hs⟩ := h.sl (S' := bin w0.heap.size w.heap.size) hp (fun b h1 h2 => ⟨h1, h2⟩) hin
  exact ⟨A, n, cap, rfl, hs, hb⟩
/-- Two slices of the call's own lie in different blocks. -/
def Apart (u v : Value) : Prop := u.ownBlock = none ∨ u.ownBlock ≠ v.ownBlock
theorem Apart.symm {u v : Value} (h : Apart u v) : Apart v u := by
  unfold Apart at *
  cases hv : v.ownBlock with
  | none => exact .inl rfl
  | some k =>
    refine .inr fun e => ?_
    rcases h with h | h
    · rw [h] at e; cases e
    · exact h (by rw [hv, e])
theorem Apart.push {u v u' : Value} {m : Nat} (h : Apart u v) (hat : u'.ownBlock = u.ownBlock ∨ u'.ownBlock = some m) (hlt : ∀ k, v.ownBlock = some k → k < m) : Apart u' v := by
  unfold Apart at *
  rcases hat with e | e
  · rw [e]; exact h
  · refine .inr fun e' => ?_
    have := hlt m (by rw [← e', e])
    omega
theorem Apart.nil (v : Value) : Apart (.slice none 0 0) v := .inl rfl
theorem below_drewN {B : Nat} {a w : World} (h : Below B a w) (n : Nat) : Below B a (w.drewN n) := ⟨h.os, h.tape, h.output, h.size, h.block⟩
theorem grownBy_below {a w w' : World} {B : Nat} {row : Option Nat} (h : Below B a w) (hg : w.grownBy w' row) (hB : B ≤ w.heap.size) (hr : ∀ k, row = some k → B ≤ k) : Below B a w' := h.grown hg hB hr

variable {P : Program} {ops : Array Oper} {rest : List Oper} {o : Oper} {a : Act} {Q : Exit → Act → World → Prop} {T : TypeId} {z : Value} {bytes : Nat}

/-- 'l = append(l, x)' where l is the call's own: the new element lies in a block that was laid just now. -/
theorem wpList_push {W : World} {cs : Array Value} (hgd : o.guard = none) (s x : Operand) (ho : o.op = .call { callee := .builtin .append, args := #[s, x], argTypes := #[T, T] }) (ei : EI P T E z t.size bytes)
    (hs : a.eval s = v) (own : Own t W S base E v n l) (c : Nat) (hx : a.eval x = .slice (some ⟨W.heap.size, 0, none⟩) 1 c) (y : α) (hr : t.rep W S cs.toList y)
    (h63 : n + 1 ≤ maxLen) (hbytes : (n + 1) * bytes ≤ 140737488355328) (hbase : base ≤ W.heap.size) (hin : ∀ b, S b → b < W.heap.size ∧ some b ≠ v.ownBlock)
    (h : ∀ v' w', Own t w' S base E v' (n + 1) (l ++ [y]) → W.grownBy w' v.ownBlock → (v'.ownBlock = v.ownBlock ∨ v'.ownBlock = some (W.heap.size + 1)) → wpList P ops Q rest (a.put o.dst v') w') :
    wpList P ops Q (o :: rest) a (W.alloc (.cells cs E)) := by
  obtain ⟨i, hi, hz0, hz1, hz2⟩ := info_parts ei.hi
  obtain ⟨vs, h1, h2⟩ := own.out
  have hnews : ∀ j u, cs.toList[j]? = some u → (W.alloc (.cells cs E)).cell? ((⟨W.heap.size, 0, none⟩ : Addr).add j) = some u := by
    intro j u hu
    have hadd : (⟨W.heap.size, 0, none⟩ : Addr).add j = ⟨W.heap.size, j, none⟩ := by unfold Addr.add; split <;> simp_all
    rw [hadd, cell_of_row (W.alloc (.cells cs E)) W.heap.size j cs E (0, 0) (heap_alloc_new W _)]
    simpa using hu
  obtain ⟨v', w', hrun, k1, k2, _, k3⟩ := run_append_own_at (P := P) (W.alloc (.cells cs E)) base T o.type E i z t.size bytes ei.ht hi hz0 hz1 hz2 ei.hz ei.hp v n vs (h1.alloc _) ⟨W.heap.size, 0, none⟩ 1 c cs.toList
    (by rw [t.len hr, Nat.one_mul]) hnews (t.one hr) h63 hbytes (by simp; omega)
  have hg : W.grownBy w' v.ownBlock := ⟨k2.os, k2.tape, k2.output, Nat.le_trans (by simp) k2.size, fun k hk hne => (k2.block k (by simp; omega) hne).trans (Below.heap_alloc W _ k hk)⟩
  refine wpList_plain hgd fun K hK => ?_
  unfold Oper.wp execOp
  simp only [ho, resolve, invoke, builtin, Sem.run_bind, Sem.run_pure, Result.andThen_ok, List.map_toArray, List.map_cons, List.map_nil, hs, hx, hrun]
  refine hK _ _ (h v' w' ⟨vs ++ cs.toList, k1, ?_⟩ hg (by simpa using k3))
  refine (h2.keep fun b hb => hg.block b (hin b hb).1 (hin b hb).2).snoc (t.keep hr fun b hb => hg.block b (hin b hb).1 (hin b hb).2)

/-- 'make([]T, n)'. -/
theorem wpList_make {W : World} (hgd : o.guard = none) (lo co : Operand) (hop : o.op = Op.makeSlice T lo co) (ei : EI P T E z t.size bytes)
    (kl kc : IntKind) (L C : Int) (n : Nat) (hl : a.eval lo = .int kl L) (hc : a.eval co = .int kc C) (hL : L = (n : Int)) (hC : C = (n : Int)) (b2 : bytes * n ≤ 281474976710656) (b3 : n ≤ maxLen) (b4 : base ≤ W.heap.size)
    (x0 : α) (hr : t.rep W S z.cells.toList x0) (hS : ∀ b, S b → b < W.heap.size)
    (h : ∀ w', Own t w' S base E (.slice (some ⟨W.heap.size, 0, none⟩) n n) n (List.replicate n x0) → W.grownBy w' none → wpList P ops Q rest (a.put o.dst (.slice (some ⟨W.heap.size, 0, none⟩) n n)) w') :
    wpList P ops Q (o :: rest) a W := by
  obtain ⟨i, hi, hz0, hz1, hz2⟩ := info_parts ei.hi
  refine wpList_make_full W hgd lo co T hop base E i z t.size ei.ht hi hz0 hz1 kl kc L C n hl hc hL hC (by rw [hz2]; exact b2) b3 b4 fun w' h1 hg => h w' ⟨_, h1, ?_⟩ hg
  have hr' : t.rep w' S z.cells.toList x0 := t.keep hr fun b hb => hg.block b (hS b hb) (by simp)
  have hsz := ei.hz
  have key : ∀ m, (madeCells z.cells (m * t.size)).toList = (List.replicate m z.cells.toList).flatten := by
    intro m
    apply List.ext_getElem?
    intro j
    have hp := ei.hp
    simp only [madeCells, Array.toList_map, Array.toList_range]
    by_cases hj : j < m * t.size
    · rw [List.getElem?_map, List.getElem?_range hj]
      have hq : j / t.size < m := by rw [Nat.div_lt_iff_lt_mul hp]; exact hj
      have hrem : j % t.size < t.size := Nat.mod_lt _ hp
      have : ∀ k, k ≤ m → ∀ r, r < t.size → ∀ q, q < k → (List.replicate k z.cells.toList).flatten[q * t.size + r]? = z.cells[r]? := by
        intro k
        induction k with
        | zero => intro _ r _ q hq; omega
        | succ k ih =>
          intro hk r hr q hq
          rw [List.replicate_succ, List.flatten_cons]
          cases q with
          | zero => rw [Nat.zero_mul, Nat.zero_add, List.getElem?_append_left (by simpa [hsz] using hr)]; simp
          | succ q =>
            rw [List.getElem?_append_right (by simp [hsz]; rw [Nat.add_mul]; omega)]
            have e : (q + 1) * t.size + r - z.cells.toList.length = q * t.size + r := by simp [hsz]; rw [Nat.add_mul]; omega
            rw [e]
            exact ih (by omega) r hr q (by omega)
      have h3 := this m (Nat.le_refl _) (j % t.size) hrem (j / t.size) hq
      rw [Nat.mul_comm, Nat.div_add_mod] at h3
      rw [h3]
      have hb : j % t.size < z.cells.size := by omega
      rw [hsz, Array.getElem?_eq_getElem hb]
      simp [getElem!_pos, hb]
    · rw [List.getElem?_eq_none (by simp; omega), List.getElem?_eq_none (by simp [hsz]; omega)]
  rw [key]
  have : ∀ m, RowsOf t w' S (List.replicate m z.cells.toList).flatten (List.replicate m x0) := by
    intro m
    induction m with
    | zero => rfl
    | succ m ih => rw [List.replicate_succ, List.flatten_cons, List.replicate_succ]; exact ⟨_, _, rfl, hr', ih⟩
  exact this n

/-- A cell of an owned slice of one-cell elements, as a store asks it. -/
theorem Own.cell {g cap : Nat} (h : Own t w S base E (.slice (some ⟨g, 0, none⟩) n cap) n l) (ht : t.size = 1) (i : Nat) (hi : i < n) :
    ∃ x u, l[i]? = some x ∧ t.rep w S [u] x ∧ w.cell? ⟨g, i, none⟩ = some u ∧ w.frozen? ⟨g, i, none⟩ = false ∧ g < w.heap.size ∧ base ≤ g := by
  obtain ⟨vs, h1, h2⟩ := h.out
  have hlen := h.length (by omega)
  have hx : l[i]? = some (l[i]'(by omega)) := List.getElem?_eq_getElem (by omega)
  obtain ⟨xs, h3, h4⟩ := h2.at_ i _ hx
  have hl := t.len h3
  rw [ht] at hl h4
  match xs, hl with
  | [u], _ =>
    have h5 := h4 0 u rfl
    rw [Nat.mul_one, Nat.add_zero] at h5
    have h6 := h1.cellAt i (by rw [ht]; omega)
    have h7 := h.lt g rfl
    exact ⟨_, u, hx, h3, by rw [h6]; exact h5, h1.frozenAt i, h7.2, h7.1⟩

theorem RowsOf.set1 {vs : List Value} (h : RowsOf t w S vs l) (ht : t.size = 1) (i : Nat) (u : Value) (x : α) (hr : t.rep w S [u] x) : RowsOf t w S (vs.set i u) (l.set i x) := by
  induction l generalizing vs i with
  | nil => have : vs = [] := h
           subst this; rfl
  | cons y l ih =>
    obtain ⟨xs, ys, rfl, h1, h2⟩ := h
    have hl := t.len h1
    rw [ht] at hl
    match xs, hl with
    | [c], _ =>
      cases i with
      | zero => exact ⟨[u], ys, rfl, hr, h2⟩
      | succ i => exact ⟨[c], ys.set i u, rfl, h1, ih h2 i⟩

/-- 'l[i] = x' in a slice of the call's own. -/
theorem Own.set1 {g cap : Nat} (h : Own t w S base E (.slice (some ⟨g, 0, none⟩) n cap) n l) (ht : t.size = 1) (i : Nat) (u : Value) (x : α) (hr : t.rep w S [u] x) (hS : ∀ b, S b → b ≠ g) :
    Own t (w.setCell ⟨g, i, none⟩ u) S base E (.slice (some ⟨g, 0, none⟩) n cap) n (l.set i x) ∧ w.grownBy (w.setCell ⟨g, i, none⟩ u) (some g) := by
  obtain ⟨vs, h1, h2⟩ := h.out
  obtain ⟨k1, k2⟩ := h1.stored i u
  exact ⟨⟨_, k1, (h2.set1 ht i u x hr).keep fun b hb => Below.heap_setCell _ _ _ _ (hS b hb)⟩, k2⟩
end

/-- A block that was laid just now. -/
theorem heap_new (w : World) (o : Obj) : (w.alloc o).heap[w.heap.size]? = some o := heap_alloc_new w o
theorem heap_alloc_get (w : World) (o : Obj) (k : Nat) : (w.alloc o).heap[k]? = if k = w.heap.size then some o else w.heap[k]? := by
  show (w.heap.push o)[k]? = _
  rw [Array.getElem?_push]

theorem heap_now (w : World) (o : Obj) (k : Nat) (h : k = w.heap.size) : (w.alloc o).heap[k]? = some o := by rw [heap_alloc_get, if_pos h]
theorem heap_past {w : World} {k : Nat} {o : Obj} (h : w.heap[k]? = some o) (o' : Obj) : (w.alloc o').heap[k]? = some o := by
  have hk := (Array.getElem?_eq_some_iff.1 h).1
  rw [heap_alloc_get, if_neg (by omega)]; exact h

/-- A block that is known whole. -/
structure Blk (w : World) (g : Nat) (e : TypeId) (cs : Array Value) : Prop where
  heap : w.heap[g]? = some (.cells cs e (0, 0))
theorem Blk.lt {w : World} {g : Nat} {e : TypeId} {cs : Array Value} (h : Blk w g e cs) : g < w.heap.size := (Array.getElem?_eq_some_iff.1 h.heap).1
theorem Blk.cell {w : World} {g : Nat} {e : TypeId} {cs : Array Value} (h : Blk w g e cs) (i : Nat) : w.cell? ⟨g, i, none⟩ = cs[i]? := cell_of_row w g i cs e (0, 0) h.heap
theorem Blk.frozen {w : World} {g : Nat} {e : TypeId} {cs : Array Value} (h : Blk w g e cs) (i : Nat) : w.frozen? ⟨g, i, none⟩ = false := by simp [World.frozen?, h.heap]
theorem Blk.below {w w' : World} {g B : Nat} {e : TypeId} {cs : Array Value} (h : Blk w g e cs) (hb : Below B w w') (hg : g < B) : Blk w' g e cs := ⟨(hb.block g hg).trans h.heap⟩
theorem Blk.later {w w' : World} {g : Nat} {e : TypeId} {cs : Array Value} (h : Blk w g e cs) (hb : Below w.heap.size w w') : Blk w' g e cs := h.below hb h.lt
theorem Blk.now (w : World) (g : Nat) (e : TypeId) (cs : Array Value) (h : g = w.heap.size) : Blk (w.alloc (.cells cs e)) g e cs := ⟨heap_now _ _ _ h⟩
theorem Blk.past {w : World} {g : Nat} {e : TypeId} {cs : Array Value} (h : Blk w g e cs) (o : Obj) : Blk (w.alloc o) g e cs := ⟨heap_past h.heap o⟩
theorem Blk.drew {w : World} {g : Nat} {e : TypeId} {cs : Array Value} (h : Blk w g e cs) : Blk w.drew g e cs := ⟨h.heap⟩
theorem Blk.far {w : World} {g : Nat} {e : TypeId} {cs : Array Value} (h : Blk w g e cs) (p : Addr) (u : Value) (hp : g ≠ p.block) : Blk (w.setCell p u) g e cs := ⟨(Below.heap_setCell w p u g hp).trans h.heap⟩
theorem Blk.set_ {w : World} {g : Nat} {e : TypeId} {cs : Array Value} (h : Blk w g e cs) (i : Nat) (u : Value) : Blk (w.setCell ⟨g, i, none⟩ u) g e (cs.setIfInBounds i u) :=
  ⟨by have := h.heap; simp [World.setCell, Array.getElem?_modify, this]⟩

section
variable {P : Program} {fn : Func} {R : Ending → World → Prop} {a : Act} {w : World} {g : Nat} {e ty : TypeId} {cs : Array Value} {fs : Array Field} {p u : Tmp}
theorem run_asAddr_ptr (w : World) (ad : Addr) : (asAddr (.pointer (some ad))).run P w = .ok ad w := by simp [asAddr]
/-- A struct and a number are handed back. -/
theorem ret_cell_tmp (h : fn.results = #[.cell p ty, .tmp u]) (hb : Blk w g e cs) (hp : a.tmps.getD p undef = .pointer (some ⟨g, 0, none⟩)) (hu : P.underlying ty = some (.struct fs)) (hi : (P.info? ty).map (·.size) = some cs.size) (hd : a.defers = [])
    (hR : R (.returned (.tuple #[.agg cs, a.tmps.getD u undef])) w) : bodyPost P fn R .ret a w := by
  refine bodyPost_ret (v := .tuple #[.agg cs, a.tmps.getD u undef]) ?_ hd hR
  rw [results_cell_tmp h, hp, run_asAddr_ptr, Result.andThen_ok, run_loadVar_row w g e ty cs (0, 0) (.struct fs) hb.heap hu rfl hi, Result.andThen_ok]
/-- A struct is handed back. -/
theorem ret_cell (h : fn.results = #[.cell p ty]) (hb : Blk w g e cs) (hp : a.tmps.getD p undef = .pointer (some ⟨g, 0, none⟩)) (hu : P.underlying ty = some (.struct fs)) (hi : (P.info? ty).map (·.size) = some cs.size) (hd : a.defers = [])
    (hR : R (.returned (.agg cs)) w) : bodyPost P fn R .ret a w := by
  refine bodyPost_ret (v := .agg cs) ?_ hd hR
  simp only [results, h]
  have hp' : a.tmps[p]?.getD undef = .pointer (some ⟨g, 0, none⟩) := by simpa using hp
  simp [Sem.run_bind, hp', run_asAddr_ptr, run_loadVar_row w g e ty cs (0, 0) (.struct fs) hb.heap hu rfl hi, Result.andThen]
end

theorem cell_far (w : World) (p q : Addr) (u : Value) (h : q.block ≠ p.block) : (w.setCell p u).cell? q = w.cell? q := World.cell?_setCell_other w p q u (fun e => h (by rw [e]))

/-- A literal of integers, wherever its block lies. -/
theorem Sl.lit {w : World} {g n cap : Nat} {cs : Array Value} {e : TypeId} {fr : Nat × Nat} {k : IntKind} {S : Nat → Prop} (l : List Int) (hb : w.heap[g]? = some (.cells cs e fr)) (hcs : cs.toList = l.map (Value.int k)) (hk : ∀ x ∈ l, InK k x) (hS : S g)
    (hn : n = l.length) (hc : cap = l.length) (hm : l.length ≤ maxLen) : Sl (tInt k) w S (some ⟨g, 0, none⟩) n cap l := by
  subst hn hc
  refine Sl.of_block hb hS (Nat.le_refl _) hm rfl ?_
  rw [hcs, List.take_of_length_le (by simp [tInt])]
  exact RowsOf.ints hk
end Go.Proofs.YthnhknomjepijaaDoor
