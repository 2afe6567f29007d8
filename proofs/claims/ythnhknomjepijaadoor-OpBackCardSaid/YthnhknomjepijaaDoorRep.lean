/-
  What rows of cells stand for: integers, bools, strings, structs, slices of any of them, as Lean data, in a world and within a set of blocks.
  Conditions: none (plain lemmas; no program in sight but for the types' numbers in the lemmas that open an argument).
-/
import Derived.WalkKit
import Derived.WalkSpells
import Derived.WalkLawsBesides
import Derived.ProofKit
import Derived.Deep.Slices
import Derived.Lib.Hide
namespace Go.Proofs.YthnhknomjepijaaDoor
set_option linter.unusedVariables false
set_option linter.unusedSimpArgs false
open Go.RowKit Go.ChangeShapes Go.WideShapes Go.Deep

/-- Cells as data: a number of cells; when a list of values, in a world, within the blocks S, stands for x. -/
structure Ty (α : Type) where
  size : Nat
  rep : World → (Nat → Prop) → List Value → α → Prop
  len : ∀ {w S cs x}, rep w S cs x → cs.length = size
  keep : ∀ {w w' S cs x}, rep w S cs x → (∀ b, S b → w'.heap[b]? = w.heap[b]?) → rep w' S cs x
  more : ∀ {w S S' cs x}, rep w S cs x → (∀ b, S b → S' b) → rep w S' cs x
  one : ∀ {w S cs x}, rep w S cs x → ∀ u ∈ cs, u.oneCell' = true

/-- Blocks below a number. -/
def blo (n : Nat) : Nat → Prop := fun b => b < n
/-- Blocks from a number on. -/
def bhi (n : Nat) : Nat → Prop := fun b => n ≤ b
/-- Blocks between two numbers. -/
def bin (m n : Nat) : Nat → Prop := fun b => m ≤ b ∧ b < n
theorem bin_blo {m n : Nat} : ∀ b, bin m n b → blo n b := fun _ h => h.2
theorem bin_more {m n m' n' : Nat} (h : m' ≤ m) (h' : n ≤ n') : ∀ b, bin m n b → bin m' n' b := fun _ k => ⟨Nat.le_trans h k.1, Nat.lt_of_lt_of_le k.2 h'⟩
theorem blo_more {n n' : Nat} (h' : n ≤ n') : ∀ b, blo n b → blo n' b := fun _ k => Nat.lt_of_lt_of_le k h'

def InK (k : IntKind) (n : Int) : Prop := k.min ≤ n ∧ n ≤ k.max
instance (k : IntKind) (n : Int) : Decidable (InK k n) := inferInstanceAs (Decidable (_ ∧ _))

theorem inK_i8 {n : Int} : InK .i8 n ↔ -128 ≤ n ∧ n ≤ 127 := by simp [InK, IntKind.min, IntKind.max, IntKind.signed, IntKind.bits]
theorem inK_i16 {n : Int} : InK .i16 n ↔ -32768 ≤ n ∧ n ≤ 32767 := by simp [InK, IntKind.min, IntKind.max, IntKind.signed, IntKind.bits]
theorem inK_i32 {n : Int} : InK .i32 n ↔ -2147483648 ≤ n ∧ n ≤ 2147483647 := by simp [InK, IntKind.min, IntKind.max, IntKind.signed, IntKind.bits]
theorem inK_i64 {n : Int} : InK .i64 n ↔ -9223372036854775808 ≤ n ∧ n ≤ 9223372036854775807 := by simp [InK, IntKind.min, IntKind.max, IntKind.signed, IntKind.bits]
theorem inK_u8 {n : Int} : InK .u8 n ↔ 0 ≤ n ∧ n ≤ 255 := by simp [InK, IntKind.min, IntKind.max, IntKind.signed, IntKind.bits]
theorem inK_u16 {n : Int} : InK .u16 n ↔ 0 ≤ n ∧ n ≤ 65535 := by simp [InK, IntKind.min, IntKind.max, IntKind.signed, IntKind.bits]
theorem inK_u32 {n : Int} : InK .u32 n ↔ 0 ≤ n ∧ n ≤ 4294967295 := by simp [InK, IntKind.min, IntKind.max, IntKind.signed, IntKind.bits]
theorem inK_u64 {n : Int} : InK .u64 n ↔ 0 ≤ n ∧ n ≤ 18446744073709551615 := by simp [InK, IntKind.min, IntKind.max, IntKind.signed, IntKind.bits]
theorem ret_int {k : IntKind} {a b : Int} (h : a = b) : Ending.returned (.int k a) = .returned (.int k b) := by rw [h]
theorem ret_bool {a b : Bool} (h : a = b) : Ending.returned (.bool a) = .returned (.bool b) := by rw [h]
theorem take_snoc {α : Type} (l : List α) (k : Nat) (x : α) (h : l[k]? = some x) : l.take (k + 1) = l.take k ++ [x] := by
  have hk : k < l.length := (List.getElem?_eq_some_iff.1 h).1
  rw [List.take_succ_eq_append_getElem hk]
  rw [List.getElem?_eq_getElem hk] at h
  injection h with h
  rw [h]

def tInt (k : IntKind) : Ty Int where
  size := 1
  rep := fun _ _ cs n => cs = [.int k n] ∧ InK k n
  len := by rintro w S cs x ⟨rfl, _⟩; rfl
  keep := fun h _ => h
  more := fun h _ => h
  one := by rintro w S cs x ⟨rfl, _⟩ u hu; simp at hu; subst hu; rfl

def tBool : Ty Bool where
  size := 1
  rep := fun _ _ cs b => cs = [.bool b]
  len := by rintro w S cs x rfl; rfl
  keep := fun h _ => h
  more := fun h _ => h
  one := by rintro w S cs x rfl u hu; simp at hu; subst hu; rfl

def tStr : Ty ByteArray where
  size := 1
  rep := fun _ _ cs s => cs = [.string s] ∧ s.size ≤ maxLen
  len := by rintro w S cs x ⟨rfl, _⟩; rfl
  keep := fun h _ => h
  more := fun h _ => h
  one := by rintro w S cs x ⟨rfl, _⟩ u hu; simp at hu; subst hu; rfl

/-- Two things one behind the other. -/
def tPair {α β : Type} (t : Ty α) (u : Ty β) : Ty (α × β) where
  size := t.size + u.size
  rep := fun w S cs x => ∃ c d, cs = c ++ d ∧ t.rep w S c x.1 ∧ u.rep w S d x.2
  len := by rintro w S cs x ⟨c, d, rfl, h1, h2⟩; rw [List.length_append, t.len h1, u.len h2]
  keep := by rintro w w' S cs x ⟨c, d, rfl, h1, h2⟩ h; exact ⟨c, d, rfl, t.keep h1 h, u.keep h2 h⟩
  more := by rintro w S S' cs x ⟨c, d, rfl, h1, h2⟩ h; exact ⟨c, d, rfl, t.more h1 h, u.more h2 h⟩
  one := by rintro w S cs x ⟨c, d, rfl, h1, h2⟩ v hv; exact (List.mem_append.1 hv).elim (fun h => t.one h1 v h) (fun h => u.one h2 v h)

/-- The same cells read as another type. -/
def tMap {α β : Type} (f : α → β) (t : Ty α) : Ty β where
  size := t.size
  rep := fun w S cs y => ∃ x, y = f x ∧ t.rep w S cs x
  len := by rintro w S cs y ⟨x, rfl, h⟩; exact t.len h
  keep := by rintro w w' S cs y ⟨x, rfl, h⟩ hk; exact ⟨x, rfl, t.keep h hk⟩
  more := by rintro w S S' cs y ⟨x, rfl, h⟩ hk; exact ⟨x, rfl, t.more h hk⟩
  one := by rintro w S cs y ⟨x, rfl, h⟩; exact t.one h

/-- Element number i of a row that begins at an address. -/
def elemAt {α : Type} (t : Ty α) (w : World) (S : Nat → Prop) (A : Option Addr) (i : Nat) (x : α) : Prop :=
  ∃ a xs, A = some a ∧ S a.block ∧ t.rep w S xs x ∧ ∀ j v, xs[j]? = some v → w.cell? (a.add (i * t.size + j)) = some v

/-- A slice of anything. -/
def tSlice {α : Type} (t : Ty α) : Ty (List α) where
  size := 1
  rep := fun w S cs l => ∃ A cap, cs = [.slice A l.length cap] ∧ l.length ≤ cap ∧ cap ≤ maxLen ∧ (A = none → cap = 0) ∧ ∀ i x, l[i]? = some x → elemAt t w S A i x
  len := by rintro w S cs x ⟨A, cap, rfl, _⟩; rfl
  keep := by
    rintro w w' S cs l ⟨A, cap, rfl, h1, h2, h3, h4⟩ hk
    refine ⟨A, cap, rfl, h1, h2, h3, fun i x hx => ?_⟩
    obtain ⟨a, xs, rfl, hS, hr, hc⟩ := h4 i x hx
    refine ⟨a, xs, rfl, hS, t.keep hr hk, fun j v hv => ?_⟩
    rw [World.cell?_of_block (w := w)]
    · exact hc j v hv
    · have : (a.add (i * t.size + j)).block = a.block := by unfold Addr.add; split <;> rfl
      rw [this]; exact hk _ hS
  more := by
    rintro w S S' cs l ⟨A, cap, rfl, h1, h2, h3, h4⟩ hk
    refine ⟨A, cap, rfl, h1, h2, h3, fun i x hx => ?_⟩
    obtain ⟨a, xs, rfl, hS, hr, hc⟩ := h4 i x hx
    exact ⟨a, xs, rfl, hk _ hS, t.more hr hk, hc⟩
  one := by rintro w S cs l ⟨A, cap, rfl, _⟩ u hu; simp at hu; subst hu; rfl

/-- A slice's own facts: its value, and each element. -/
structure Sl {α : Type} (t : Ty α) (w : World) (S : Nat → Prop) (A : Option Addr) (n cap : Nat) (l : List α) : Prop where
  n_eq : l.length = n
  cap_le : n ≤ cap
  max_le : cap ≤ maxLen
  nil_ : A = none → cap = 0
  at_ : ∀ i x, l[i]? = some x → elemAt t w S A i x

section
variable {α : Type} {t : Ty α} {w w' : World} {S S' : Nat → Prop} {A : Option Addr} {n cap : Nat} {l : List α}
theorem tSlice_iff {cs : List Value} : (tSlice t).rep w S cs l ↔ ∃ A cap, cs = [.slice A l.length cap] ∧ Sl t w S A l.length cap l :=
  ⟨fun ⟨A, cap, h, h1, h2, h3, h4⟩ => ⟨A, cap, h, rfl, h1, h2, h3, h4⟩, fun ⟨A, cap, h, h0⟩ => ⟨A, cap, h, h0.cap_le, h0.max_le, h0.nil_, h0.at_⟩⟩
theorem Sl.rep (h : Sl t w S A n cap l) : (tSlice t).rep w S [.slice A n cap] l := by
  obtain ⟨rfl, h1, h2, h3, h4⟩ := h
  exact ⟨A, cap, rfl, h1, h2, h3, h4⟩
theorem Sl.of_rep (h : (tSlice t).rep w S [.slice A n cap] l) : Sl t w S A n cap l := by
  obtain ⟨A', cap', h0, h1, h2, h3, h4⟩ := h
  simp only [List.cons.injEq, Value.slice.injEq, and_true] at h0
  obtain ⟨rfl, rfl, rfl⟩ := h0
  exact ⟨rfl, h1, h2, h3, h4⟩
theorem Sl.keep (h : Sl t w S A n cap l) (hk : ∀ b, S b → w'.heap[b]? = w.heap[b]?) : Sl t w' S A n cap l := .of_rep ((tSlice t).keep h.rep hk)
theorem Sl.more (h : Sl t w S A n cap l) (hk : ∀ b, S b → S' b) : Sl t w S' A n cap l := .of_rep ((tSlice t).more h.rep hk)
/-- Read in a later world, within all of its blocks. -/
theorem Sl.later {n0 : Nat} (h : Sl t w (blo n0) A n cap l) (hb : Below w.heap.size w w') (hn : n0 ≤ w.heap.size) : Sl t w' (blo w'.heap.size) A n cap l :=
  (h.keep fun b hs => hb.block b (Nat.lt_of_lt_of_le hs hn)).more fun b hs => Nat.lt_of_lt_of_le (Nat.lt_of_lt_of_le hs hn) hb.size
theorem Sl.below {B : Nat} (h : Sl t w S A n cap l) (hb : Below B w w') (hS : ∀ b, S b → b < B) : Sl t w' S A n cap l := h.keep fun b hs => hb.block b (hS b hs)
theorem Sl.nil (t : Ty α) (w : World) (S : Nat → Prop) : Sl t w S none 0 0 ([] : List α) := ⟨rfl, Nat.le_refl _, Nat.zero_le _, fun _ => rfl, by simp⟩

theorem Addr.add_block (a : Addr) (i : Nat) : (a.add i).block = a.block := by unfold Addr.add; split <;> rfl

/-- An element of several cells, where the walk looks for it. -/
theorem Sl.cells (h : Sl t w S A n cap l) (i : Nat) (hi : i < n) (hp : 0 < t.size) : ∃ (x : α) (b off : Nat) (xs : List Value), l[i]? = some x ∧ A = some ⟨b, off, none⟩ ∧ S b ∧ b < w.heap.size ∧ t.rep w S xs x ∧ xs.length = t.size ∧
    ∀ j v, xs[j]? = some v → w.cell? ⟨b, off + (i * t.size + j), none⟩ = some v := by
  have hl : i < l.length := by rw [h.n_eq]; exact hi
  obtain ⟨a, xs, hA, hS, hr, hc⟩ := h.at_ i l[i] (List.getElem?_eq_getElem hl)
  have hlen := t.len hr
  have h0l : 0 < l.length := by omega
  obtain ⟨a0, xs0, hA0, _, hr0, hc0⟩ := h.at_ 0 l[0] (List.getElem?_eq_getElem h0l)
  rw [hA] at hA0
  injection hA0 with hA0
  subst hA0
  have hlen0 := t.len hr0
  have hz := hc0 0 (xs0[0]'(by omega)) (List.getElem?_eq_getElem (by omega))
  obtain ⟨b, off, spot⟩ := a
  have hspot : spot = none := by
    have hz' : w.cell? ⟨b, off, spot⟩ = some (xs0[0]'(by omega)) := by simpa [Addr.add] using hz
    unfold World.cell? at hz'
    cases spot with
    | none => rfl
    | some s =>
      split at hz'
      · simp at hz'
      · cases hz'
  subst hspot
  refine ⟨l[i], b, off, xs, List.getElem?_eq_getElem hl, hA, hS, ?_, hr, hlen, fun j v hv => ?_⟩
  · have := World.block_lt_of_cell? w _ hz
    simpa [Addr.add_block] using this
  · have := hc j v hv
    rw [← this]
    unfold Addr.add
    split
    · rename_i h0; rw [h0]; rfl
    · rfl

/-- An element of one cell, where the walk looks for it. -/
theorem Sl.cell1 (h : Sl t w S A n cap l) (ht : t.size = 1) (i : Nat) (hi : i < n) : ∃ (x : α) (b off : Nat) (v : Value), l[i]? = some x ∧ A = some ⟨b, off, none⟩ ∧ S b ∧ b < w.heap.size ∧ t.rep w S [v] x ∧ w.cell? ⟨b, off + i, none⟩ = some v := by
  obtain ⟨x, b, off, xs, hx, hA, hS, hb, hr, hl, hc⟩ := h.cells i hi (by omega)
  rw [ht] at hl
  match xs, hl with
  | [v], _ =>
    have := hc 0 v rfl
    rw [ht, Nat.mul_one, Nat.add_zero] at this
    exact ⟨x, b, off, v, hx, hA, hS, hb, hr, this⟩
end

/-- A piece of a slice, as the walk spells it. -/
theorem Sl.sub {α : Type} {t : Ty α} {w : World} {S : Nat → Prop} {b off n cap : Nat} {l : List α} (h : Sl t w S (some ⟨b, off, none⟩) n cap l) (p m q c : Nat) (hq : q = p * t.size) (hp : p + m ≤ n) (hc : m ≤ c) (hc2 : c ≤ cap) :
    Sl t w S (some ⟨b, off + q, none⟩) m c ((l.drop p).take m) := by
  have hn := h.n_eq
  refine ⟨by rw [List.length_take, List.length_drop]; omega, hc, Nat.le_trans hc2 h.max_le, (fun h => by cases h), fun i x hx => ?_⟩
  rw [List.getElem?_take] at hx
  split at hx
  · rw [List.getElem?_drop] at hx
    obtain ⟨a, xs, hA, hS, hr, hcx⟩ := h.at_ _ x hx
    injection hA with hA
    subst hA
    refine ⟨_, xs, rfl, hS, hr, fun j v hv => ?_⟩
    rw [← hcx j v hv]
    have e : ∀ k, (⟨b, off, none⟩ : Addr).add k = ⟨b, off + k, none⟩ := fun k => by unfold Addr.add; split <;> simp_all
    have e' : ∀ k, (⟨b, off + q, none⟩ : Addr).add k = ⟨b, off + q + k, none⟩ := fun k => by unfold Addr.add; split <;> simp_all
    rw [e, e', hq, Nat.add_mul]
    congr 2
    omega
  · cases hx

/-- An element of a slice of integers. -/
theorem Sl.int_at {k : IntKind} {w : World} {S : Nat → Prop} {A : Option Addr} {n cap : Nat} {l : List Int} (h : Sl (tInt k) w S A n cap l) (i : Nat) (hi : i < n) :
    ∃ b off, A = some ⟨b, off, none⟩ ∧ S b ∧ b < w.heap.size ∧ w.cell? ⟨b, off + i, none⟩ = some (.int k (l.getD i 0)) ∧ InK k (l.getD i 0) := by
  obtain ⟨x, b, off, v, hx, hA, hS, hb, ⟨hr, hk⟩, hc⟩ := h.cell1 rfl i hi
  simp only [List.cons.injEq, and_true] at hr
  subst hr
  have : l.getD i 0 = x := by rw [List.getD_eq_getElem?_getD, hx]; rfl
  rw [this]
  exact ⟨b, off, hA, hS, hb, hc, hk⟩

theorem Sl.allK {k : IntKind} {w : World} {S : Nat → Prop} {A : Option Addr} {n cap : Nat} {l : List Int} (h : Sl (tInt k) w S A n cap l) (i : Nat) : InK k (l.getD i 0) := by
  by_cases hi : i < n
  · obtain ⟨_, _, _, _, _, _, h⟩ := h.int_at i hi; exact h
  · rw [List.getD_eq_getElem?_getD, List.getElem?_eq_none (by rw [h.n_eq]; omega)]
    cases k <;> decide

theorem cell_below {B : Nat} {w w' : World} {p : Addr} {v : Value} (hb : Below B w w') (h : w.cell? p = some v) (hg : p.block < B) : w'.cell? p = some v := (hb.cell hg).trans h

theorem cell_later {w w' : World} {p : Addr} {v : Value} (hb : Below w.heap.size w w') (h : w.cell? p = some v) : w'.cell? p = some v := cell_below hb h (World.block_lt_of_cell? w _ h)
theorem below_later {w0 w w' : World} (hb : Below w.heap.size w w') (h : Below w0.heap.size w0 w) : Below w0.heap.size w0 w' := h.trans (hb.mono h.size)
theorem below_call {B : Nat} {a w w' : World} (h : Below B a w) (hb : Below w.heap.size w w') (hB : B ≤ w.heap.size) : Below B a w' := h.trans (hb.mono hB)
theorem size_later {w w' : World} {n : Nat} (hb : Below w.heap.size w w') (h : n < w.heap.size) : n < w'.heap.size := Nat.lt_of_lt_of_le h hb.size

/-- A call hands back a slice in new memory that reads as a list, and leaves old memory as it was. -/
def RetSl {α : Type} (t : Ty α) (w : World) (l : List α) (e : Ending) (w' : World) : Prop :=
  ∃ A n cap, e = .returned (.slice A n cap) ∧ Sl t w' (bin w.heap.size w'.heap.size) A n cap l ∧ Below w.heap.size w w'

/-! ### Arguments opened -/

section
variable {H : Type} {enc : TypeId × Value → H} {P : Program} {w : World} {spare : Nat → Bool} {held : Bool}

/-- Whatever reads as data of this type stands for something. -/
def Opens (P : Program) {α : Type} (T : TypeId) (t : Ty α) : Prop :=
  P.cellsOf T = t.size ∧ ∀ {H : Type} {enc : TypeId × Value → H} {w : World} {base : Nat} {spare : Nat → Bool} {held : Bool} {fuel : Nat} {cs : List Value} {x : DataW H × List MemPlace},
    DataW.trod enc P w base spare held fuel T cs = some x → ∃ y, t.rep w (blo w.heap.size) cs y

theorem opens_int {T : TypeId} {k : IntKind} (hT : P.underlying T = some (.int k)) (hc : P.cellsOf T = 1) : Opens P T (tInt k) := by
  refine ⟨hc, fun h => ?_⟩
  obtain ⟨n, rfl, _, hw⟩ := DataW.trod_int hT h
  exact ⟨n, rfl, by simp only [Lit.wf, Bool.and_eq_true, decide_eq_true_eq] at hw; exact hw⟩

theorem opens_bool {T : TypeId} (hT : P.underlying T = some .bool) (hc : P.cellsOf T = 1) : Opens P T tBool := by
  refine ⟨hc, fun h => ?_⟩
  obtain ⟨b, rfl, _⟩ := DataW.trod_bool hT h
  exact ⟨b, rfl⟩

theorem opens_str {T : TypeId} (hT : P.underlying T = some .string) (hc : P.cellsOf T = 1) : Opens P T tStr := by
  refine ⟨hc, fun h => ?_⟩
  obtain ⟨s, rfl, _, hs⟩ := DataW.trod_string hT h
  exact ⟨s, rfl, hs⟩

theorem cells?_parts {base : Nat} {a : Addr} {n : Nat} {cs : List Value} (h : w.cells? base a n = some cs) : cs.length = n ∧ ∀ j v, cs[j]? = some v → w.cell? (a.add j) = some v := by
  obtain ⟨_, hl, hat⟩ := World.cells?_some h
  refine ⟨hl, fun j v hv => ?_⟩
  have hj : j < n := by rw [← hl]; exact (List.getElem?_eq_some_iff.1 hv).1
  rw [hat j hj, hv]

theorem opens_slice {α : Type} {T E : TypeId} {t : Ty α} (hT : P.underlying T = some (.slice E)) (hc : P.cellsOf T = 1) (hp : 0 < t.size) (hE : Opens P E t) : Opens P T (tSlice t) := by
  refine ⟨hc, fun {H enc w base spare held fuel cs x} h => ?_⟩
  rcases open_slice hT h with ⟨rfl, _⟩ | ⟨a, len, cap, m, n', D, Pl, rfl, hb, hl, hm, hmm, _, hi⟩
  · exact ⟨[], none, 0, rfl, Nat.le_refl _, Nat.zero_le _, fun _ => rfl, by simp⟩
  · have hlm : len ≤ m := by rw [hmm]; split <;> omega
    have hex : ∀ i, i < len → ∃ y, ∃ xs, t.rep w (blo w.heap.size) xs y ∧ ∀ j v, xs[j]? = some v → w.cell? (a.add (i * t.size + j)) = some v := by
      intro i hil
      obtain ⟨cs', hcs, htr⟩ := hi i (by omega)
      obtain ⟨y, hy⟩ := hE.2 htr
      obtain ⟨_, hat⟩ := cells?_parts hcs
      refine ⟨y, cs', hy, fun j v hv => ?_⟩
      rw [← hat j v hv, ← Go.Deep.add_add, hE.1]
    have hlist : ∀ k, k ≤ len → ∃ l : List α, l.length = k ∧ ∀ i y, l[i]? = some y → ∃ xs, t.rep w (blo w.heap.size) xs y ∧ ∀ j v, xs[j]? = some v → w.cell? (a.add (i * t.size + j)) = some v := by
      intro k
      induction k with
      | zero => exact fun _ => ⟨[], rfl, by simp⟩
      | succ k ih =>
        intro hk
        obtain ⟨l, hl1, hl2⟩ := ih (by omega)
        obtain ⟨y, hy⟩ := hex k (by omega)
        refine ⟨l ++ [y], by simp [hl1], fun i z hz => ?_⟩
        by_cases hik : i < k
        · rw [List.getElem?_append_left (by omega)] at hz
          exact hl2 i z hz
        · rw [List.getElem?_append_right (by omega), hl1] at hz
          have hi0 : i - k = 0 := by
            have := (List.getElem?_eq_some_iff.1 hz).1
            simp at this; omega
          rw [hi0] at hz
          simp only [List.getElem?_cons_zero, Option.some.injEq] at hz
          subst hz
          have : i = k := by omega
          subst this
          exact hy
    obtain ⟨l, hl1, hl2⟩ := hlist len (Nat.le_refl _)
    refine ⟨l, some a, cap, by rw [hl1], by omega, hm, (fun h => by cases h), fun i y hy => ?_⟩
    obtain ⟨xs, hr, hcx⟩ := hl2 i y hy
    refine ⟨a, xs, rfl, ?_, hr, hcx⟩
    have hlen := t.len hr
    have := World.block_lt_of_cell? w _ (hcx 0 (xs[0]'(by omega)) (List.getElem?_eq_getElem (by omega)))
    rw [Addr.add_block] at this
    exact this

/-- One thing less of a struct's cells. -/
structure OpensFrom (P : Program) {α : Type} (fs : List Field) (t : Ty α) (o : Nat) : Prop where
  out : ∀ {H : Type} {enc : TypeId × Value → H} {w : World} {base : Nat} {spare : Nat → Bool} {held : Bool} {fuel : Nat} {cs : List Value},
    cs.length = o + t.size → (∀ (i : Nat) (f : Field), fs[i]? = some f → ∃ x : DataW H × List MemPlace, DataW.trod enc P w base spare held fuel f.type ((cs.drop f.offset).take (P.cellsOf f.type)) = some x) →
    ∃ y, t.rep w (blo w.heap.size) (cs.drop o) y

theorem opensFrom_last {α : Type} {t : Ty α} {f : Field} {o : Nat} (ho : f.offset = o) (hf : Opens P f.type t) : OpensFrom P [f] t o := by
  constructor
  intro H enc w base spare held fuel cs hl h
  obtain ⟨x, hx⟩ := h 0 f rfl
  rw [ho, hf.1, List.take_of_length_le (by rw [List.length_drop]; omega)] at hx
  exact hf.2 hx

theorem opensFrom_cons {α β : Type} {t : Ty α} {u : Ty β} {f : Field} {fs : List Field} {o : Nat} (ho : f.offset = o) (hf : Opens P f.type t) (hr : OpensFrom P fs u (o + t.size)) :
    OpensFrom P (f :: fs) (tPair t u) o := by
  constructor
  intro H enc w base spare held fuel cs hl h
  obtain ⟨x, hx⟩ := h 0 f rfl
  rw [ho, hf.1] at hx
  obtain ⟨y, hy⟩ := hf.2 hx
  obtain ⟨z, hz⟩ := hr.out (cs := cs) (by rw [hl]; simp only [tPair]; omega) (fun i g hg => h (i + 1) g hg)
  refine ⟨(y, z), _, _, ?_, hy, hz⟩
  rw [← List.drop_drop, List.take_append_drop]

theorem opens_struct {α : Type} {T : TypeId} {fs : Array Field} {t : Ty α} (hT : P.underlying T = some (.struct fs)) (hc : P.cellsOf T = t.size) (h : OpensFrom P fs.toList t 0) : Opens P T t := by
  refine ⟨hc, fun {H enc w base spare held fuel cs x} htr => ?_⟩
  obtain ⟨xs, n, _, _, hl, hxl, hat⟩ := DataW.trod_struct hT htr
  have := h.out (H := H) (enc := enc) (w := w) (base := base) (spare := spare) (held := held) (fuel := n) (cs := cs) (by omega) (fun i f hf => ?_)
  · simpa using this
  · have hf' : fs[i]? = some f := by simpa using hf
    have hi : i < xs.length := by rw [hxl]; exact (Array.getElem?_eq_some_iff.1 hf').1
    exact ⟨xs[i], by rw [hat i f hf', List.getElem?_eq_getElem hi]⟩

theorem opens_map {α β : Type} {T : TypeId} {t : Ty α} (f : α → β) (h : Opens P T t) : Opens P T (tMap f t) :=
  ⟨h.1, fun htr => let ⟨y, hy⟩ := h.2 htr; ⟨f y, y, rfl, hy⟩⟩

/-- An argument opened: its value stands for something. -/
theorem Opens.trod {α : Type} {T : TypeId} {t : Ty α} (h : Opens P T t) {base : Nat} {v : Value} {d : DataW H} {p : List MemPlace} (ht : DataW.Trod enc P w base spare held T v d p) : ∃ y, t.rep w (blo w.heap.size) v.cells.toList y :=
  let ⟨_, hf⟩ := ht; h.2 hf
end
end Go.Proofs.YthnhknomjepijaaDoor
