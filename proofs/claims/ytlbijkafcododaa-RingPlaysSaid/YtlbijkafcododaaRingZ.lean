/-
  Both rings side by side, the program's and the document's, with the same numbers; rows that are alike (layers 41, 22).
  Conditions: none.
-/
import Derived.Test.YtlbijkafcododaaChecked
import Derived.Test.YtlbijkafcododaaRingY
import Derived.Test.YtlbijkafcododaaRingK
namespace Go.Proofs.Ytlbijkafcododaa
set_option linter.unusedVariables false
set_option linter.unusedSimpArgs false
open Go.RowKit Go.ChangeShapes Go.WideShapes
set_option maxRecDepth 100000

theorem RingX.lt {X : Nat → Prop} {w : World} {g : Nat} {a b : List Int} {m : Int} (h : RingX X w g a b m) : g < w.heap.size := by
  obtain ⟨_, _, _, _, _, _, h1, _⟩ := h.out; exact h1.lt
theorem RefX.lt {X : Nat → Prop} {w : World} {g : Nat} {a b : List Int} {m : Int} (h : RefX X w g a b m) : g < w.heap.size := by
  obtain ⟨_, _, _, _, _, _, h1, _⟩ := h.out; exact h1.lt

theorem RingX.other {X : Nat → Prop} {w w' : World} {g g2 : Nat} {a b : List Int} {m : Int} (h : RingX X w g a b m) (hg : w.grownBy w' (some g2)) (hne : g ≠ g2) (hX : X g2) : RingX X w' g a b m := by
  obtain ⟨A, n, c, A', n', c', h1, h2, h3⟩ := h.out
  have hk : ∀ x, ((x < w.heap.size ∧ ¬ X x) ∧ x ≠ g) → w'.heap[x]? = w.heap[x]? := fun x hx => hg.block x hx.1.1 (fun e => hx.1.2 (by rw [Option.some.inj e]; exact hX))
  exact ⟨A, n, c, A', n', c', ⟨(hg.block g h1.lt (fun e => hne (Option.some.inj e))).trans h1.heap⟩, (h2.keep hk).more (fun x hx => ⟨⟨Nat.lt_of_lt_of_le hx.1.1 hg.size, hx.1.2⟩, hx.2⟩), (h3.keep hk).more (fun x hx => ⟨⟨Nat.lt_of_lt_of_le hx.1.1 hg.size, hx.1.2⟩, hx.2⟩)⟩

theorem RefX.other {X : Nat → Prop} {w w' : World} {g g2 : Nat} {a b : List Int} {m : Int} (h : RefX X w g a b m) (hg : w.grownBy w' (some g2)) (hne : g ≠ g2) (hX : X g2) : RefX X w' g a b m := by
  obtain ⟨A, n, c, A', n', c', h1, h2, h3⟩ := h.out
  have hk : ∀ x, ((x < w.heap.size ∧ ¬ X x) ∧ x ≠ g) → w'.heap[x]? = w.heap[x]? := fun x hx => hg.block x hx.1.1 (fun e => hx.1.2 (by rw [Option.some.inj e]; exact hX))
  exact ⟨A, n, c, A', n', c', ⟨(hg.block g h1.lt (fun e => hne (Option.some.inj e))).trans h1.heap⟩, (h2.keep hk).more (fun x hx => ⟨⟨Nat.lt_of_lt_of_le hx.1.1 hg.size, hx.1.2⟩, hx.2⟩), (h3.keep hk).more (fun x hx => ⟨⟨Nat.lt_of_lt_of_le hx.1.1 hg.size, hx.1.2⟩, hx.2⟩)⟩

structure Two (w : World) (g gw : Nat) (a b : List Int) (m : Int) : Prop where
  ring : RingX (fun x => x = gw) w g a b m
  ref : RefX (fun x => x = g) w gw a b m
  pos : ∀ x ∈ a ++ b, 1 ≤ x
  len : ((a.length + b.length : Nat) : Int) ≤ m
  ne : g ≠ gw

theorem Two.later {w w' : World} {g gw : Nat} {a b : List Int} {m : Int} (h : Two w g gw a b m) (hb : Below w.heap.size w w') : Two w' g gw a b m :=
  ⟨h.ring.later hb, h.ref.later hb, h.pos, h.len, h.ne⟩

/-- The program's ring has turned; the document's is as it was. -/
theorem Two.half {w w1 : World} {g gw : Nat} {a b : List Int} {m : Int} (h : Two w g gw a b m) (g1 : w.grownBy w1 (some g)) : RefX (fun x => x = g) w1 gw a b m :=
  h.ref.other g1 (fun e => h.ne e.symm) rfl

theorem Two.turn {w w1 w2 : World} {g gw : Nat} {a b a' b' : List Int} {m : Int} (h : Two w g gw a b m) (hr : RingX (fun x => x = gw) w1 g a' b' m) (hf : RefX (fun x => x = g) w2 gw a' b' m) (g2 : w1.grownBy w2 (some gw))
    (hp : ∀ x ∈ a' ++ b', 1 ≤ x) (hl : ((a'.length + b'.length : Nat) : Int) ≤ m) : Two w2 g gw a' b' m :=
  ⟨hr.other g2 h.ne rfl, hf, hp, hl, h.ne⟩

theorem Two.nz {w : World} {g gw : Nat} {a b : List Int} {m : Int} (h : Two w g gw a b m) : ∀ x ∈ b, x ≠ 0 := fun x hx => by
  have := h.pos x (by simp [hx]); omega

theorem Two.all {w : World} {g gw : Nat} {a b : List Int} {m : Int} (h : Two w g gw a b m) : ∀ i, InK .i64 (b.getD i 0) := h.ring.at_.inAll

theorem turned_len (b : List Int) : (turned b).length = b.length := by
  unfold turned
  split
  · rename_i h; simp [h]
  · simp; omega

theorem turned_mem {b : List Int} {x : Int} (h : x ∈ turned b) : x ∈ b := by
  unfold turned at h
  split at h
  · cases h
  · rename_i hb
    rcases List.mem_append.1 h with h | h
    · exact List.mem_of_mem_drop h
    · rw [List.mem_singleton] at h
      subst h
      rw [List.getD_eq_getElem?_getD, List.getElem?_eq_getElem (by omega)]
      exact List.getElem_mem _

theorem aside_len (a b : List Int) : (aside a b).length + (b.drop 1).length = a.length + b.length := by
  unfold aside
  split
  · rename_i h; simp; omega
  · simp; omega

theorem aside_mem {a b : List Int} {x : Int} (h : x ∈ aside a b) : x ∈ a ++ b := by
  unfold aside at h
  split at h
  · simp [h]
  · rename_i hb
    rcases List.mem_append.1 h with h | h
    · simp [h]
    · rw [List.mem_singleton] at h
      subst h
      rw [List.getD_eq_getElem?_getD, List.getElem?_eq_getElem (by omega)]
      simp

theorem without_len (l : List Int) (y : Int) : (without l y).length ≤ l.length := List.length_filter_le _ _
theorem without_mem {l : List Int} {x y : Int} (h : x ∈ without l y) : x ∈ l := (List.mem_filter.1 h).1

theorem sameInt_eq (A A' : Option Addr) (n cap n' cap' : Nat) (l : List Int) (w : World) (h : Sl (tInt .i64) w (blo w.heap.size) A n cap l) (h' : Sl (tInt .i64) w (blo w.heap.size) A' n' cap' l) :
    Calls Try.prog 32 #[.slice A n cap, .slice A' n' cap'] w fun e w' => e = .returned (.bool true) ∧ Below w.heap.size w w' := by
  have hm : n ≤ 9223372036854775807 := Nat.le_trans h.cap_le h.max_le
  obtain rfl : n = n' := h.n_eq.symm.trans h'.n_eq
  have H := Lib.hid h
  have H' := Lib.hid h'
  clear h h'
  have d1 : ((n : Int) != (n : Int)) = false := by simp
  go_enter Try.func32, Try.ntmps32
  go_wp2_with fail
  go_loopw [5] (fun i wr => ∃ k : Nat, k ≤ n ∧ i = .int .i64 k ∧ wr.heap = w.heap ∧ Below w.heap.size w wr) (fun i _ => n - (intOf i).toNat)
  case atStart => exact ⟨0, Nat.zero_le _, rfl, rfl, Below.refl _ _⟩
  case round =>
    obtain ⟨k, hk, rfl, hh, hb⟩ := hrel
    by_cases hlt : k < n
    · obtain ⟨b, off, rfl, _, _, c0, i0⟩ := (H.out.below hb (fun _ h => h)).int_at k hlt
      obtain ⟨b', off', rfl, _, _, c1, i1⟩ := (H'.out.below hb (fun _ h => h)).int_at k hlt
      have HH := Lib.hid hh
      clear hh i0 i1
      generalize hx : l.getD k 0 = x at *
      have d3 : (x != x) = false := by simp
      clear hx
      go_wp2_with fail
      go_quiet (fail)
      go_wp2_with fail
      exact ⟨⟨k + 1, by omega, by go_num, HH.out, below_drewN hb _⟩, by simp [intOf]; omega⟩
    · obtain rfl : k = n := by omega
      go_wp2_with fail
      go_ret
      exact ⟨rfl, hb⟩
end Go.Proofs.Ytlbijkafcododaa
