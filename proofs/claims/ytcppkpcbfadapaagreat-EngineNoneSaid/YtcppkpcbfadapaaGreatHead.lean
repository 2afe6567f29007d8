/-
  A region that draws its order and ends in a forced tail: ahead of the tail's first operation a condition on the world is kept, so that loads may be taken first; from it on nothing is asked.
  Conditions: none (over any program).
-/
import Derived.Test.YtcppkpcbfadapaaGreatOwn
import Derived.OrdersHeld
import Derived.StillTail
import Derived.Deep.RegionHeld3
set_option linter.unusedVariables false
set_option linter.unusedSimpArgs false
namespace Go.Proofs.YtcppkpcbfadapaaGreat
open Go

section
variable {P : Program} {ops : Array Oper} {Q : Exit → Act → World → Prop} {md : Region.Mode} {C : World → Prop} {k0 : Nat}

def wpAnyT (P : Program) (md : Region.Mode) (ops : Array Oper) (Q : Exit → Act → World → Prop) (C : World → Prop) (k0 : Nat) : Nat → Array Bool → Act → World → Prop
  | 0, listed, a, w => Region.ready md ops listed = [] ∧ Q .normal a w
  | fuel + 1, listed, a, w =>
    (Region.ready md ops listed = [] → Q .normal a w) ∧
    ∀ i ∈ Region.ready md ops listed, wpOp P ops Q i (fun a' w' => if i = k0 then wpAny P md ops Q fuel (listed.setIfInBounds i true) a' w' else C w' ∧ wpAnyT P md ops Q C k0 fuel (listed.setIfInBounds i true) a' w') a w

theorem wpAny_of_T : ∀ (fuel : Nat) (listed : Array Bool) (a : Act) (w : World), wpAnyT P md ops Q C k0 fuel listed a w → wpAny P md ops Q fuel listed a w
  | 0, _, _, _, h => h
  | fuel + 1, _, _, _, h => ⟨h.1, fun i hi => wpOp_mono (fun a' w' h' => by
      by_cases e : i = k0
      · rw [if_pos e] at h'; exact h'
      · rw [if_neg e] at h'; exact wpAny_of_T fuel _ a' w' h'.2) (h.2 i hi)⟩

theorem wpAnyT_first {i : Nat} {oi : Oper} {v : Value} (hi : ops[i]? = some oi) (hsel : ∀ (j : Nat) (o : Oper) cs b, ops[j]? = some o → o.op ≠ .select cs b)
    (hQ : ∀ c a w, Q (.panic c) (a.put oi.dst v) w → Q (.panic c) a w) (hw : Region.waitsFor md ops k0 i = true) (hne : i ≠ k0) :
    ∀ (fuel : Nat) (listed : Array Bool) (a : Act) (w : World),
      (∀ j oj, ops[j]? = some oj → j ≠ i → listed.getD j true = false → (∀ e ∈ oj.after, Region.binds md e = true → e.on ≠ i) → oi.apart ops oj = true) →
      i ∈ Region.ready md ops listed → YieldsIf P ops C oi v a → C w →
      wpAnyT P md ops Q C k0 fuel (listed.setIfInBounds i true) (a.put oi.dst v) w → wpAnyT P md ops Q C k0 (fuel + 1) listed a w := by
  obtain ⟨ok0, hok0, ek, hek, hbk, hon⟩ := Region.waitsFor_spec hw
  intro fuel
  induction fuel with
  | zero =>
    intro listed a w _ hr hy hS H
    refine ⟨fun h => (by rw [h] at hr; cases hr), fun j hj => ?_⟩
    by_cases hji : j = i
    · subst hji
      rw [show (fun a' w' => if j = k0 then wpAny P md ops Q 0 (listed.setIfInBounds j true) a' w' else C w' ∧ wpAnyT P md ops Q C k0 0 (listed.setIfInBounds j true) a' w') = (fun a' w' => C w' ∧ wpAnyT P md ops Q C k0 0 (listed.setIfInBounds j true) a' w') from by funext a' w'; rw [if_neg hne]]
      exact hy.wpOp hi hS ⟨hS, H⟩
    · have := ready_mono hj hji
      rw [H.1] at this
      cases this
  | succ fuel ih =>
    intro listed a w hfree hr hy hS H
    refine ⟨fun h => (by rw [h] at hr; cases hr), fun j hj => ?_⟩
    by_cases hji : j = i
    · subst hji
      rw [show (fun a' w' => if j = k0 then wpAny P md ops Q (fuel + 1) (listed.setIfInBounds j true) a' w' else C w' ∧ wpAnyT P md ops Q C k0 (fuel + 1) (listed.setIfInBounds j true) a' w') = (fun a' w' => C w' ∧ wpAnyT P md ops Q C k0 (fuel + 1) (listed.setIfInBounds j true) a' w') from by funext a' w'; rw [if_neg hne]]
      exact hy.wpOp hi hS ⟨hS, H⟩
    · obtain ⟨hjun, oj, hoj, hall⟩ := mem_ready.1 hj
      have hnot : ∀ e ∈ oj.after, Region.binds md e = true → e.on ≠ i := fun e he hb heq => by
        have h1 := hall e he hb
        have h0 := (mem_ready.1 hr).1
        rw [heq] at h1
        rcases Nat.lt_or_ge i listed.size with h' | h'
        · simp [h'] at h0 h1; rw [h0] at h1; cases h1
        · simp [Array.getElem?_eq_none h'] at h1
      have hjk : j ≠ k0 := fun e => by
        subst e
        have : ok0 = oj := Option.some.inj (hok0.symm.trans hoj)
        subst this
        exact hnot ek hek hbk hon
      have h1 := H.2 j (ready_mono hj hji)
      rw [show (fun a' w' => if j = k0 then wpAny P md ops Q fuel ((listed.setIfInBounds i true).setIfInBounds j true) a' w' else C w' ∧ wpAnyT P md ops Q C k0 fuel ((listed.setIfInBounds i true).setIfInBounds j true) a' w') = (fun a' w' => C w' ∧ wpAnyT P md ops Q C k0 fuel ((listed.setIfInBounds i true).setIfInBounds j true) a' w') from by funext a' w'; rw [if_neg hjk]] at h1
      rw [show (fun a' w' => if j = k0 then wpAny P md ops Q (fuel + 1) (listed.setIfInBounds j true) a' w' else C w' ∧ wpAnyT P md ops Q C k0 (fuel + 1) (listed.setIfInBounds j true) a' w') = (fun a' w' => C w' ∧ wpAnyT P md ops Q C k0 (fuel + 1) (listed.setIfInBounds j true) a' w') from by funext a' w'; rw [if_neg hjk]]
      have h2 := wpOp_putIf hoj (hfree j oj hoj hji hjun hnot) (fun cs b => hsel i oi cs b hi) (fun cs b => hsel j oj cs b hoj) hQ hy h1
      have hfree' : ∀ k ok, ops[k]? = some ok → k ≠ i → (listed.setIfInBounds j true).getD k true = false →
          (∀ e ∈ ok.after, Region.binds md e = true → e.on ≠ i) → oi.apart ops ok = true := fun k ok hk hki hun hno => by
        refine hfree k ok hk hki ?_ hno
        by_cases hjk : j = k
        · subst hjk; exact hjun
        · rw [getD_set_ne true hjk] at hun; exact hun
      refine wpOp_mono (fun a' w' h3 => ⟨h3.2.1, ih (listed.setIfInBounds j true) a' w' hfree' (ready_mono hr (Ne.symm hji)) h3.1 h3.2.1 ?_⟩) h2
      rw [Array.setIfInBounds_comm _ _ hji]
      exact h3.2.2

/-- Take number i first: k0 waits for it, and it yields v in every world that meets C. -/
theorem wpAnyT_take {i : Nat} {oi : Oper} {v : Value} {fuel : Nat} {listed : Array Bool} {a : Act} {w : World} (hi : ops[i]? = some oi)
    (hs : Region.noSelect ops = true) (hf : Region.free md ops listed i = true) (hr : (Region.ready md ops listed).contains i = true) (hw : Region.waitsFor md ops k0 i = true) (hne : (i == k0) = false)
    (hQ : ∀ c a w, Q (.panic c) (a.put oi.dst v) w → Q (.panic c) a w) (hy : YieldsIf P ops C oi v a) (hS : C w)
    (h : wpAnyT P md ops Q C k0 fuel (listed.setIfInBounds i true) (a.put oi.dst v) w) : wpAnyT P md ops Q C k0 (fuel + 1) listed a w :=
  wpAnyT_first hi (Region.noSelect_spec hs) hQ hw (by simpa using hne) fuel listed a w (Region.free_spec hi hf) (by simpa using hr) hy hS h

/-- Number i, not the tail's, is the only one that may come up: behind it C is shown anew. -/
theorem wpAnyT_one {i : Nat} {o : Oper} {fuel : Nat} {listed : Array Bool} {a : Act} {w : World} (hr : Region.ready md ops listed = [i]) (hne : (i == k0) = false) (ho : ops[i]? = some o)
    (h : ∀ K' : Act → World → Prop, Shut (∀ a w, C w → (C w → wpAnyT P md ops Q C k0 fuel (listed.setIfInBounds i true) a w) → K' a w) → if Region.wanted o (yielded ops a.tmps) = true then Oper.wp P o a w K' Q else K' (a.put o.dst undef) w) :
    wpAnyT P md ops Q C k0 (fuel + 1) listed a w := by
  refine ⟨fun h0 => (by rw [hr] at h0; cases h0), fun j hj => ?_⟩
  rw [hr] at hj
  obtain rfl : j = i := by simpa using hj
  refine wpOp_step ho (fun K' hK => h K' (fun a w hS hW => hK a w ?_))
  rw [if_neg (by simpa using hne)]
  exact ⟨hS, hW hS⟩

/-- The tail: its operations come one behind the other. -/
theorem wpAnyT_tail {l : List Oper} {fuel : Nat} {listed : Array Bool} {a : Act} {w : World} (t : List Oper) (o : Oper) (ht : (l.drop k0) = o :: t) (hf : fuel = t.length + 1) (hB : Region.seqB md l.toArray fuel k0 listed = true)
    (h : wpList P l.toArray Q (o :: t) a w) : wpAnyT P md l.toArray Q C k0 fuel listed a w := by
  subst hf
  have H := wpAny_of_seq (md := md) (o :: t) k0 listed a w (fun j => by rw [← ht]; simp [List.getElem?_drop]) hB h
  have hr : Region.ready md l.toArray listed = [k0] := by
    simp only [Region.seqB, Bool.and_eq_true, decide_eq_true_eq] at hB
    exact hB.1
  refine ⟨fun h0 => (by rw [hr] at h0; cases h0), fun j hj => ?_⟩
  have hj' := hj
  rw [hr] at hj'
  obtain rfl : j = k0 := by simpa using hj'
  refine wpOp_mono (fun a' w' h' => ?_) (H.2 j hj)
  rw [if_pos rfl]
  exact h'

theorem wp_region_T {id : Nat} {a : Act} {w : World} (C : World → Prop) (k0 : Nat) (hm : P.follows .mixedOrders = true) (hS : C w.drew)
    (h : C w.drew → wpAnyT P .any ops Q C k0 ops.size (Array.replicate ops.size false) a w.drew) : (Code.region id ops true).wp P Q a w :=
  wp_region_any hm (wpAny_of_T _ _ _ _ (h hS))

/-- The same, behind operations that were taken first. -/
theorem wpAny_enterT {fuel : Nat} {listed : Array Bool} {a : Act} {w : World} (C : World → Prop) (k0 : Nat) (hS : C w) (h : C w → wpAnyT P md ops Q C k0 fuel listed a w) : wpAny P md ops Q fuel listed a w :=
  wpAny_of_T _ _ _ _ (h hS)
end
end Go.Proofs.YtcppkpcbfadapaaGreat
