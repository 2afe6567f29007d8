/-
  The law's do, whatever is done (layer 42); New refuses.
  Conditions: fewer than 2^39 requests; rows of at most 2^40 numbers.
-/
import Derived.Test.YtlhnapjglebacaaChecked
import Derived.Test.YtlhnapjglebacaaStoreAB
namespace Go.Proofs.Ytlhnapjglebacaa
set_option linter.unusedVariables false
set_option linter.unusedSimpArgs false
open Go.RowKit Go.ChangeShapes Go.WideShapes
set_option maxRecDepth 100000

theorem do_any (g b : Nat) (m : Int) (rs : List Req) (A : Option Addr) (n c : Nat) (o : Do) (PA : Option Addr) (pn pc : Nat) (PB : Option Addr) (pm pd : Nat) (PL : Option Addr) (pl pk : Nat) (w : World) (h : Both w g b m rs A n c) (ho : DoSl w (offM w b) o PA pn pc PB pm pd PL pl pk)
    (hm : InK .i64 m) (hlen : rs.length < 549755813888) (h1 : pn ≤ 140737488351232) (h2 : pm ≤ 140737488351232) (h3 : pl ≤ 35184372087808) :
    Calls Try.prog 51 #[.pointer (some ⟨g, 0, none⟩), .slice A n c, .int .i64 m, .agg (doCells o PA pn pc PB pm pd PL pl pk)] w (DoEnd g b m (doOp rs m o) w) := by
  have hk := ho.ok.kind
  rw [inK_u8] at hk
  have he : o.kind.tmod 5 = o.kind % 5 := Int.tmod_eq_emod_of_nonneg hk.1
  unfold doOp
  by_cases h0 : o.kind.tmod 5 = 0
  · rw [if_pos h0]
    by_cases hf : (rs.length : Int) = m
    · rw [if_pos hf]
      exact do_add_full g b m rs A n c o PA pn pc PB pm pd PL pl pk w h ⟨ho.ok, ho.input.more (fun x hx => hx.1), ho.value.more (fun x hx => hx.1), ho.logits.more (fun x hx => hx.1)⟩ h0 hf
    · rw [if_neg hf]
      exact do_add_room g b m rs A n c o PA pn pc PB pm pd PL pl pk w h ho h0 hf hm hlen h1 h2
  · rw [if_neg h0]
    by_cases k1 : o.kind.tmod 5 = 1
    · rw [if_pos k1]
      exact do_run g b m rs A n c o PA pn pc PB pm pd PL pl pk w h ho k1 hlen
    · rw [if_neg k1]
      by_cases k2 : o.kind.tmod 5 = 2
      · rw [if_pos k2]
        exact do_move g b m rs A n c o PA pn pc PB pm pd PL pl pk w h ho k2 hlen h1 h2
      · rw [if_neg k2]
        by_cases k3 : o.kind.tmod 5 = 3
        · rw [if_pos k3]
          exact do_answer g b m rs A n c o PA pn pc PB pm pd PL pl pk w h ho k3 hlen h3
        · rw [if_neg k3]
          exact do_cancel g b m rs A n c o PA pn pc PB pm pd PL pl pk w h ho (by omega) hlen

theorem storeNew_bad (m : Int) (w : World) (h : m < 1 ∨ 4096 < m) :
    Calls Try.prog 49 #[.int .i64 m] w fun e w' => e = .returned (.tuple #[.pointer none, .int .i64 2]) ∧ Below w.heap.size w w' := by
  by_cases h1 : m < 1
  · have t1 : decide (m < 1) = true := by simp; omega
    clear h h1
    go_enter Try.func49, Try.ntmps49
    go_wp2_with fail
    go_ret2
    exact ⟨rfl, Below.refl _ _⟩
  · have t1 : decide (m < 1) = false := by simp; omega
    have t2 : decide (4096 < m) = true := by simp; omega
    clear h h1
    go_enter Try.func49, Try.ntmps49
    go_wp2_with fail
    go_ret2
    exact ⟨rfl, Below.refl _ _⟩

/-- Numbers, and sizes, of the requests of a store. -/
structure Fine (rs : List Req) : Prop where
  ids : ∀ (i : Nat) (r : Req), rs[i]? = some r → r.id = (i : Int) + 1
  small : ∀ (i : Nat) (r : Req), rs[i]? = some r → Small r
theorem Fine.nil : Fine [] := ⟨by simp, by simp⟩
theorem Fine.push {rs : List Req} {r : Req} (h : Fine rs) (h1 : r.id = (rs.length : Int) + 1) (h2 : Small r) : Fine (rs ++ [r]) := by
  have key : ∀ (i : Nat) (x : Req), (rs ++ [r])[i]? = some x → (rs[i]? = some x) ∨ (i = rs.length ∧ x = r) := fun i x hx => by
    rcases Nat.lt_or_ge i rs.length with hlt | hge
    · rw [List.getElem?_append_left hlt] at hx; exact .inl hx
    · have hl := (List.getElem?_eq_some_iff.1 hx).1
      simp at hl
      obtain rfl : i = rs.length := by omega
      simp at hx
      exact .inr ⟨rfl, hx.symm⟩
  exact ⟨fun i x hx => by rcases key i x hx with h' | ⟨rfl, rfl⟩; exact h.ids i x h'; exact h1, fun i x hx => by rcases key i x hx with h' | ⟨rfl, rfl⟩; exact h.small i x h'; exact h2⟩
theorem Fine.set {rs : List Req} {r r0 : Req} {j : Nat} (h : Fine rs) (hj : rs[j]? = some r0) (h1 : r.id = r0.id) (h2 : Small r) : Fine (rs.set j r) := by
  have key : ∀ (i : Nat) (x : Req), (rs.set j r)[i]? = some x → (rs[i]? = some x) ∨ (i = j ∧ x = r) := fun i x hx => by
    rw [List.getElem?_set] at hx
    by_cases e : j = i
    · subst e
      have hl := (List.getElem?_eq_some_iff.1 hj).1
      rw [if_pos rfl, if_pos hl] at hx
      exact .inr ⟨rfl, (Option.some.inj hx).symm⟩
    · rw [if_neg e] at hx; exact .inl hx
  exact ⟨fun i x hx => by rcases key i x hx with h' | ⟨rfl, rfl⟩; exact h.ids i x h'; rw [h1]; exact h.ids _ _ hj, fun i x hx => by rcases key i x hx with h' | ⟨rfl, rfl⟩; exact h.small i x h'; exact h2⟩

theorem Fine.do_ {rs : List Req} {m : Int} {o : Do} (h : Fine rs) (h1 : o.p.input.data.length ≤ 140737488351232) (h2 : o.p.value.data.length ≤ 140737488351232) (h3 : o.a.logits.length ≤ 35184372087808) :
    Fine (doOp rs m o) ∧ (doOp rs m o).length ≤ rs.length + 1 := by
  have zs : ([] : List Int).length ≤ 140737488351232 := by decide
  have zs' : ([] : List Int).length ≤ 35184372087808 := by decide
  unfold doOp
  split
  · split
    · exact ⟨h, by omega⟩
    · exact ⟨h.push rfl ⟨h1, h2, zs'⟩, by simp⟩
  · split
    · by_cases h0 : openCode rs o.id = 0
      · obtain ⟨i, r, hid, hi, hri, hc | hc⟩ := run_good h0
        · rw [hc.2]; exact ⟨h, by simp⟩
        · rw [hc.2]; exact ⟨h.set hri rfl ⟨(h.small i r hri).input, (h.small i r hri).value, (h.small i r hri).logits⟩, by simp⟩
      · rw [run_bad h0]; exact ⟨h, by simp⟩
    · split
      · by_cases h0 : runCode rs o.id = 0
        · obtain ⟨i, r, hid, hi, hri, hc⟩ := move_good (p := o.p) h0
          rw [hc]; exact ⟨h.set hri rfl ⟨h1, h2, (h.small i r hri).logits⟩, by simp⟩
        · rw [move_bad (p := o.p) h0]; exact ⟨h, by simp⟩
      · split
        · by_cases h0 : runCode rs o.id = 0
          · obtain ⟨i, r, hid, hi, hri, hc⟩ := answer_good (a := o.a) h0
            rw [hc]; exact ⟨h.set hri rfl ⟨zs, zs, h3⟩, by simp⟩
          · rw [answer_bad (a := o.a) h0]; exact ⟨h, by simp⟩
        · by_cases h0 : openCode rs o.id = 0
          · obtain ⟨i, r, hid, hi, hri, hc⟩ := cancel_good h0
            rw [hc]; exact ⟨h.set hri rfl ⟨zs, zs, (h.small i r hri).logits⟩, by simp⟩
          · rw [cancel_bad h0]; exact ⟨h, by simp⟩

theorem many_zero {rs : List Req} {st : Int} : many (rs.map zeroId) st = many rs st := by
  unfold many
  rw [List.countP_map]
  rfl
theorem Sl.do_at {w : World} {S : Nat → Prop} {A : Option Addr} {n cap : Nat} {l : List Do} (h : Sl tDo w S A n cap l) (i : Nat) (hi : i < n) :
    ∃ o b off PA pn pc PB pm pd PL pl pk, l[i]? = some o ∧ A = some ⟨b, off, none⟩ ∧ DoSl w S o PA pn pc PB pm pd PL pl pk ∧ ∀ j v, (doCells o PA pn pc PB pm pd PL pl pk)[j]? = some v → w.cell? ⟨b, off + i * 23 + j, none⟩ = some v := by
  obtain ⟨o, b, off, xs, hx, hA, hS, hb, hr, hl, hc⟩ := h.cells i hi (by decide)
  obtain ⟨PA, pn, pc, PB, pm, pd, PL, pl, pk, rfl, ho, h1, h2, h3⟩ := do_open hr
  rw [tDo_size] at hc
  refine ⟨o, b, off, PA, pn, pc, PB, pm, pd, PL, pl, pk, hx, hA, ⟨ho, h1, h2, h3⟩, fun j v hv => ?_⟩
  have := hc j v (by rw [← Array.getElem?_toList] at hv; exact hv)
  rwa [← Nat.add_assoc] at this

end Go.Proofs.Ytlhnapjglebacaa
