/-
  'append(l, r...)' where l is the call's own and r a slice of whole numbers.
  Conditions: none (over any program).
-/
import Derived.Test.YthnhknomjepijaaDoorOwn
import Derived.Laws.AppendOwnNone
set_option linter.unusedVariables false
set_option linter.unusedSimpArgs false
namespace Go.Proofs.YthnhknomjepijaaDoor
open Go.RowKit Go.ChangeShapes Go.WideShapes

theorem Sl.inAll {k : IntKind} {w : World} {S : Nat → Prop} {A : Option Addr} {n cap : Nat} {l : List Int} (h : Sl (tInt k) w S A n cap l) : ∀ x ∈ l, InK k x := by
  intro x hx
  obtain ⟨j, hj, rfl⟩ := List.getElem_of_mem hx
  have := h.allK j
  rwa [List.getD_eq_getElem?_getD, List.getElem?_eq_getElem hj] at this

section
variable {P : Program} {ops : Array Oper} {rest : List Oper} {o : Oper} {a : Act} {Q : Exit → Act → World → Prop} {T E : TypeId} {z : Value} {bytes base n m c : Nat} {v : Value} {k : IntKind} {l l2 : List Int} {A : Option Addr} {S : Nat → Prop}

theorem wpList_extend {W : World} (hgd : o.guard = none) (s x : Operand) (ho : o.op = .call { callee := .builtin .append, args := #[s, x], argTypes := #[T, T] }) (ei : EI P T E z 1 bytes)
    (hs : a.eval s = v) (own : Own (tInt k) W (fun _ => False) base E v n l) (hx : a.eval x = .slice A m c) (sl : Sl (tInt k) W S A m c l2)
    (h63 : n + m ≤ maxLen) (hbytes : (n + m) * bytes ≤ 140737488355328) (hbase : base ≤ W.heap.size)
    (h : ∀ v' w', Own (tInt k) w' (fun _ => False) base E v' (n + m) (l ++ l2) → W.grownBy w' v.ownBlock → (v'.ownBlock = v.ownBlock ∨ v'.ownBlock = some W.heap.size) → wpList P ops Q rest (a.put o.dst v') w') :
    wpList P ops Q (o :: rest) a W := by
  obtain ⟨i, hi, hz0, hz1, hz2⟩ := info_parts ei.hi
  obtain ⟨vs, h1, h2⟩ := own.out
  have hl2 := sl.n_eq
  cases A with
  | none =>
    have hc := sl.nil_ rfl
    have hm := sl.cap_le
    obtain rfl : c = 0 := hc
    obtain rfl : m = 0 := by omega
    obtain rfl : l2 = [] := List.length_eq_zero_iff.1 hl2
    refine wpList_append_own_none hgd s x T ho base E i 1 ei.ht hi v n vs hs h1 hx ?_
    refine h v W ?_ ⟨rfl, rfl, rfl, Nat.le_refl _, fun _ _ _ => rfl⟩ (.inl rfl)
    rw [List.append_nil]
    exact own
  | some ad =>
    have hnews : ∀ j u, (l2.map (Value.int k))[j]? = some u → W.cell? (ad.add j) = some u := by
      intro j u hu
      rw [List.getElem?_map] at hu
      have hj : j < m := by
        rcases Nat.lt_or_ge j m with h | h
        · exact h
        · rw [List.getElem?_eq_none (by omega)] at hu; cases hu
      obtain ⟨b, off, hA, _, _, hcell, _⟩ := sl.int_at j hj
      cases hA
      have hadd : (⟨b, off, none⟩ : Addr).add j = ⟨b, off + j, none⟩ := by unfold Addr.add; split <;> simp_all
      rw [hadd, hcell, List.getD_eq_getElem?_getD]
      rw [List.getElem?_eq_getElem (by omega)] at hu ⊢
      simpa using hu
    obtain ⟨v', w', hrun, k1, k2, _, k3⟩ := run_append_own_at (P := P) W base T o.type E i z 1 bytes ei.ht hi hz0 hz1 hz2 ei.hz ei.hp v n vs h1 ad m c (l2.map (Value.int k))
      (by rw [List.length_map, hl2, Nat.mul_one]) hnews (by intro u hu; obtain ⟨y, _, rfl⟩ := List.mem_map.1 hu; rfl) h63 hbytes hbase
    refine wpList_plain hgd fun K hK => ?_
    unfold Oper.wp execOp
    simp only [ho, resolve, invoke, builtin, Sem.run_bind, Sem.run_pure, Result.andThen_ok, List.map_toArray, List.map_cons, List.map_nil, hs, hx, hrun]
    refine hK _ _ (h v' w' ⟨vs ++ l2.map (Value.int k), k1, ?_⟩ k2 k3)
    exact (h2.keep fun b hb => hb.elim).append (RowsOf.ints sl.inAll)
end
end Go.Proofs.YthnhknomjepijaaDoor
