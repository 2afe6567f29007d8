/-
  'append(l, r...)' and 'make([]T, 0, n)' as operations by themselves (in a region that draws its order).
  Conditions: none (over any program).
-/
import Derived.Test.YthnhknomjepijaaDoorExtend
import Derived.Test.YthnhknomjepijaaDoorPush
import Derived.Laws.MakeOwn
set_option linter.unusedVariables false
set_option linter.unusedSimpArgs false
namespace Go.Proofs.YthnhknomjepijaaDoor
open Go.RowKit Go.ChangeShapes Go.WideShapes

section
variable {P : Program} {o : Oper} {a : Act} {Q : Go.Exit → Act → World → Prop} {T E : TypeId} {z : Value} {bytes base n m c : Nat} {v : Value} {k : IntKind} {l l2 : List Int} {S : Nat → Prop}
theorem oper_extend {K : Act → World → Prop} {W : World} {ad : Addr} (s x : Operand) (ho : o.op = .call { callee := .builtin .append, args := #[s, x], argTypes := #[T, T] }) (ei : EI P T E z 1 bytes)
    (hs : a.eval s = v) (own : Own (tInt k) W (fun _ => False) base E v n l) (hx : a.eval x = .slice (some ad) m c) (sl : Sl (tInt k) W S (some ad) m c l2)
    (h63 : n + m ≤ maxLen) (hbytes : (n + m) * bytes ≤ 140737488355328) (hbase : base ≤ W.heap.size)
    (h : ∀ v' w', Own (tInt k) w' (fun _ => False) base E v' (n + m) (l ++ l2) → W.grownBy w' v.ownBlock → (v'.ownBlock = v.ownBlock ∨ v'.ownBlock = some W.heap.size) → K (a.put o.dst v') w') :
    Oper.wp P o a W K Q := by
  obtain ⟨i, hi, hz0, hz1, hz2⟩ := info_parts ei.hi
  obtain ⟨vs, h1, h2⟩ := own.out
  have hl2 := sl.n_eq
  have hnews : ∀ j u, (l2.map (Value.int k))[j]? = some u → W.cell? (ad.add j) = some u := by
    intro j u hu
    rw [List.getElem?_map] at hu
    have hj : j < m := by
      rcases Nat.lt_or_ge j m with h | h
      · exact h
      · rw [List.getElem?_eq_none (by omega)] at hu; cases hu
    obtain ⟨b, off, hA, _, _, hcell, _⟩ := sl.int_at j hj
    cases hA
    have hadd : (⟨b, off, none⟩ : Addr).add j = ⟨b, off + j, none⟩ := by unfold Addr.add; split <;> simp_all
    rw [hadd, hcell, List.getD_eq_getElem?_getD]
    rw [List.getElem?_eq_getElem (by omega)] at hu ⊢
    simpa using hu
  obtain ⟨v', w', hrun, k1, k2, _, k3⟩ := run_append_own_at (P := P) W base T o.type E i z 1 bytes ei.ht hi hz0 hz1 hz2 ei.hz ei.hp v n vs h1 ad m c (l2.map (Value.int k))
    (by rw [List.length_map, hl2, Nat.mul_one]) hnews (by intro u hu; obtain ⟨y, _, rfl⟩ := List.mem_map.1 hu; rfl) h63 hbytes hbase
  unfold Oper.wp execOp
  simp only [ho, resolve, invoke, builtin, Sem.run_bind, Sem.run_pure, Result.andThen_ok, List.map_toArray, List.map_cons, List.map_nil, hs, hx, hrun]
  refine (h v' w' ⟨vs ++ l2.map (Value.int k), k1, ?_⟩ k2 k3)
  exact (h2.keep fun b hb => hb.elim).append (RowsOf.ints sl.inAll)

theorem oper_make0 {α : Type} {t : Ty α} {K : Act → World → Prop} {W : World} (lo co : Operand) (ho : o.op = Op.makeSlice T lo co) (ei : EI P T E z t.size bytes) (kl kc : IntKind) (hl : a.eval lo = .int kl 0) (hc : a.eval co = .int kc (c : Int))
    (b2 : bytes * c ≤ 281474976710656) (b3 : c ≤ maxLen) (b4 : base ≤ W.heap.size)
    (h : ∀ w', Own t w' (fun _ => False) base E (.slice (some ⟨W.heap.size, 0, none⟩) 0 c) 0 ([] : List α) → W.grownBy w' none → K (a.put o.dst (.slice (some ⟨W.heap.size, 0, none⟩) 0 c)) w') :
    Oper.wp P o a W K Q := by
  obtain ⟨i, hi, hz0, hz1, hz2⟩ := info_parts ei.hi
  obtain ⟨w', hrun, h1, hg⟩ := run_make_own (P := P) W base T E i z t.size ei.ht hi hz0 hz1 kl kc c (by rw [hz2]; exact b2) b3 b4
  unfold Oper.wp execOp
  simp only [ho, hl, hc, Sem.run_bind, hrun, Sem.run_pure, Result.andThen_ok]
  exact h w' ⟨[], h1, rfl⟩ hg
end
end Go.Proofs.YthnhknomjepijaaDoor
