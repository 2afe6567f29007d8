/-
  An append to a slice of the call's own, as an operation by itself (in a region that draws its order).
  Conditions: none (over any program).
-/
import Derived.Test.YthnhknomjepijaaDoorOwn
set_option linter.unusedVariables false
set_option linter.unusedSimpArgs false
namespace Go.Proofs.YthnhknomjepijaaDoor
open Go.RowKit Go.ChangeShapes Go.WideShapes

theorem cell_grown {w w' : World} {p : Addr} {v : Value} {row : Option Nat} (g : w.grownBy w' row) (h : w.cell? p = some v) (hne : some p.block ≠ row) : w'.cell? p = some v := by
  have hlt := World.block_lt_of_cell? w p h
  unfold World.cell? at *
  rw [g.block p.block hlt hne]
  exact h

section
variable {α : Type} {t : Ty α} {w w' : World} {S S' : Nat → Prop} {l : List α} {base n : Nat} {E : TypeId} {v : Value}
variable {P : Program} {ops : Array Oper} {rest : List Oper} {o : Oper} {a : Act} {Q : Go.Exit → Act → World → Prop} {T : TypeId} {z : Value} {bytes : Nat}
/-- 'l = append(l, x)' where l is the call's own: the new element lies in a block that was laid just now. -/
theorem oper_push {K : Act → World → Prop} {W : World} {cs : Array Value} (s x : Operand) (ho : o.op = .call { callee := .builtin .append, args := #[s, x], argTypes := #[T, T] }) (ei : EI P T E z t.size bytes)
    (hs : a.eval s = v) (own : Own t W S base E v n l) (c : Nat) (hx : a.eval x = .slice (some ⟨W.heap.size, 0, none⟩) 1 c) (y : α) (hr : t.rep W S cs.toList y)
    (h63 : n + 1 ≤ maxLen) (hbytes : (n + 1) * bytes ≤ 140737488355328) (hbase : base ≤ W.heap.size) (hin : ∀ b, S b → b < W.heap.size ∧ some b ≠ v.ownBlock)
    (h : ∀ v' w', Own t w' S base E v' (n + 1) (l ++ [y]) → W.grownBy w' v.ownBlock → (v'.ownBlock = v.ownBlock ∨ v'.ownBlock = some (W.heap.size + 1)) → K (a.put o.dst v') w') :
    Oper.wp P o a (W.alloc (.cells cs E)) K Q := by
  obtain ⟨i, hi, hz0, hz1, hz2⟩ := info_parts ei.hi
  obtain ⟨vs, h1, h2⟩ := own.out
  have hnews : ∀ j u, cs.toList[j]? = some u → (W.alloc (.cells cs E)).cell? ((⟨W.heap.size, 0, none⟩ : Addr).add j) = some u := by
    intro j u hu
    have hadd : (⟨W.heap.size, 0, none⟩ : Addr).add j = ⟨W.heap.size, j, none⟩ := by unfold Addr.add; split <;> simp_all
    rw [hadd, cell_of_row (W.alloc (.cells cs E)) W.heap.size j cs E (0, 0) (heap_alloc_new W _)]
    simpa using hu
  obtain ⟨v', w', hrun, k1, k2, _, k3⟩ := run_append_own_at (P := P) (W.alloc (.cells cs E)) base T o.type E i z t.size bytes ei.ht hi hz0 hz1 hz2 ei.hz ei.hp v n vs (h1.alloc _) ⟨W.heap.size, 0, none⟩ 1 c cs.toList
    (by rw [t.len hr, Nat.one_mul]) hnews (t.one hr) h63 hbytes (by simp; omega)
  have hg : W.grownBy w' v.ownBlock := ⟨k2.os, k2.tape, k2.output, Nat.le_trans (by simp) k2.size, fun k hk hne => (k2.block k (by simp; omega) hne).trans (Below.heap_alloc W _ k hk)⟩
  unfold Oper.wp execOp
  simp only [ho, resolve, invoke, builtin, Sem.run_bind, Sem.run_pure, Result.andThen_ok, List.map_toArray, List.map_cons, List.map_nil, hs, hx, hrun]
  refine (h v' w' ⟨vs ++ cs.toList, k1, ?_⟩ hg (by simpa using k3))
  refine (h2.keep fun b hb => hg.block b (hin b hb).1 (hin b hb).2).snoc (t.keep hr fun b hb => hg.block b (hin b hb).1 (hin b hb).2)

end
end Go.Proofs.YthnhknomjepijaaDoor
