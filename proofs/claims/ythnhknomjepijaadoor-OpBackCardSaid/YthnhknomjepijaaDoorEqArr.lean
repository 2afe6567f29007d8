/-
  '==' of arrays of numbers, of 8 and of 4.
  Conditions: none (over any program).
-/
import Derived.WalkKit
import Derived.ChangeKeysEq
set_option linter.unusedVariables false
set_option linter.unusedSimpArgs false
namespace Go.Proofs.YthnhknomjepijaaDoor
open Go

/-- '==' of arrays of 4 numbers. -/
theorem run_eql_arr4 {P : Program} {t e : TypeId} {k : IntKind} (w : World) (hT : P.underlying t = some (.array 4 e)) (hE : P.underlying e = some (.int k)) (hs : (P.info? e).map (·.size) = some 1) (hp : P.plainKey e = true) (a0 a1 a2 a3 b0 b1 b2 b3 : Int) :
    (Op.equalIn 10000 t (.agg #[.int k a0, .int k a1, .int k a2, .int k a3]) (.agg #[.int k b0, .int k b1, .int k b2, .int k b3])).run P w = .ok ([a0, a1, a2, a3] == [b0, b1, b2, b3]) w := by
  have hsz : (Go.sizeOf e).run P w = .ok 1 w := by
    cases hq : P.info? e with
    | none => simp [hq] at hs
    | some i =>
      have : i.size = 1 := by simpa [hq] using hs
      simp [Go.sizeOf, typeInfo, hq, this]
  have hpart : ∀ (xs : Array Value) (off : Nat), off < xs.size → (part e xs off).run P w = .ok xs[off]! w := fun xs off h => run_part_plain (w := w) hp (by simp [h])
  have hq : ∀ x y : Int, (Op.equalIn 9999 e (.int k x) (.int k y)).run P w = .ok (x == y) w := fun x y => by
    show (Op.equalIn (9998 + 1) e _ _).run P w = _
    exact run_equalIn_int w 9998 e k k x y hE
  show (Op.equalIn (9999 + 1) t _ _).run P w = _
  unfold Op.equalIn
  simp only [Sem.run_bind, run_underlying hT w, Result.andThen_ok]
  simp [Std.Legacy.Range.forIn_eq_forIn_range', Std.Legacy.Range.size, List.range', Sem.run_bind, hpart, hq, hsz]
  by_cases h0 : a0 = b0
  rotate_left
  · simp [h0]
  subst h0
  try simp
  by_cases h1 : a1 = b1
  rotate_left
  · simp [h1]
  subst h1
  try simp
  by_cases h2 : a2 = b2
  rotate_left
  · simp [h2]
  subst h2
  try simp
  by_cases h3 : a3 = b3
  rotate_left
  · simp [h3]
  subst h3
  try simp


/-- '==' of arrays of 8 numbers. -/
theorem run_eql_arr8 {P : Program} {t e : TypeId} {k : IntKind} (w : World) (hT : P.underlying t = some (.array 8 e)) (hE : P.underlying e = some (.int k)) (hs : (P.info? e).map (·.size) = some 1) (hp : P.plainKey e = true) (a0 a1 a2 a3 a4 a5 a6 a7 b0 b1 b2 b3 b4 b5 b6 b7 : Int) :
    (Op.equalIn 10000 t (.agg #[.int k a0, .int k a1, .int k a2, .int k a3, .int k a4, .int k a5, .int k a6, .int k a7]) (.agg #[.int k b0, .int k b1, .int k b2, .int k b3, .int k b4, .int k b5, .int k b6, .int k b7])).run P w = .ok ([a0, a1, a2, a3, a4, a5, a6, a7] == [b0, b1, b2, b3, b4, b5, b6, b7]) w := by
  have hsz : (Go.sizeOf e).run P w = .ok 1 w := by
    cases hq : P.info? e with
    | none => simp [hq] at hs
    | some i =>
      have : i.size = 1 := by simpa [hq] using hs
      simp [Go.sizeOf, typeInfo, hq, this]
  have hpart : ∀ (xs : Array Value) (off : Nat), off < xs.size → (part e xs off).run P w = .ok xs[off]! w := fun xs off h => run_part_plain (w := w) hp (by simp [h])
  have hq : ∀ x y : Int, (Op.equalIn 9999 e (.int k x) (.int k y)).run P w = .ok (x == y) w := fun x y => by
    show (Op.equalIn (9998 + 1) e _ _).run P w = _
    exact run_equalIn_int w 9998 e k k x y hE
  show (Op.equalIn (9999 + 1) t _ _).run P w = _
  unfold Op.equalIn
  simp only [Sem.run_bind, run_underlying hT w, Result.andThen_ok]
  simp [Std.Legacy.Range.forIn_eq_forIn_range', Std.Legacy.Range.size, List.range', Sem.run_bind, hpart, hq, hsz]
  by_cases h0 : a0 = b0
  rotate_left
  · simp [h0]
  subst h0
  try simp
  by_cases h1 : a1 = b1
  rotate_left
  · simp [h1]
  subst h1
  try simp
  by_cases h2 : a2 = b2
  rotate_left
  · simp [h2]
  subst h2
  try simp
  by_cases h3 : a3 = b3
  rotate_left
  · simp [h3]
  subst h3
  try simp
  by_cases h4 : a4 = b4
  rotate_left
  · simp [h4]
  subst h4
  try simp
  by_cases h5 : a5 = b5
  rotate_left
  · simp [h5]
  subst h5
  try simp
  by_cases h6 : a6 = b6
  rotate_left
  · simp [h6]
  subst h6
  try simp
  by_cases h7 : a7 = b7
  rotate_left
  · simp [h7]
  subst h7
  try simp
/-- '==' of structs of three numbers. -/
theorem run_eql_st3 {P : Program} {t : TypeId} {f0 f1 f2 : Field} {k0 k1 k2 : IntKind} (w : World) (hT : P.underlying t = some (.struct #[f0, f1, f2])) (hst : P.stoodInHeld t = false) (hn : f0.name ≠ "_" ∧ f1.name ≠ "_" ∧ f2.name ≠ "_") (ho : f0.offset = 0 ∧ f1.offset = 1 ∧ f2.offset = 2)
    (h0 : P.underlying f0.type = some (.int k0)) (h1 : P.underlying f1.type = some (.int k1)) (h2 : P.underlying f2.type = some (.int k2)) (p0 : P.plainKey f0.type = true) (p1 : P.plainKey f1.type = true) (p2 : P.plainKey f2.type = true) (a0 a1 a2 b0 b1 b2 : Int) :
    (Op.equalIn 10000 t (.agg #[.int k0 a0, .int k1 a1, .int k2 a2]) (.agg #[.int k0 b0, .int k1 b1, .int k2 b2])).run P w = .ok ([a0, a1, a2] == [b0, b1, b2]) w := by
  have q0 : ∀ (xs : Array Value) (off : Nat), off < xs.size → (part f0.type xs off).run P w = .ok xs[off]! w := fun xs off h => run_part_plain (w := w) p0 (by simp [h])
  have q1 : ∀ (xs : Array Value) (off : Nat), off < xs.size → (part f1.type xs off).run P w = .ok xs[off]! w := fun xs off h => run_part_plain (w := w) p1 (by simp [h])
  have q2 : ∀ (xs : Array Value) (off : Nat), off < xs.size → (part f2.type xs off).run P w = .ok xs[off]! w := fun xs off h => run_part_plain (w := w) p2 (by simp [h])
  have e0 : ∀ x y : Int, (Op.equalIn 9999 f0.type (.int k0 x) (.int k0 y)).run P w = .ok (x == y) w := fun x y => by
    show (Op.equalIn (9998 + 1) _ _ _).run P w = _
    exact run_equalIn_int w 9998 f0.type k0 k0 x y h0
  have e1 : ∀ x y : Int, (Op.equalIn 9999 f1.type (.int k1 x) (.int k1 y)).run P w = .ok (x == y) w := fun x y => by
    show (Op.equalIn (9998 + 1) _ _ _).run P w = _
    exact run_equalIn_int w 9998 f1.type k1 k1 x y h1
  have e2 : ∀ x y : Int, (Op.equalIn 9999 f2.type (.int k2 x) (.int k2 y)).run P w = .ok (x == y) w := fun x y => by
    show (Op.equalIn (9998 + 1) _ _ _).run P w = _
    exact run_equalIn_int w 9998 f2.type k2 k2 x y h2
  show (Op.equalIn (9999 + 1) t _ _).run P w = _
  unfold Op.equalIn
  simp only [Sem.run_bind, run_underlying hT w, Result.andThen_ok]
  simp [Sem.run_bind, q0, q1, q2, e0, e1, e2, hst, hn.1, hn.2.1, hn.2.2, ho.1, ho.2.1, ho.2.2, run_program]
  by_cases h0 : a0 = b0
  rotate_left
  · simp [h0]
  subst h0
  try simp
  by_cases h1 : a1 = b1
  rotate_left
  · simp [h1]
  subst h1
  try simp
  by_cases h2 : a2 = b2
  rotate_left
  · simp [h2]
  subst h2
  try simp

/-- '==' of two aggregates, out of a run of the comparison. -/
theorem wpList_eql_agg {P : Program} {ops : Array Oper} {rest : List Oper} {o : Oper} {a : Act} {w : World} {Q : Exit → Act → World → Prop} (t u : TypeId) (x y : Operand) (ho : o.op = .binOp .eql t x y u) (xs ys : Array Value) (hx : a.eval x = .agg xs) (hy : a.eval y = .agg ys)
    (hw : Region.wanted o (yielded ops a.tmps) = true) (hm : P.eqGuardType P.depth t = false) (b : Bool) (hrun : (Op.equalIn 10000 t (.agg xs) (.agg ys)).run P w = .ok b w) (h : wpList P ops Q rest (a.put o.dst (.bool b)) w) : wpList P ops Q (o :: rest) a w := by
  refine BigFrame.wpList_want hw fun K hK => ?_
  unfold Oper.wp execOp
  simp only [ho, hx, hy, Sem.run_bind, fun w => run_eqGuard_agg (P := P) w .eql t x y xs ys hm, run_eql_struct, hrun, Result.andThen_ok, Sem.run_pure]
  exact hK _ _ (by simpa using h)
end Go.Proofs.YthnhknomjepijaaDoor
