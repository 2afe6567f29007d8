/-
  sat (layer 1): the product of two integers that is told where it leaves 64 bits. math/bits.Mul64 by the shelf's contract.
  Conditions: none.
  Nodes, tensors and sums as Lean data; an argument of these types opened.
  Conditions: none.
  A region that draws its order and whose operations read, or call what only makes memory: one walk of the text's order serves every order (the kit's theorem on quiet regions, at the class 'old memory is as it was').
  Conditions: none (over any program).
-/
import Derived.Test.YtlpejbopdmledaaChecked
import Derived.Test.YtlpejbopdmledaaJ01
import Derived.Shelf.Bits.Mul64
set_option linter.unusedVariables false
set_option linter.unusedSimpArgs false
namespace Go.Proofs
open Go.Shelf
def Try.lays264_ren : Go.Shelf.Ren := ⟨fun | 264 => 68 | n => n, fun | 53 => 104 | 46 => 110 | n => n, fun | n => n⟩
theorem Try.lays264 : Go.Proofs.Lays.n264 Try.prog Try.lays264_ren := {
  mixed := by kernel_rfl
  f264 := Try.func68.trans (congrArg some (by kernel_rfl))
  t46 := Try.underlying110
  a46 := Try.isAgg110
  z46 := Try.sizeOf110
  v46 := Try.zeroValue110
  t53 := Try.underlying104
  a53 := Try.isAgg104
  z53 := Try.sizeOf104
  v53 := Try.zeroValue104 }
open Go.RowKit Go.Lib in
theorem Try.bits_Mul64 (x y : Nat) (hx : x < 18446744073709551616) (hy : y < 18446744073709551616) (w : World) :
    Calls Try.prog 68 #[.int .u64 x, .int .u64 y] w fun e w' => e = .returned (.tuple #[.int .u64 ((x * y / 18446744073709551616 : Nat) : Int), .int .u64 ((x * y % 18446744073709551616 : Nat) : Int)]) ∧ w' = w := Any.bits_Mul64 Try.lays264 x y hx hy w
end Go.Proofs
namespace Go.Proofs.Ytlpejbopdmledaa
open Go.RowKit Go.ChangeShapes Go.WideShapes
set_option maxRecDepth 100000

theorem satSize_any (a : Int) (w : World) (ha : InK .i64 a) : Calls Try.prog 69 #[.int .i64 a] w fun e w' => e = .returned (.int .u64 (a.natAbs : Int)) ∧ w = w' := by
  rw [inK_i64] at ha
  obtain ⟨a1, a2⟩ := ha
  by_cases h : a < 0
  · go_enter Try.func69, Try.ntmps69
    go_wp2
    go_ret
    exact ⟨ret_int (by simp only [IntKind.wrap_u64]; omega), rfl⟩
  · go_enter Try.func69, Try.ntmps69
    go_wp2
    go_ret
    exact ⟨ret_int (by omega), rfl⟩

/-- How the product of two integers is told. -/
def satEnd (p : Int) : Ending := if InK .i64 p then .returned (.tuple #[.int .i64 p, .bool true]) else .returned (.tuple #[.int .i64 0, .bool false])
theorem sat_bad {p : Int} (h : ¬ InK .i64 p) : Ending.returned (.tuple #[.int .i64 0, .bool false]) = satEnd p := by unfold satEnd; rw [if_neg h]
theorem sat_ok {v p : Int} (h : v = p) (hk : InK .i64 p) : Ending.returned (.tuple #[.int .i64 v, .bool true]) = satEnd p := by unfold satEnd; rw [if_pos hk, h]

theorem satTimes_any (a b : Int) (w : World) (ha : InK .i64 a) (hb : InK .i64 b) :
    Calls Try.prog 55 #[.int .i64 a, .int .i64 b] w fun e w' =>
      e = satEnd (a * b) ∧ w = w' := by
  have HA := Lib.hid ha
  have HB := Lib.hid hb
  rw [inK_i64] at ha hb
  obtain ⟨a1, a2⟩ := ha
  obtain ⟨b1, b2⟩ := hb
  obtain ⟨x, hx⟩ : ∃ x : Nat, x = a.natAbs := ⟨_, rfl⟩
  obtain ⟨y, hy⟩ : ∃ y : Nat, y = b.natAbs := ⟨_, rfl⟩
  have hx1 : x < 18446744073709551616 := by omega
  have hy1 : y < 18446744073709551616 := by omega
  obtain ⟨hi, hhi⟩ : ∃ hi : Nat, hi = x * y / 18446744073709551616 := ⟨_, rfl⟩
  obtain ⟨lo, hlo⟩ : ∃ lo : Nat, lo = x * y % 18446744073709551616 := ⟨_, rfl⟩
  have hab : (a * b).natAbs = x * y := by rw [Int.natAbs_mul, hx, hy]
  have hsg : (a < 0 ∧ b < 0 ∨ 0 ≤ a ∧ 0 ≤ b) → 0 ≤ a * b := by
    rintro (⟨h, h'⟩ | ⟨h, h'⟩)
    · exact Int.le_of_lt (Int.mul_pos_of_neg_of_neg h h')
    · exact Int.mul_nonneg (by omega) (by omega)
  have hsg2 : (a < 0 ∧ 0 ≤ b ∨ 0 ≤ a ∧ b < 0) → a * b ≤ 0 := by
    rintro (⟨h, h'⟩ | ⟨h, h'⟩)
    · exact Int.mul_nonpos_of_nonpos_of_nonneg (by omega) (by omega)
    · exact Int.mul_nonpos_of_nonneg_of_nonpos (by omega) (by omega)
  generalize hp : a * b = p at *
  generalize hq : x * y = q at *
  have HHI := Lib.hid hhi
  have HLO := Lib.hid hlo
  have HX := Lib.hid hx
  have HY := Lib.hid hy
  have HP := Lib.hid hp
  have HQ := Lib.hid hq
  have HAB := Lib.hid hab
  have HS := Lib.hid hsg
  have HS2 := Lib.hid hsg2
  clear hhi hlo hx hy hp hq hab hsg hsg2
  go_enter Try.func55, Try.ntmps55
  go_wp2_with fail
  refine (satSize_any a _ HA.out).mono ?_
  rintro e w1 ⟨rfl, rfl⟩
  go_wp2_with fail
  refine (satSize_any b _ HB.out).mono ?_
  rintro e w1 ⟨rfl, rfl⟩
  rw [← HX.out, ← HY.out]
  go_wp2_with fail
  refine (Try.bits_Mul64 x y hx1 hy1 _).mono ?_
  rintro e w1 ⟨rfl, rfl⟩
  rw [HQ.out, ← HHI.out, ← HLO.out]
  by_cases s1 : a < 0
  · by_cases s2 : b < 0
    · have sg := HS.out (.inl ⟨by omega, by omega⟩)
      have SG := Lib.hid sg
      have t1 : decide (a < 0) = true := by simp; omega
      have t2 : decide (b < 0) = true := by simp; omega
      clear sg
      go_wp2_with fail
      all_goals
        go_ret2
        have k1 := HHI.out
        have k2 := HLO.out
        have k3 := HAB.out
        have k4 := SG.out
        first
          | (refine ⟨sat_bad ?_, rfl⟩; rw [inK_i64]; omega; done)
          | (refine ⟨sat_ok ?_ ?_, rfl⟩; ((try simp only [IntKind.wrap_u64, IntKind.wrap_i64, wrap64]); omega); rw [inK_i64]; omega; done)
    · have sg := HS2.out (.inl ⟨by omega, by omega⟩)
      have SG := Lib.hid sg
      have t1 : decide (a < 0) = true := by simp; omega
      have t2 : decide (b < 0) = false := by simp; omega
      clear sg
      go_wp2_with fail
      all_goals
        go_ret2
        have k1 := HHI.out
        have k2 := HLO.out
        have k3 := HAB.out
        have k4 := SG.out
        first
          | (refine ⟨sat_bad ?_, rfl⟩; rw [inK_i64]; omega; done)
          | (refine ⟨sat_ok ?_ ?_, rfl⟩; ((try simp only [IntKind.wrap_u64, IntKind.wrap_i64, wrap64]); omega); rw [inK_i64]; omega; done)
  · by_cases s2 : b < 0
    · have sg := HS2.out (.inr ⟨by omega, by omega⟩)
      have SG := Lib.hid sg
      have t1 : decide (a < 0) = false := by simp; omega
      have t2 : decide (b < 0) = true := by simp; omega
      clear sg
      go_wp2_with fail
      all_goals
        go_ret2
        have k1 := HHI.out
        have k2 := HLO.out
        have k3 := HAB.out
        have k4 := SG.out
        first
          | (refine ⟨sat_bad ?_, rfl⟩; rw [inK_i64]; omega; done)
          | (refine ⟨sat_ok ?_ ?_, rfl⟩; ((try simp only [IntKind.wrap_u64, IntKind.wrap_i64, wrap64]); omega); rw [inK_i64]; omega; done)
    · have sg := HS.out (.inr ⟨by omega, by omega⟩)
      have SG := Lib.hid sg
      have t1 : decide (a < 0) = false := by simp; omega
      have t2 : decide (b < 0) = false := by simp; omega
      clear sg
      go_wp2_with fail
      all_goals
        go_ret2
        have k1 := HHI.out
        have k2 := HLO.out
        have k3 := HAB.out
        have k4 := SG.out
        first
          | (refine ⟨sat_bad ?_, rfl⟩; rw [inK_i64]; omega; done)
          | (refine ⟨sat_ok ?_ ?_, rfl⟩; ((try simp only [IntKind.wrap_u64, IntKind.wrap_i64, wrap64]); omega); rw [inK_i64]; omega; done)

end Go.Proofs.Ytlpejbopdmledaa
set_option linter.unusedVariables false
set_option linter.unusedSimpArgs false
namespace Go.Proofs.Ytlpejbopdmledaa
open Go.RowKit Go.ChangeShapes Go.WideShapes
set_option maxRecDepth 100000

structure Node where
  kind : Int
  a : Int
  b : Int
  k : Int
  s : Int
  p : Int
  out : Int
  za : Int
  zb : Int
  w : List Int
  bias : List Int
  qm : Int
  qs : Int
  qz : Int
  rm : Int
  rs : Int
  rz : Int
  lo : Int
  hi : Int

structure NodeIn (d : Node) : Prop where
  kind : InK .i64 d.kind
  a : InK .i64 d.a
  b : InK .i64 d.b
  k : InK .i64 d.k
  s : InK .i64 d.s
  p : InK .i64 d.p
  out : InK .i64 d.out
  za : InK .i8 d.za
  zb : InK .i8 d.zb
  qm : InK .i32 d.qm
  qs : InK .i64 d.qs
  qz : InK .i8 d.qz
  rm : InK .i32 d.rm
  rs : InK .i64 d.rs
  rz : InK .i8 d.rz
  lo : InK .i8 d.lo
  hi : InK .i8 d.hi

abbrev NodeP := Int × Int × Int × Int × Int × Int × Int × Int × Int × List Int × List Int × (Int × Int × Int) × (Int × Int × Int) × Int × Int
def nodeOf : NodeP → Node := fun (kind, a, b, k, s, p, out, za, zb, w, bias, (qm, qs, qz), (rm, rs, rz), lo, hi) => { kind, a, b, k, s, p, out, za, zb, w, bias, qm, qs, qz, rm, rs, rz, lo, hi }
def tQuant : Ty (Int × Int × Int) := tPair (tInt .i32) (tPair (tInt .i64) (tInt .i8))
def tNodeP : Ty NodeP := tPair (tInt .i64) (tPair (tInt .i64) (tPair (tInt .i64) (tPair (tInt .i64) (tPair (tInt .i64) (tPair (tInt .i64) (tPair (tInt .i64) (tPair (tInt .i8) (tPair (tInt .i8)
  (tPair (tSlice (tInt .i8)) (tPair (tSlice (tInt .i32)) (tPair tQuant (tPair tQuant (tPair (tInt .i8) (tInt .i8))))))))))))))
def tNode : Ty Node := tMap nodeOf tNodeP

theorem node_open {w : World} {S : Nat → Prop} {cs : List Value} {d : Node} (h : tNode.rep w S cs d) :
    ∃ W nw cw B nb cb, cs = [Value.int .i64 d.kind, Value.int .i64 d.a, Value.int .i64 d.b, Value.int .i64 d.k, Value.int .i64 d.s, Value.int .i64 d.p, Value.int .i64 d.out, Value.int .i8 d.za, Value.int .i8 d.zb, Value.slice W nw cw, Value.slice B nb cb, Value.int .i32 d.qm, Value.int .i64 d.qs, Value.int .i8 d.qz, Value.int .i32 d.rm, Value.int .i64 d.rs, Value.int .i8 d.rz, Value.int .i8 d.lo, Value.int .i8 d.hi] ∧ NodeIn d ∧ Sl (tInt .i8) w S W nw cw d.w ∧ Sl (tInt .i32) w S B nb cb d.bias := by
  obtain ⟨⟨kind, a, b, k, s, p, out, za, zb, wl, bias, ⟨qm, qs, qz⟩, ⟨rm, rs, rz⟩, lo, hi⟩, rfl, h⟩ := h
  obtain ⟨_, _, rfl, ⟨rfl, h1⟩, _, _, rfl, ⟨rfl, h2⟩, _, _, rfl, ⟨rfl, h3⟩, _, _, rfl, ⟨rfl, h4⟩, _, _, rfl, ⟨rfl, h5⟩, _, _, rfl, ⟨rfl, h6⟩, _, _, rfl, ⟨rfl, h7⟩, _, _, rfl, ⟨rfl, h8⟩, _, _, rfl, ⟨rfl, h9⟩,
    _, _, rfl, hw, _, _, rfl, hbi, _, _, rfl, ⟨_, _, rfl, ⟨rfl, h10⟩, _, _, rfl, ⟨rfl, h11⟩, rfl, h12⟩, _, _, rfl, ⟨_, _, rfl, ⟨rfl, h13⟩, _, _, rfl, ⟨rfl, h14⟩, rfl, h15⟩, _, _, rfl, ⟨rfl, h16⟩, rfl, h17⟩ := h
  obtain ⟨W, cw, rfl, hw'⟩ := tSlice_iff.1 hw
  obtain ⟨B, cb, rfl, hb'⟩ := tSlice_iff.1 hbi
  exact ⟨W, _, cw, B, _, cb, rfl, ⟨h1, h2, h3, h4, h5, h6, h7, h8, h9, h10, h11, h12, h13, h14, h15, h16, h17⟩, hw', hb'⟩

/-! ### Tensors -/

structure Tensor where
  h : Int
  v : Int
  c : Int
  data : List Int

structure TensorIn (t : Tensor) : Prop where
  h : InK .i64 t.h
  v : InK .i64 t.v
  c : InK .i64 t.c

def tShape : Ty (Int × Int × Int) := tPair (tInt .i64) (tPair (tInt .i64) (tInt .i64))
def tensorOf (k : IntKind) : Ty Tensor := tMap (fun (x : (Int × Int × Int) × List Int) => ⟨x.1.1, x.1.2.1, x.1.2.2, x.2⟩) (tPair tShape (tSlice (tInt k)))
def tTensor : Ty Tensor := tensorOf .i8

theorem tensor_open {k : IntKind} {w : World} {S : Nat → Prop} {cs : List Value} {t : Tensor} (h : (tensorOf k).rep w S cs t) :
    ∃ A n cap, cs = [.int .i64 t.h, .int .i64 t.v, .int .i64 t.c, .slice A n cap] ∧ TensorIn t ∧ Sl (tInt k) w S A n cap t.data := by
  obtain ⟨⟨⟨a, b, c⟩, l⟩, rfl, _, _, rfl, ⟨_, _, rfl, ⟨rfl, h1⟩, _, _, rfl, ⟨rfl, h2⟩, rfl, h3⟩, hs⟩ := h
  obtain ⟨A, cap, rfl, hs'⟩ := tSlice_iff.1 hs
  exact ⟨A, _, cap, rfl, ⟨h1, h2, h3⟩, hs'⟩

/-- A tensor (or sums) and an error are handed back, the numbers in new memory. -/
def RetT (k : IntKind) (x : Tensor) (code : Int) (w : World) (e : Ending) (w' : World) : Prop :=
  ∃ A n cap, e = .returned (.tuple #[.agg #[.int .i64 x.h, .int .i64 x.v, .int .i64 x.c, .slice A n cap], .int .i64 code]) ∧ Sl (tInt k) w' (bin w.heap.size w'.heap.size) A n cap x.data ∧ Below w.heap.size w w'
def noTensor : Tensor := ⟨0, 0, 0, []⟩
theorem RetT.none {k : IntKind} {code : Int} {w w' : World} (hb : Below w.heap.size w w') : RetT k noTensor code w (.returned (.tuple #[.agg #[.int .i64 0, .int .i64 0, .int .i64 0, .slice none 0 0], .int .i64 code])) w' :=
  ⟨Option.none, 0, 0, rfl, Sl.nil _ _ _, hb⟩

theorem opens_i8s : Opens Try.prog 26 (tSlice (tInt .i8)) := opens_slice Try.underlying26 (by kernel_rfl) (by decide) (opens_int Try.underlying48 (by kernel_rfl))
theorem opens_i32s : Opens Try.prog 49 (tSlice (tInt .i32)) := opens_slice Try.underlying49 (by kernel_rfl) (by decide) (opens_int Try.underlying21 (by kernel_rfl))
theorem opens_i64 : Opens Try.prog 3 (tInt .i64) := opens_int Try.underlying3 (by kernel_rfl)
theorem opens_i8 : Opens Try.prog 48 (tInt .i8) := opens_int Try.underlying48 (by kernel_rfl)
theorem opens_i32 : Opens Try.prog 21 (tInt .i32) := opens_int Try.underlying21 (by kernel_rfl)
theorem opens_shape : Opens Try.prog 24 tShape := opens_struct Try.underlying24 (by kernel_rfl) (opensFrom_cons rfl opens_i64 (opensFrom_cons rfl opens_i64 (opensFrom_last rfl opens_i64)))
theorem opens_tensor : Opens Try.prog 28 tTensor := opens_map _ (opens_struct Try.underlying28 (by kernel_rfl) (opensFrom_cons rfl opens_shape (opensFrom_last rfl opens_i8s)))
theorem opens_quant : Opens Try.prog 51 tQuant := opens_struct Try.underlying51 (by kernel_rfl) (opensFrom_cons rfl opens_i32 (opensFrom_cons rfl opens_i64 (opensFrom_last rfl opens_i8)))
theorem opens_node : Opens Try.prog 53 tNode := opens_map _ (opens_struct Try.underlying53 (by kernel_rfl)
  (opensFrom_cons rfl opens_i64 (opensFrom_cons rfl opens_i64 (opensFrom_cons rfl opens_i64 (opensFrom_cons rfl opens_i64 (opensFrom_cons rfl opens_i64 (opensFrom_cons rfl opens_i64 (opensFrom_cons rfl opens_i64 (opensFrom_cons rfl opens_i8 (opensFrom_cons rfl opens_i8
  (opensFrom_cons rfl opens_i8s (opensFrom_cons rfl opens_i32s (opensFrom_cons rfl opens_quant (opensFrom_cons rfl opens_quant (opensFrom_cons rfl opens_i8 (opensFrom_last rfl opens_i8))))))))))))))))

end Go.Proofs.Ytlpejbopdmledaa
set_option linter.unusedVariables false
set_option linter.unusedSimpArgs false
namespace Go.Proofs.Ytlpejbopdmledaa
open Go.RowKit

/-- The worlds in which all that lies in w0 is as it was. -/
def Ext (w0 : World) : Type := { w : World // Below w0.heap.size w0 w }
def Ext.here (w0 : World) : Ext w0 := ⟨w0, Below.refl _ _⟩
instance (w0 : World) : Nonempty (Ext w0) := ⟨Ext.here w0⟩

section
variable {P : Program} {w0 : World}

theorem wp_region_ext {id : Nat} {Q : Exit → Act → World → Prop} {a : Act} {w : World} {l : List Oper} (w0 : World) (hm : P.follows .mixedOrders = true) (hB : Region.lexB .any l.toArray = true) (h0 : Below w0.heap.size w0 w)
    (h : wpQuiet P l.toArray (fun w' => ∃ x : Ext w0, w' = x.1) (fun a' => ∀ w', (∃ x : Ext w0, w' = x.1) → Q .normal a' w') l a) : (Code.region id l.toArray true).wp P Q a w :=
  wp_region_quiet (C := fun w' => ∃ x : Ext w0, w' = x.1) hm hB ⟨⟨w.drew, h0.drew⟩, rfl⟩ (by simpa using h)

theorem calls_ext {f : FuncId} {args : Array Value} {v : Value} (x : Ext w0) (h : Calls P f args x.1 fun e w' => e = .returned v ∧ Below x.1.heap.size x.1 w') :
    Calls P f args x.1 fun e w'' => e = .returned v ∧ ∃ y : Ext w0, w'' = y.1 :=
  h.mono fun e w' ⟨he, hb⟩ => ⟨he, ⟨w', x.2.trans (hb.mono x.2.size)⟩, rfl⟩

theorem ext_cell {p : Addr} {v : Value} (h : w0.cell? p = some v) (x : Ext w0) : x.1.cell? p = some v := (x.2.cell (World.block_lt_of_cell? w0 _ h)).trans h
theorem Blk.ext {g : Nat} {e : TypeId} {cs : Array Value} (h : Blk w0 g e cs) (x : Ext w0) : Blk x.1 g e cs := h.later x.2
end
end Go.Proofs.Ytlpejbopdmledaa
