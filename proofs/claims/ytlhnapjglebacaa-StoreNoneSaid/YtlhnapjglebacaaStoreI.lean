/-
  The walk of the law StoreNone.
  Conditions: none.
-/
import Derived.Test.YtlhnapjglebacaaChecked
import Derived.Test.YtlhnapjglebacaaStoreH
namespace Go.Proofs.Ytlhnapjglebacaa
set_option linter.unusedVariables false
set_option linter.unusedSimpArgs false
open Go.RowKit Go.ChangeShapes Go.WideShapes
set_option maxRecDepth 100000
set_option maxHeartbeats 2000000

theorem storeNone_walk (x : Int) (hx : InK .i64 x) (cs : Array Value) (o : Do) {W : World} (h : tDo.rep W (blo W.heap.size) cs.toList o) (w : World) (e : W = w) :
    Calls Try.prog 13 #[.int .i64 x, .agg cs] w fun e w' => e = .returned (.bool true) ∧ Below w.heap.size w w' := by
  subst e
  obtain ⟨A, n, c, B, m, d, L, nl, cl, hcs, _⟩ := do_open h
  obtain rfl : cs = #[.int .u8 o.kind, .int .i64 o.id, .int .i64 o.due, .int .i64 o.p.model, .int .i64 o.p.block, .int .i64 o.p.spent, .int .i64 o.p.input.h, .int .i64 o.p.input.v, .int .i64 o.p.input.c, .slice A n c, .int .i64 o.p.value.h, .int .i64 o.p.value.v, .int .i64 o.p.value.c, .slice B m d, .int .i64 o.a.id, .int .i64 o.a.model, .int .i64 o.a.block, .int .i64 o.a.cls, .int .i64 o.a.margin, .slice L nl cl, .int .i64 o.a.spent, .int .i64 o.a.why, .int .i64 o.a.tick] := by rw [← Array.toList_inj]; exact hcs
  clear h hcs
  go_enter Try.func13, Try.ntmps13
  go_wp2_with fail
  have k0 : Below W.heap.size W (W.alloc (.cells (#[.int .u8 o.kind, .int .i64 o.id, .int .i64 o.due, .int .i64 o.p.model, .int .i64 o.p.block, .int .i64 o.p.spent, .int .i64 o.p.input.h, .int .i64 o.p.input.v, .int .i64 o.p.input.c, .slice A n c, .int .i64 o.p.value.h, .int .i64 o.p.value.v, .int .i64 o.p.value.c, .slice B m d, .int .i64 o.a.id, .int .i64 o.a.model, .int .i64 o.a.block, .int .i64 o.a.cls, .int .i64 o.a.margin, .slice L nl cl, .int .i64 o.a.spent, .int .i64 o.a.why, .int .i64 o.a.tick]) 103)) := (Below.refl _ _).alloc (Nat.le_refl _) _
  have B0 := Lib.hid (Blk.now W W.heap.size 103 (#[.int .u8 o.kind, .int .i64 o.id, .int .i64 o.due, .int .i64 o.p.model, .int .i64 o.p.block, .int .i64 o.p.spent, .int .i64 o.p.input.h, .int .i64 o.p.input.v, .int .i64 o.p.input.c, .slice A n c, .int .i64 o.p.value.h, .int .i64 o.p.value.v, .int .i64 o.p.value.c, .slice B m d, .int .i64 o.a.id, .int .i64 o.a.model, .int .i64 o.a.block, .int .i64 o.a.cls, .int .i64 o.a.margin, .slice L nl cl, .int .i64 o.a.spent, .int .i64 o.a.why, .int .i64 o.a.tick]) rfl)
  refine (storeAdd_nil o.p A B n c m d o.due _).mono ?_
  rintro e w1 ⟨rfl, b1⟩
  have c1 := below_call k0 b1 k0.size
  have B1 := Lib.hid (B0.out.later b1)
  clear k0 b1 B0
  go_wp2_with fail
  refine (storeGet_nil x _).mono ?_
  rintro e w2 ⟨rfl, b2⟩
  have c2 := below_call c1 b2 c1.size
  have B2 := Lib.hid (B1.out.later b2)
  have lt2 := B2.out.lt
  clear c1 b2 B1
  go_wp2_with (refine wpList_store_all rfl 107 (.tmp 8) (.tmp 23) rfl w2.heap.size noCells rfl rfl _ _ (Blk.now _ _ _ _ (by simp)) rfl (by kernel_rfl) (by kernel_rfl) ?_; intro w3 B3 g3)
  have z3 := g3.size
  have c3 : Below W.heap.size W w3 := (c2.alloc c2.size _).grown g3 (by have := c2.size; simp; omega) (fun k h => by have := Option.some.inj h; omega)
  have B3' := Lib.hid (show Blk w3 W.heap.size _ _ from ⟨(g3.block _ (by simp; omega) (by intro e; have := Option.some.inj e; omega)).trans (B2.out.past _).heap⟩)
  clear B3 g3 c2 B2 z3
  refine (storeRun_nil x w3).mono ?_
  rintro e w4 ⟨rfl, b4⟩
  have c4 := below_call c3 b4 c3.size
  have B4 := Lib.hid (B3'.out.later b4)
  have d4 := fun i => B4.out.cell i
  clear b4 c3 B3'
  go_wp2_with fail
  refine (storeMove_nil x o.p A B n c m d w4).mono ?_
  rintro e w5 ⟨rfl, b5⟩
  have c5 := below_call c4 b5 c4.size
  have B5 := Lib.hid (B4.out.later b5)
  have d5 := fun i => B5.out.cell i
  clear b5 c4 B4 d4
  go_wp2_with fail
  refine (storeAnswer_nil x o.a L nl cl w5).mono ?_
  rintro e w6 ⟨rfl, b6⟩
  have c6 := below_call c5 b6 c5.size
  have B6 := Lib.hid (B5.out.later b6)
  have d6 := fun i => B6.out.cell i
  clear b6 c5 B5 d5
  go_wp2_with fail
  refine (storeCancel_nil x w6).mono ?_
  rintro e w7 ⟨rfl, b7⟩
  have c7 := below_call c6 b7 c6.size
  have B7 := Lib.hid (B6.out.later b7)
  have d7 := fun i => B7.out.cell i
  clear b7 c6 B6 d6
  go_wp2_with fail
  refine (storeCount_nil x w7).mono ?_
  rintro e w8 ⟨rfl, b8⟩
  have c8 := below_call c7 b8 c7.size
  have B8 := Lib.hid (B7.out.later b8)
  have d8 := fun i => B8.out.cell i
  clear b8 c7 B7 d7
  go_wp2_with fail
  refine (storeLen_nil w8).mono ?_
  rintro e w9 ⟨rfl, b9⟩
  have c9 := below_call c8 b9 c8.size
  have B9 := Lib.hid (B8.out.later b9)
  have d9 := fun i => B9.out.cell i
  clear b9 c8 B8 d8
  go_wp2_with fail
  refine (known42_any w9).mono ?_
  rintro e w10 ⟨rfl, b10⟩
  have c10 := below_call c9 b10 c9.size
  have B10 := Lib.hid (B9.out.later b10)
  have d10 := fun i => B10.out.cell i
  clear b10 c9 B9 d9
  go_wp2_with fail
  go_ret
  exact ⟨rfl, c10⟩
end Go.Proofs.Ytlhnapjglebacaa
