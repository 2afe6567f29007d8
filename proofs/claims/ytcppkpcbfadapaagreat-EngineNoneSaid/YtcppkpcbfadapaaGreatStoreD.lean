/-
  A store as a list of requests; Len; what a store that is none tells (layer 42).
  Conditions: none.
-/
import Derived.Test.YtcppkpcbfadapaaGreatChecked
import Derived.Test.YtcppkpcbfadapaaGreatStoreA
import Derived.Test.YtcppkpcbfadapaaGreatStoreC
namespace Go.Proofs.YtcppkpcbfadapaaGreat
set_option linter.unusedVariables false
set_option linter.unusedSimpArgs false
open Go.RowKit Go.ChangeShapes Go.WideShapes
set_option maxRecDepth 100000

structure Req where
  id : Int
  state : Int
  due : Int
  p : Pt
  a : Ans

structure ReqIn (r : Req) : Prop where
  id : InK .i64 r.id
  state : InK .i64 r.state
  due : InK .i64 r.due
  p : PtIn r.p
  a : AnsIn r.a

def tReq : Ty Req := tMap (fun (x : Int × Int × Int × Pt × Ans) => ⟨x.1, x.2.1, x.2.2.1, x.2.2.2.1, x.2.2.2.2⟩) (tPair tI (tPair tI (tPair tI (tPair tPoint tAns))))
theorem tReq_size : tReq.size = 23 := rfl

def reqCells (r : Req) (A : Option Addr) (n c : Nat) (B : Option Addr) (m d : Nat) (L : Option Addr) (nl cl : Nat) : Array Value :=
  #[.int .i64 r.id, .int .i64 r.state, .int .i64 r.due, .int .i64 r.p.model, .int .i64 r.p.block, .int .i64 r.p.spent, .int .i64 r.p.input.h, .int .i64 r.p.input.v, .int .i64 r.p.input.c, .slice A n c, .int .i64 r.p.value.h, .int .i64 r.p.value.v, .int .i64 r.p.value.c, .slice B m d,
    .int .i64 r.a.id, .int .i64 r.a.model, .int .i64 r.a.block, .int .i64 r.a.cls, .int .i64 r.a.margin, .slice L nl cl, .int .i64 r.a.spent, .int .i64 r.a.why, .int .i64 r.a.tick]

theorem req_open {w : World} {S : Nat → Prop} {cs : List Value} {r : Req} (h : tReq.rep w S cs r) :
    ∃ A n c B m d L nl cl, cs = (reqCells r A n c B m d L nl cl).toList ∧ ReqIn r ∧ Sl (tInt .i8) w S A n c r.p.input.data ∧ Sl (tInt .i8) w S B m d r.p.value.data ∧ Sl (tInt .i32) w S L nl cl r.a.logits := by
  obtain ⟨⟨a, b, c, t, u⟩, rfl, _, _, rfl, ⟨rfl, h1⟩, _, _, rfl, ⟨rfl, h2⟩, _, _, rfl, ⟨rfl, h3⟩, _, _, rfl, ht, hu⟩ := h
  obtain ⟨A, n, cap, B, m, d, rfl, h4, hs, hs'⟩ := point_open ht
  obtain ⟨L, nl, cl, rfl, h5, hl⟩ := ans_open hu
  exact ⟨A, n, cap, B, m, d, L, nl, cl, rfl, ⟨h1, h2, h3, h4, h5⟩, hs, hs', hl⟩

theorem ans_rep {w : World} {S : Nat → Prop} {d : Ans} {A : Option Addr} {n cap : Nat} (h : AnsIn d) (hs : Sl (tInt .i32) w S A n cap d.logits) :
    tAns.rep w S [.int .i64 d.id, .int .i64 d.model, .int .i64 d.block, .int .i64 d.cls, .int .i64 d.margin, .slice A n cap, .int .i64 d.spent, .int .i64 d.why, .int .i64 d.tick] d :=
  ⟨(d.id, d.model, d.block, d.cls, d.margin, d.logits, d.spent, d.why, d.tick), rfl, _, _, rfl, ⟨rfl, h.id⟩, _, _, rfl, ⟨rfl, h.model⟩, _, _, rfl, ⟨rfl, h.block⟩, _, _, rfl, ⟨rfl, h.cls⟩, _, _, rfl, ⟨rfl, h.margin⟩, _, _, rfl, hs.rep, _, _, rfl, ⟨rfl, h.spent⟩, _, _, rfl, ⟨rfl, h.why⟩, rfl, h.tick⟩

theorem req_rep {w : World} {S : Nat → Prop} {r : Req} {A B L : Option Addr} {n c m d nl cl : Nat} (h : ReqIn r) (hs : Sl (tInt .i8) w S A n c r.p.input.data) (hs' : Sl (tInt .i8) w S B m d r.p.value.data) (hl : Sl (tInt .i32) w S L nl cl r.a.logits) :
    tReq.rep w S (reqCells r A n c B m d L nl cl).toList r :=
  ⟨(r.id, r.state, r.due, r.p, r.a), rfl, _, _, rfl, ⟨rfl, h.id⟩, _, _, rfl, ⟨rfl, h.state⟩, _, _, rfl, ⟨rfl, h.due⟩, _, _, rfl, point_rep h.p hs hs', ans_rep h.a hl⟩

def noAns : Ans := ⟨0, 0, 0, 0, 0, [], 0, 0, 0⟩
def noReq : Req := ⟨0, 0, 0, noPoint, noAns⟩

/-- A store lies in block g, its map in block b; D: the map as it reads; vs: the requests' cells. -/
structure StoreIn (w : World) (g b : Nat) (m : Int) (rs : List Req) (D : DataW (Array Value)) (vs : List (Array Value)) : Prop where
  blk : Blk w g 113 #[.map (some b), .int .i64 m]
  own : w.ownsMap Tryz.prog 3 reqR b vs.length D
  holds : Holds D vs
  ne : g ≠ b
  len : vs.length = rs.length
  at_ : ∀ (i : Nat) (r : Req), rs[i]? = some r → ∃ cs : Array Value, vs[i]? = some cs ∧ tReq.rep w (fun x => x < w.heap.size ∧ x ≠ b) cs.toList r

/-- A store lies in block g, its map in block b. -/
structure StoreAt (w : World) (g b : Nat) (m : Int) (rs : List Req) : Prop where
  out : ∃ (D : DataW (Array Value)) (vs : List (Array Value)), StoreIn w g b m rs D vs

theorem StoreAt.later {w w' : World} {g b : Nat} {m : Int} {rs : List Req} (h : StoreAt w g b m rs) (hb : Below w.heap.size w w') : StoreAt w' g b m rs := by
  obtain ⟨D, vs, ⟨h1, h2, h3, h4, h5, h6⟩⟩ := h.out
  refine ⟨D, vs, ⟨h1.later hb, ?_, h3, h4, h5, fun i r hi => ?_⟩⟩
  · exact h2.kept (row := none) ⟨hb.os, hb.tape, hb.output, hb.size, fun k hk _ => hb.block k hk⟩ (by simp)
  · obtain ⟨cs, hc, hr⟩ := h6 i r hi
    exact ⟨cs, hc, tReq.more (tReq.keep hr fun x hx => hb.block x hx.1) fun x hx => ⟨Nat.lt_of_lt_of_le hx.1 hb.size, hx.2⟩⟩

/-- The map's block. -/
theorem StoreAt.map {w : World} {g b : Nat} {m : Int} {rs : List Req} (h : StoreAt w g b m rs) : ∃ es clock, w.heap[b]? = some (.map es clock) ∧ es.size = rs.length := by
  obtain ⟨D, vs, ⟨h1, h2, h3, h4, h5, h6⟩⟩ := h.out
  have hs := h3.size
  obtain ⟨es, clock, hb, F, hn, rfl⟩ := h2
  refine ⟨es, clock, hb, ?_⟩
  have e1 := length_read (P := Tryz.prog) (k := 3) (R0 := reqR) es
  rw [← h5, ← hs]
  exact e1.symm

theorem StoreAt.len {w : World} {g b : Nat} {m : Int} {rs : List Req} (h : StoreAt w g b m rs) (ty : TypeId) : (Builtin.len_ #[111] ty #[.map (some b)]).run Tryz.prog w = .ok (.int .i64 rs.length) w := by
  obtain ⟨D, vs, ⟨h1, h2, h3, h4, h5, h6⟩⟩ := h.out
  rw [← h5, ← h3.size]
  exact h2.len Tryz.underlying111 ty

theorem StoreAt.cells {w : World} {g b : Nat} {m : Int} {rs : List Req} (h : StoreAt w g b m rs) : w.cell? ⟨g, 0, none⟩ = some (.map (some b)) ∧ w.cell? ⟨g, 1, none⟩ = some (.int .i64 m) := by
  obtain ⟨D, vs, ⟨h1, _⟩⟩ := h.out
  exact ⟨h1.cell 0, h1.cell 1⟩


theorem storeNew_good (m : Int) (w : World) (h1 : 1 ≤ m) (h2 : m ≤ 4096) :
    Calls Tryz.prog 45 #[.int .i64 m] w fun e w' => e = .returned (.tuple #[.pointer (some ⟨w.heap.size + 1, 0, none⟩), .int .i64 0]) ∧ StoreAt w' (w.heap.size + 1) w.heap.size m [] ∧ Below w.heap.size w w' := by
  have t1 : decide (m < 1) = false := by simp; omega
  have t2 : decide (4096 < m) = false := by simp; omega
  have hmm := @run_makeMap Tryz.prog
  go_enter Tryz.func45, Tryz.ntmps45
  go_wp2_with fail
  go_ret2
  refine ⟨rfl, ⟨.map [], [], ⟨Blk.now _ _ _ _ (by simp), ?_, Holds.empty, by simp, rfl, by simp⟩⟩, ((Below.refl _ _).alloc (Nat.le_refl _) _).alloc (by simp) _⟩
  exact (World.ownsMap_made w Tryz.prog 3 reqR).alloc _

theorem key_nth (i : Nat) (hi : i < 1099511627776) : keyOf Tryz.prog 3 (.int .i64 ((i : Int) + 1)) = some (nth i) :=
  Maps.keyOf_int_mk Tryz.underlying3 (by simp only [Lit.wf, IntKind.min, IntKind.max, IntKind.signed, IntKind.bits, Bool.and_eq_true, decide_eq_true_eq]; constructor <;> (simp; omega))

theorem storeAdd_nil (p : Pt) (A B : Option Addr) (n c k d : Nat) (due : Int) (w : World) :
    Calls Tryz.prog 19 #[.pointer none, .agg (ptCells p A n c B k d), .int .i64 due] w fun e w' => e = .returned (.tuple #[.int .i64 0, .int .i64 1]) ∧ Below w.heap.size w w' := by
  unfold ptCells
  go_enter Tryz.func19, Tryz.ntmps19
  go_wp2_with fail
  go_ret2
  exact ⟨rfl, (Below.refl _ _).alloc (Nat.le_refl _) _⟩

theorem storeAdd_full (g b : Nat) (m : Int) (rs : List Req) (p : Pt) (A B : Option Addr) (n c k d : Nat) (due : Int) (w : World) (h : StoreAt w g b m rs) (hf : (rs.length : Int) = m) :
    Calls Tryz.prog 19 #[.pointer (some ⟨g, 0, none⟩), .agg (ptCells p A n c B k d), .int .i64 due] w fun e w' => e = .returned (.tuple #[.int .i64 0, .int .i64 34]) ∧ Below w.heap.size w w' := by
  unfold ptCells
  have H := Lib.hid h
  clear h
  go_enter Tryz.func19, Tryz.ntmps19
  go_wp2_with fail
  obtain ⟨w1, hw1⟩ : ∃ w1, w.alloc (.cells (ptCells p A n c B k d) 67) = w1 := ⟨_, rfl⟩
  have g1 : Below w.heap.size w w1 := by rw [← hw1]; exact (Below.refl _ _).alloc (Nat.le_refl _) _
  simp only [ptCells] at hw1
  rw [hw1]
  have H1 := Lib.hid (H.out.later g1)
  clear hw1
  have hl := fun (x : Ext w1) => (H1.out.later x.2).len
  have c0 := fun (x : Ext w1) => (H1.out.later x.2).cells.1
  have c1 := fun (x : Ext w1) => (H1.out.later x.2).cells.2
  have tm : ((rs.length : Int) == m) = true := by simp [hf]
  refine wp_region_ext w1 (by kernel_rfl) (by kernel_rfl) (Below.refl _ _) ?_
  repeat (go_big_quiet_step (fail))
  refine wpQuiet_nil ?_
  rintro _ ⟨⟨w3, hb⟩, rfl⟩
  have g3 := below_call g1 hb g1.size
  go_wp2_with fail
  go_ret2
  exact ⟨rfl, g3⟩
end Go.Proofs.YtcppkpcbfadapaaGreat
