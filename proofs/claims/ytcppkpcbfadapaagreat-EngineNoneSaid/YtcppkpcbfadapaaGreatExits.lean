/-
  Verdicts, exits and answers as Lean data; slices of numbers compared; arguments of these types opened.
  Conditions: none.
-/
import Derived.Test.YtcppkpcbfadapaaGreatChecked
import Derived.Test.YtcppkpcbfadapaaGreatEq32
import Derived.Test.YtcppkpcbfadapaaGreatNode
import Derived.Deep.DeepFit
import Derived.Handy
set_option linter.unusedVariables false
set_option linter.unusedSimpArgs false
namespace Go.Proofs.YtcppkpcbfadapaaGreat
open Go.RowKit Go.ChangeShapes Go.WideShapes
set_option maxRecDepth 100000

structure Vd where
  cls : Int
  margin : Int
  logits : List Int
  enough : Bool

structure Exit where
  model : Int
  block : Int
  steps : Int
  spent : Int
  v : Vd

structure Ans where
  id : Int
  model : Int
  block : Int
  cls : Int
  margin : Int
  logits : List Int
  spent : Int
  why : Int
  tick : Int

structure ExitIn (d : Exit) : Prop where
  model : InK .i64 d.model
  block : InK .i64 d.block
  steps : InK .i64 d.steps
  spent : InK .i64 d.spent
  cls : InK .i64 d.v.cls
  margin : InK .i64 d.v.margin

structure AnsIn (d : Ans) : Prop where
  id : InK .i64 d.id
  model : InK .i64 d.model
  block : InK .i64 d.block
  cls : InK .i64 d.cls
  margin : InK .i64 d.margin
  spent : InK .i64 d.spent
  why : InK .i64 d.why
  tick : InK .i64 d.tick

abbrev tI : Ty Int := tInt .i64
def tVd : Ty Vd := tMap (fun (x : Int × Int × List Int × Bool) => ⟨x.1, x.2.1, x.2.2.1, x.2.2.2⟩) (tPair tI (tPair tI (tPair (tSlice (tInt .i32)) tBool)))
def tExit : Ty Exit := tMap (fun (x : Int × Int × Int × Int × Vd) => ⟨x.1, x.2.1, x.2.2.1, x.2.2.2.1, x.2.2.2.2⟩) (tPair tI (tPair tI (tPair tI (tPair tI tVd))))
def tAns : Ty Ans := tMap (fun (x : Int × Int × Int × Int × Int × List Int × Int × Int × Int) => ⟨x.1, x.2.1, x.2.2.1, x.2.2.2.1, x.2.2.2.2.1, x.2.2.2.2.2.1, x.2.2.2.2.2.2.1, x.2.2.2.2.2.2.2.1, x.2.2.2.2.2.2.2.2⟩)
  (tPair tI (tPair tI (tPair tI (tPair tI (tPair tI (tPair (tSlice (tInt .i32)) (tPair tI (tPair tI tI))))))))

theorem tExit_size : tExit.size = 8 := rfl

theorem vd_open {w : World} {S : Nat → Prop} {cs : List Value} {d : Vd} (h : tVd.rep w S cs d) :
    ∃ A n cap, cs = [.int .i64 d.cls, .int .i64 d.margin, .slice A n cap, .bool d.enough] ∧ InK .i64 d.cls ∧ InK .i64 d.margin ∧ Sl (tInt .i32) w S A n cap d.logits := by
  obtain ⟨⟨a, b, l, e⟩, rfl, _, _, rfl, ⟨rfl, h1⟩, _, _, rfl, ⟨rfl, h2⟩, _, _, rfl, hs, rfl⟩ := h
  obtain ⟨A, cap, rfl, hs'⟩ := tSlice_iff.1 hs
  exact ⟨A, _, cap, rfl, h1, h2, hs'⟩

theorem exit_open {w : World} {S : Nat → Prop} {cs : List Value} {d : Exit} (h : tExit.rep w S cs d) :
    ∃ A n cap, cs = [.int .i64 d.model, .int .i64 d.block, .int .i64 d.steps, .int .i64 d.spent, .int .i64 d.v.cls, .int .i64 d.v.margin, .slice A n cap, .bool d.v.enough] ∧ ExitIn d ∧ Sl (tInt .i32) w S A n cap d.v.logits := by
  obtain ⟨⟨a, b, c, e, v⟩, rfl, _, _, rfl, ⟨rfl, h1⟩, _, _, rfl, ⟨rfl, h2⟩, _, _, rfl, ⟨rfl, h3⟩, _, _, rfl, ⟨rfl, h4⟩, hv⟩ := h
  obtain ⟨A, n, cap, rfl, h5, h6, hs⟩ := vd_open hv
  exact ⟨A, n, cap, rfl, ⟨h1, h2, h3, h4, h5, h6⟩, hs⟩

theorem exit_rep {w : World} {S : Nat → Prop} {d : Exit} {A : Option Addr} {n cap : Nat} (h : ExitIn d) (hs : Sl (tInt .i32) w S A n cap d.v.logits) :
    tExit.rep w S [.int .i64 d.model, .int .i64 d.block, .int .i64 d.steps, .int .i64 d.spent, .int .i64 d.v.cls, .int .i64 d.v.margin, .slice A n cap, .bool d.v.enough] d :=
  ⟨(d.model, d.block, d.steps, d.spent, d.v), rfl, _, _, rfl, ⟨rfl, h.model⟩, _, _, rfl, ⟨rfl, h.block⟩, _, _, rfl, ⟨rfl, h.steps⟩, _, _, rfl, ⟨rfl, h.spent⟩,
    (d.v.cls, d.v.margin, d.v.logits, d.v.enough), rfl, _, _, rfl, ⟨rfl, h.cls⟩, _, _, rfl, ⟨rfl, h.margin⟩, _, _, rfl, hs.rep, rfl⟩

theorem ans_open {w : World} {S : Nat → Prop} {cs : List Value} {d : Ans} (h : tAns.rep w S cs d) :
    ∃ A n cap, cs = [.int .i64 d.id, .int .i64 d.model, .int .i64 d.block, .int .i64 d.cls, .int .i64 d.margin, .slice A n cap, .int .i64 d.spent, .int .i64 d.why, .int .i64 d.tick] ∧ AnsIn d ∧ Sl (tInt .i32) w S A n cap d.logits := by
  obtain ⟨⟨a, b, c, e, f, l, g, i, j⟩, rfl, _, _, rfl, ⟨rfl, h1⟩, _, _, rfl, ⟨rfl, h2⟩, _, _, rfl, ⟨rfl, h3⟩, _, _, rfl, ⟨rfl, h4⟩, _, _, rfl, ⟨rfl, h5⟩, _, _, rfl, hs, _, _, rfl, ⟨rfl, h6⟩, _, _, rfl, ⟨rfl, h7⟩, rfl, h8⟩ := h
  obtain ⟨A, cap, rfl, hs'⟩ := tSlice_iff.1 hs
  exact ⟨A, _, cap, rfl, ⟨h1, h2, h3, h4, h5, h6, h7, h8⟩, hs'⟩

theorem Sl.exit_at {w : World} {S : Nat → Prop} {A : Option Addr} {n cap : Nat} {l : List Exit} (h : Sl tExit w S A n cap l) (i : Nat) (hi : i < n) :
    ∃ d L nl cl b off, l[i]? = some d ∧ A = some ⟨b, off, none⟩ ∧ S b ∧ b < w.heap.size ∧ ExitIn d ∧ Sl (tInt .i32) w S L nl cl d.v.logits ∧
      w.cell? ⟨b, off + i * 8, none⟩ = some (.int .i64 d.model) ∧ w.cell? ⟨b, off + i * 8 + 1, none⟩ = some (.int .i64 d.block) ∧ w.cell? ⟨b, off + i * 8 + 2, none⟩ = some (.int .i64 d.steps) ∧ w.cell? ⟨b, off + i * 8 + 3, none⟩ = some (.int .i64 d.spent) ∧
      w.cell? ⟨b, off + i * 8 + 4, none⟩ = some (.int .i64 d.v.cls) ∧ w.cell? ⟨b, off + i * 8 + 5, none⟩ = some (.int .i64 d.v.margin) ∧ w.cell? ⟨b, off + i * 8 + 6, none⟩ = some (.slice L nl cl) ∧ w.cell? ⟨b, off + i * 8 + 7, none⟩ = some (.bool d.v.enough) := by
  obtain ⟨d, b, off, xs, hx, hA, hS, hb, hr, hl, hc⟩ := h.cells i hi (by decide)
  obtain ⟨L, nl, cl, rfl, hd, hs⟩ := exit_open hr
  rw [tExit_size] at hc
  simp only [← Nat.add_assoc] at hc
  exact ⟨d, L, nl, cl, b, off, hx, hA, hS, hb, hd, hs, hc 0 _ rfl, hc 1 _ rfl, hc 2 _ rfl, hc 3 _ rfl, hc 4 _ rfl, hc 5 _ rfl, hc 6 _ rfl, hc 7 _ rfl⟩

theorem opens_bool_ : Opens Tryz.prog 4 tBool := opens_bool Tryz.underlying4 (by kernel_rfl)
theorem opens_verdict : Opens Tryz.prog 127 tVd := opens_map _ (opens_struct Tryz.underlying127 (by kernel_rfl) (opensFrom_cons rfl opens_i64 (opensFrom_cons rfl opens_i64 (opensFrom_cons rfl opens_i32s (opensFrom_last rfl opens_bool_)))))
theorem opens_answer : Opens Tryz.prog 33 tAns := opens_map _ (opens_struct Tryz.underlying33 (by kernel_rfl) (opensFrom_cons rfl opens_i64 (opensFrom_cons rfl opens_i64 (opensFrom_cons rfl opens_i64 (opensFrom_cons rfl opens_i64 (opensFrom_cons rfl opens_i64 (opensFrom_cons rfl opens_i32s (opensFrom_cons rfl opens_i64 (opensFrom_cons rfl opens_i64 (opensFrom_last rfl opens_i64))))))))))

/-! ### Numbers compared -/

end Go.Proofs.YtcppkpcbfadapaaGreat
