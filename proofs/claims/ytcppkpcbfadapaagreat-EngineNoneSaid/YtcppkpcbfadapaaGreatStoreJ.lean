/-
  store.open, running: an open request, or why there is none (layer 42).
  Conditions: none.
-/
import Derived.Test.YtcppkpcbfadapaaGreatChecked
import Derived.Test.YtcppkpcbfadapaaGreatStoreH
namespace Go.Proofs.YtcppkpcbfadapaaGreat
set_option linter.unusedVariables false
set_option linter.unusedSimpArgs false
open Go.RowKit Go.ChangeShapes Go.WideShapes
set_option maxRecDepth 100000

def reqOf (rs : List Req) (id : Int) : Option Req := if 1 ≤ id then rs[(id - 1).toNat]? else none
def openCode (rs : List Req) (id : Int) : Int := match reqOf rs id with | none => 32 | some r => if r.state = 1 ∨ r.state = 2 then 0 else 33
def runCode (rs : List Req) (id : Int) : Int := match reqOf rs id with | none => 32 | some r => if r.state = 1 then 31 else if r.state = 2 then 0 else 33

theorem reqOf_some {rs : List Req} {id : Int} {r : Req} (h : reqOf rs id = some r) : ∃ i : Nat, id = (i : Int) + 1 ∧ i < rs.length ∧ rs[i]? = some r := by
  unfold reqOf at h
  split at h
  · exact ⟨(id - 1).toNat, by omega, (List.getElem?_eq_some_iff.1 h).1, h⟩
  · cases h
theorem reqOf_none {rs : List Req} {id : Int} (h : reqOf rs id = none) : id < 1 ∨ (rs.length : Int) < id := by
  unfold reqOf at h
  split at h
  · have := List.getElem?_eq_none_iff.1 h
    omega
  · omega
theorem reqOf_nth {rs : List Req} {i : Nat} : reqOf rs ((i : Int) + 1) = rs[i]? := by
  unfold reqOf
  rw [if_pos (by omega)]
  congr 1
  omega

/-- A request's cells, and where its rows lie. -/
structure ReqSl (w : World) (S : Nat → Prop) (r : Req) (A : Option Addr) (n c : Nat) (B : Option Addr) (q d : Nat) (L : Option Addr) (nl cl : Nat) : Prop where
  ok : ReqIn r
  input : Sl (tInt .i8) w S A n c r.p.input.data
  value : Sl (tInt .i8) w S B q d r.p.value.data
  logits : Sl (tInt .i32) w S L nl cl r.a.logits

theorem ReqSl.keep {w w' : World} {S : Nat → Prop} {r : Req} {A B L : Option Addr} {n c q d nl cl : Nat} (h : ReqSl w S r A n c B q d L nl cl) (hk : ∀ b, S b → w'.heap[b]? = w.heap[b]?) : ReqSl w' S r A n c B q d L nl cl :=
  ⟨h.ok, h.input.keep hk, h.value.keep hk, h.logits.keep hk⟩
theorem ReqSl.more {w : World} {S S' : Nat → Prop} {r : Req} {A B L : Option Addr} {n c q d nl cl : Nat} (h : ReqSl w S r A n c B q d L nl cl) (hk : ∀ b, S b → S' b) : ReqSl w S' r A n c B q d L nl cl :=
  ⟨h.ok, h.input.more hk, h.value.more hk, h.logits.more hk⟩
theorem inReq_no : ReqIn noReq := ⟨by rw [inK_i64]; decide, by rw [inK_i64]; decide, by rw [inK_i64]; decide, inPt_no, by constructor <;> (rw [inK_i64]; decide)⟩
theorem ReqSl.none (w : World) (S : Nat → Prop) : ReqSl w S noReq none 0 0 none 0 0 none 0 0 := ⟨inReq_no, Sl.nil _ _ _, Sl.nil _ _ _, Sl.nil _ _ _⟩

/-- In blocks that are there, but for the map's. -/
def offM (w : World) (b : Nat) : Nat → Prop := fun x => x < w.heap.size ∧ x ≠ b
theorem ReqSl.later {w w' : World} {b : Nat} {r : Req} {A B L : Option Addr} {n c q d nl cl : Nat} (h : ReqSl w (offM w b) r A n c B q d L nl cl) (hb : Below w.heap.size w w') : ReqSl w' (offM w' b) r A n c B q d L nl cl :=
  (h.keep fun x hx => hb.block x hx.1).more fun x hx => ⟨Nat.lt_of_lt_of_le hx.1 hb.size, hx.2⟩

theorem zero_req (w : World) : (zeroValue 75).run Tryz.prog w = .ok (.agg noCells) w := by kernel_rfl

theorem key_any (id : Int) (h : InK .i64 id) : keyOf Tryz.prog 3 (.int .i64 id) = some (.int .i64 id) :=
  Maps.keyOf_int_mk Tryz.underlying3 (by simp only [Lit.wf, Bool.and_eq_true, decide_eq_true_eq]; exact h)

theorem StoreAt.look {w : World} {g b : Nat} {m : Int} {rs : List Req} (h : StoreAt w g b m rs) (id : Int) (hid : InK .i64 id) :
    ∃ r A n c B q d L nl cl, (∀ w', Below w.heap.size w w' → (Instr.lookup 111 (.map (some b)) (.int .i64 id) true).run Tryz.prog w' = .ok (.tuple #[.agg (reqCells r A n c B q d L nl cl), .bool (reqOf rs id).isSome]) w') ∧
      r = (reqOf rs id).getD noReq ∧ ReqSl w (offM w b) r A n c B q d L nl cl := by
  obtain ⟨D, vs, hin⟩ := h.out
  have key : ∀ (cs : Array Value) (t : Bool), Maps.has D (.int .i64 id) = t → D.atKey (.int .i64 id) (.held noCells) = .held cs →
      ∀ w', Below w.heap.size w w' → (Instr.lookup 111 (.map (some b)) (.int .i64 id) true).run Tryz.prog w' = .ok (.tuple #[.agg cs, .bool t]) w' := by
    intro cs t h1 h2 w' hb
    have own := hin.own.kept (w' := w') (row := Option.none) ⟨hb.os, hb.tape, hb.output, hb.size, fun k hk _ => hb.block k hk⟩ (by simp)
    obtain ⟨v, ps, hrun, hv⟩ := own.look_ok keyed Tryz.underlying111 (zero_req w') (reqR_mk noCells) (key_any id hid)
    rw [h1] at hrun
    rw [h2] at hv
    obtain rfl := reqR_held hv
    exact hrun
  cases hr : reqOf rs id with
  | none =>
    have hn := reqOf_none hr
    have hh : Maps.has D (.int .i64 id) = false := hin.holds.hasF fun i hi e => by
      have := hin.len
      have := (Lit.int.inj e).2
      omega
    exact ⟨noReq, none, 0, 0, none, 0, 0, none, 0, 0, key noCells false hh (Maps.atKey_of_not_has hh _), rfl, ReqSl.none _ _⟩
  | some r =>
    obtain ⟨i, rfl, hi, hr2⟩ := reqOf_some hr
    obtain ⟨cs, hcs, hrep⟩ := hin.at_ i r hr2
    have hh : Maps.has D (.int .i64 ((i : Int) + 1)) = true := (hin.holds.has _).2 ⟨i, by rw [hin.len]; exact hi, rfl⟩
    have ha := hin.holds.at_ i cs hcs (.held noCells)
    obtain ⟨A, n, c, B, q, d, L, nl, cl, hcells, h1, h2, h3, h4⟩ := req_open hrep
    obtain rfl : cs = reqCells r A n c B q d L nl cl := by rw [← Array.toList_inj]; exact hcells
    exact ⟨r, A, n, c, B, q, d, L, nl, cl, key _ true hh ha, rfl, h1, h2, h3, h4⟩
end Go.Proofs.YtcppkpcbfadapaaGreat
