/-
  The document's requests: Open and Count (layer 42).
  Conditions: none.
-/
import Derived.Test.YtlhnapjglebacaaChecked
import Derived.Test.YtlhnapjglebacaaStoreR
namespace Go.Proofs.Ytlhnapjglebacaa
set_option linter.unusedVariables false
set_option linter.unusedSimpArgs false
open Go.RowKit Go.ChangeShapes Go.WideShapes
set_option maxRecDepth 100000
set_option maxHeartbeats 2000000

/-- A request of the document's: its number is 0. -/
def tQ : Ty Req := tMap (fun (x : Int × Int × Pt × Ans) => ⟨0, x.1, x.2.1, x.2.2.1, x.2.2.2⟩) (tPair tI (tPair tI (tPair tPoint tAns)))
theorem tQ_size : tQ.size = 22 := rfl
def qCells (r : Req) (A : Option Addr) (n c : Nat) (B : Option Addr) (m d : Nat) (L : Option Addr) (nl cl : Nat) : Array Value :=
  #[.int .i64 r.state, .int .i64 r.due, .int .i64 r.p.model, .int .i64 r.p.block, .int .i64 r.p.spent, .int .i64 r.p.input.h, .int .i64 r.p.input.v, .int .i64 r.p.input.c, .slice A n c, .int .i64 r.p.value.h, .int .i64 r.p.value.v, .int .i64 r.p.value.c, .slice B m d,
    .int .i64 r.a.id, .int .i64 r.a.model, .int .i64 r.a.block, .int .i64 r.a.cls, .int .i64 r.a.margin, .slice L nl cl, .int .i64 r.a.spent, .int .i64 r.a.why, .int .i64 r.a.tick]

theorem q_open {w : World} {S : Nat → Prop} {cs : List Value} {r : Req} (h : tQ.rep w S cs r) :
    ∃ A n c B m d L nl cl, cs = (qCells r A n c B m d L nl cl).toList ∧ r.id = 0 ∧ ReqSl w S r A n c B m d L nl cl := by
  obtain ⟨⟨b, c, t, u⟩, rfl, _, _, rfl, ⟨rfl, h2⟩, _, _, rfl, ⟨rfl, h3⟩, _, _, rfl, ht, hu⟩ := h
  obtain ⟨A, n, cap, B, m, d, rfl, h4, hs, hs'⟩ := point_open ht
  obtain ⟨L, nl, cl, rfl, h5, hl⟩ := ans_open hu
  exact ⟨A, n, cap, B, m, d, L, nl, cl, rfl, rfl, ⟨by rw [inK_i64]; simp, h2, h3, h4, h5⟩, hs, hs', hl⟩

theorem q_rep {w : World} {S : Nat → Prop} {r : Req} {A B L : Option Addr} {n c m d nl cl : Nat} (h0 : r.id = 0) (h : ReqSl w S r A n c B m d L nl cl) : tQ.rep w S (qCells r A n c B m d L nl cl).toList r := by
  obtain ⟨id, st, du, p, a⟩ := r
  obtain rfl : id = 0 := h0
  exact ⟨(st, du, p, a), rfl, _, _, rfl, ⟨rfl, h.ok.state⟩, _, _, rfl, ⟨rfl, h.ok.due⟩, _, _, rfl, point_rep h.ok.p h.input h.value, ans_rep h.ok.a h.logits⟩

/-- The request at a place. -/
theorem Sl.q_at {w : World} {S : Nat → Prop} {A : Option Addr} {n cap : Nat} {l : List Req} (h : Sl tQ w S A n cap l) (i : Nat) (hi : i < n) :
    ∃ r b off X x xc Y y yc L nl cl, l[i]? = some r ∧ A = some ⟨b, off, none⟩ ∧ S b ∧ b < w.heap.size ∧ r.id = 0 ∧ ReqSl w S r X x xc Y y yc L nl cl ∧ ∀ j v, (qCells r X x xc Y y yc L nl cl)[j]? = some v → w.cell? ⟨b, off + i * 22 + j, none⟩ = some v := by
  obtain ⟨r, b, off, xs, hx, hA, hS, hb, hr, hl, hc⟩ := h.cells i hi (by decide)
  obtain ⟨X, x, xc, Y, y, yc, L, nl, cl, rfl, h0, hq⟩ := q_open hr
  rw [tQ_size] at hc
  refine ⟨r, b, off, X, x, xc, Y, y, yc, L, nl, cl, hx, hA, hS, hb, h0, hq, fun j v hv => ?_⟩
  have := hc j v (by simpa using hv)
  simpa [Nat.add_assoc] using this

theorem refOpen_any (A : Option Addr) (n c : Nat) (l : List Req) (id : Int) (run : Bool) (w : World) (h : Sl tQ w (blo w.heap.size) A n c l) (hid : InK .i64 id) :
    Calls Try.prog 89 #[.slice A n c, .int .i64 id, .bool run] w fun e w' => e = .returned (.int .i64 (if run then runCode l id else openCode l id)) ∧ Below w.heap.size w w' := by
  have hn := h.n_eq
  have hm : n ≤ 9223372036854775807 := Nat.le_trans h.cap_le h.max_le
  rw [inK_i64] at hid
  obtain ⟨oc, hoc⟩ : ∃ oc, openCode l id = oc := ⟨_, rfl⟩
  obtain ⟨rc, hrc⟩ : ∃ rc, runCode l id = rc := ⟨_, rfl⟩
  rw [hoc, hrc]
  unfold openCode at hoc
  unfold runCode at hrc
  cases hro : reqOf l id with
  | none =>
    rw [hro] at hoc hrc
    obtain rfl : (32 : Int) = oc := hoc
    obtain rfl : (32 : Int) = rc := hrc
    rw [ite_self]
    have hr := reqOf_none hro
    rw [hn] at hr
    clear hro
    by_cases h1 : id < 1
    · have t1 : decide (id < 1) = true := by simp; omega
      clear h hr h1
      go_enter Try.func89, Try.ntmps89
      go_wp2_with fail
      go_ret
      exact ⟨rfl, Below.refl _ _⟩
    · have t1 : decide (id < 1) = false := by simp; omega
      have t2 : decide ((n : Int) < id) = true := by simp; omega
      clear h hr h1
      go_enter Try.func89, Try.ntmps89
      go_wp2_with fail
      go_ret
      exact ⟨rfl, Below.refl _ _⟩
  | some r =>
    rw [hro] at hoc hrc
    replace hoc : (if r.state = 1 ∨ r.state = 2 then (0 : Int) else 33) = oc := hoc
    replace hrc : (if r.state = 1 then (31 : Int) else if r.state = 2 then 0 else 33) = rc := hrc
    obtain ⟨i, rfl, hi, hri⟩ := reqOf_some hro
    rw [hn] at hi
    obtain ⟨r', b, off, X, x, xc, Y, y, yc, L, nl, cl, hx, rfl, _, _, _, _, hcell⟩ := h.q_at i hi
    obtain rfl : r = r' := Option.some.inj (hri.symm.trans hx)
    have c0 : w.cell? ⟨b, off + i * 22, none⟩ = some (.int .i64 r.state) := hcell 0 _ rfl
    have t1 : decide ((i : Int) + 1 < 1) = false := by simp; omega
    have t2 : decide ((n : Int) < (i : Int) + 1) = false := by simp; omega
    have p1 : (i : Int) < (n : Int) := by omega
    obtain ⟨sv, hsv⟩ : ∃ sv, r.state = sv := ⟨_, rfl⟩
    rw [hsv] at c0 hoc hrc
    clear h hro hri hx hcell hsv
    have fin : ∀ (a1 a2 : Bool) (res : Int), (sv != 1) = a1 → (sv != 2) = a2 → True := fun _ _ _ _ _ => trivial
    clear fin
    by_cases h1 : sv = 1
    · subst h1
      obtain rfl : (0 : Int) = oc := hoc
      obtain rfl : (31 : Int) = rc := hrc
      cases run <;>
      · go_enter Try.func89, Try.ntmps89
        go_wp2_with fail
        go_ret
        exact ⟨rfl, Below.refl _ _⟩
    · by_cases h2 : sv = 2
      · subst h2
        obtain rfl : (0 : Int) = oc := hoc
        obtain rfl : (0 : Int) = rc := hrc
        cases run <;>
        · go_enter Try.func89, Try.ntmps89
          go_wp2_with fail
          go_ret
          exact ⟨rfl, Below.refl _ _⟩
      · rw [if_neg (by omega)] at hoc
        rw [if_neg h1, if_neg h2] at hrc
        subst hoc hrc
        rw [ite_self]
        have s1 : (sv != 1) = true := by simp [h1]
        have s2 : (sv != 2) = true := by simp [h2]
        clear h1 h2
        go_enter Try.func89, Try.ntmps89
        go_wp2_with fail
        go_ret
        exact ⟨rfl, Below.refl _ _⟩
end Go.Proofs.Ytlhnapjglebacaa
