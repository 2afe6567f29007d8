/-
  The law's do: something is done at both (layer 42).
  Conditions: fewer than 2^39 requests; rows of at most 2^40 numbers.
-/
import Derived.Test.YtlhnapjglebacaaChecked
import Derived.Test.YtlhnapjglebacaaStoreV
import Derived.Test.YtlhnapjglebacaaPush
namespace Go.Proofs.Ytlhnapjglebacaa
set_option linter.unusedVariables false
set_option linter.unusedSimpArgs false
open Go.RowKit Go.ChangeShapes Go.WideShapes
set_option maxRecDepth 100000
set_option maxHeartbeats 4000000

def zeroId (r : Req) : Req := { r with id := 0 }
def doOp (rs : List Req) (m : Int) (o : Do) : List Req :=
  if o.kind.tmod 5 = 0 then (if (rs.length : Int) = m then rs else rs ++ [⟨rs.length + 1, 1, o.due, o.p, noAns⟩])
  else if o.kind.tmod 5 = 1 then (runOp rs o.id).2
  else if o.kind.tmod 5 = 2 then (moveOp rs o.id o.p).2
  else if o.kind.tmod 5 = 3 then (answerOp rs o.id o.a).2
  else (cancelOp rs o.id).2

def doCells (o : Do) (A : Option Addr) (n c : Nat) (B : Option Addr) (m d : Nat) (L : Option Addr) (nl cl : Nat) : Array Value :=
  #[.int .u8 o.kind, .int .i64 o.id, .int .i64 o.due, .int .i64 o.p.model, .int .i64 o.p.block, .int .i64 o.p.spent, .int .i64 o.p.input.h, .int .i64 o.p.input.v, .int .i64 o.p.input.c, .slice A n c, .int .i64 o.p.value.h, .int .i64 o.p.value.v, .int .i64 o.p.value.c, .slice B m d,
    .int .i64 o.a.id, .int .i64 o.a.model, .int .i64 o.a.block, .int .i64 o.a.cls, .int .i64 o.a.margin, .slice L nl cl, .int .i64 o.a.spent, .int .i64 o.a.why, .int .i64 o.a.tick]

/-- What lies before a call of do, and behind it. -/
structure Both (w : World) (g b : Nat) (m : Int) (rs : List Req) (A : Option Addr) (n c : Nat) : Prop where
  store : StoreAt w g b m rs
  rows : Sl tQ w (offM w b) A n c (rs.map zeroId)

theorem Both.later {w w' : World} {g b : Nat} {m : Int} {rs : List Req} {A : Option Addr} {n c : Nat} (h : Both w g b m rs A n c) (hb : Below w.heap.size w w') : Both w' g b m rs A n c :=
  ⟨h.store.later hb, (h.rows.keep fun x hx => hb.block x hx.1).more fun x hx => ⟨Nat.lt_of_lt_of_le hx.1 hb.size, hx.2⟩⟩
theorem Both.len {w : World} {g b : Nat} {m : Int} {rs : List Req} {A : Option Addr} {n c : Nat} (h : Both w g b m rs A n c) : n = rs.length := by have := h.rows.n_eq; simpa using this.symm

structure DoSl (w : World) (S : Nat → Prop) (o : Do) (PA : Option Addr) (pn pc : Nat) (PB : Option Addr) (pm pd : Nat) (PL : Option Addr) (pl pk : Nat) : Prop where
  ok : DoIn o
  input : Sl (tInt .i8) w S PA pn pc o.p.input.data
  value : Sl (tInt .i8) w S PB pm pd o.p.value.data
  logits : Sl (tInt .i32) w S PL pl pk o.a.logits

def DoEnd (g b : Nat) (m : Int) (rs : List Req) (w : World) (e : Ending) (w' : World) : Prop :=
  ∃ A n c, e = .returned (.tuple #[.slice A n c, .bool true]) ∧ Both w' g b m rs A n c ∧ w.grownBy w' (some b)

theorem do_add_full (g b : Nat) (m : Int) (rs : List Req) (A : Option Addr) (n c : Nat) (o : Do) (PA : Option Addr) (pn pc : Nat) (PB : Option Addr) (pm pd : Nat) (PL : Option Addr) (pl pk : Nat) (w : World) (h : Both w g b m rs A n c) (ho : DoSl w (blo w.heap.size) o PA pn pc PB pm pd PL pl pk)
    (hk : o.kind.tmod 5 = 0) (hf : (rs.length : Int) = m) :
    Calls Try.prog 51 #[.pointer (some ⟨g, 0, none⟩), .slice A n c, .int .i64 m, .agg (doCells o PA pn pc PB pm pd PL pl pk)] w (DoEnd g b m rs w) := by
  have H := Lib.hid h
  have hn := h.len
  clear h ho
  have k0 : Below w.heap.size w (w.alloc (.cells (doCells o PA pn pc PB pm pd PL pl pk) 103)) := (Below.refl _ _).alloc (Nat.le_refl _) _
  subst hn
  have tm : ((rs.length : Int) == m) = true := by simp [hf]
  have N := Lib.hid (storeAdd_full g b m rs o.p PA PB pn pc pm pd o.due _ (H.out.store.later k0) hf)
  unfold doCells at *
  go_enter Try.func51, Try.ntmps51
  go_wp2_with fail
  refine N.out.mono ?_
  rintro e w1 ⟨rfl, b1⟩
  have g1 := below_call k0 b1 k0.size
  clear N k0 b1
  go_wp2_with fail
  go_ret2
  exact ⟨A, _, c, rfl, H.out.later g1, grown_none g1⟩
theorem Both.later_ {w w' : World} {g b : Nat} {m : Int} {rs : List Req} {A : Option Addr} {n c : Nat} (h : Both w g b m rs A n c) (hb : w.grownBy w' (some b)) (hbw : b < w.heap.size) : Sl tQ w' (offM w' b) A n c (rs.map zeroId) :=
  (h.rows.keep fun x hx => hb.block x hx.1 (by simpa using hx.2)).more fun x hx => ⟨Nat.lt_of_lt_of_le hx.1 hb.size, hx.2⟩

theorem newq {w : World} {S : Nat → Prop} {k due : Int} {p : Pt} {A B : Option Addr} {n c m d : Nat} (hd : InK .i64 due) (hp : PtIn p) (h1 : Sl (tInt .i8) w S A n c p.input.data) (h2 : Sl (tInt .i8) w S B m d p.value.data) :
    ReqSl w S (zeroId ⟨k, 1, due, p, noAns⟩) A n c B m d none 0 0 :=
  ⟨⟨by rw [inK_i64]; simp [zeroId], by rw [inK_i64]; simp [zeroId], hd, hp, by constructor <;> (rw [inK_i64]; simp [zeroId, noAns])⟩, h1, h2, Sl.nil _ _ _⟩
theorem grown_mono_below {w w1 w2 : World} {b : Nat} (h : w.grownBy w1 (some b)) (h2 : Below w1.heap.size w1 w2) : w.grownBy w2 (some b) :=
  ⟨h2.os.trans h.os, h2.tape.trans h.tape, h2.output.trans h.output, Nat.le_trans h.size h2.size, fun k hk hne => (h2.block k (Nat.lt_of_lt_of_le hk h.size)).trans (h.block k hk hne)⟩

theorem do_add_room (g b : Nat) (m : Int) (rs : List Req) (A : Option Addr) (n c : Nat) (o : Do) (PA : Option Addr) (pn pc : Nat) (PB : Option Addr) (pm pd : Nat) (PL : Option Addr) (pl pk : Nat) (w : World) (h : Both w g b m rs A n c) (ho : DoSl w (offM w b) o PA pn pc PB pm pd PL pl pk)
    (hk : o.kind.tmod 5 = 0) (hf : (rs.length : Int) ≠ m) (hm : InK .i64 m) (hlen : rs.length < 549755813888) (h1 : pn ≤ 140737488351232) (h2 : pm ≤ 140737488351232) :
    Calls Try.prog 51 #[.pointer (some ⟨g, 0, none⟩), .slice A n c, .int .i64 m, .agg (doCells o PA pn pc PB pm pd PL pl pk)] w (DoEnd g b m (rs ++ [⟨rs.length + 1, 1, o.due, o.p, noAns⟩]) w) := by
  have H := Lib.hid h
  have HO := Lib.hid ho
  have hn := h.len
  have hbw : b < w.heap.size := by obtain ⟨D0, vs0, hin0⟩ := h.store.out; exact hin0.own.lt
  clear h ho
  have k0 : Below w.heap.size w (w.alloc (.cells (doCells o PA pn pc PB pm pd PL pl pk) 103)) := (Below.refl _ _).alloc (Nat.le_refl _) _
  have B0 := Lib.hid (Blk.now w w.heap.size 103 (doCells o PA pn pc PB pm pd PL pl pk) rfl)
  subst hn
  have tm : ((rs.length : Int) == m) = false := by simp [hf]
  have N := Lib.hid (storeAdd_room g b m rs o.p PA PB pn pc pm pd o.due _ (H.out.store.later k0) hf hlen hm HO.out.ok.p HO.out.ok.due ((HO.out.input.more (fun x hx => hx.1)).later k0 (Nat.le_refl _)) ((HO.out.value.more (fun x hx => hx.1)).later k0 (Nat.le_refl _)) h1 h2)
  unfold doCells at *
  go_enter Try.func51, Try.ntmps51
  go_wp2_with fail
  refine N.out.mono ?_
  rintro e w1 ⟨rfl, r1, g1⟩
  have R1 := Lib.hid r1
  have G1 := Lib.hid (grown_grown' k0 g1)
  have B1 := Lib.hid (show Blk w1 w.heap.size _ _ from ⟨(g1.block _ B0.out.lt (by intro e; have := Option.some.inj e; omega)).trans B0.out.heap⟩)
  have te : ((rs.length : Int) + 1 == (rs.length : Int) + 1) = true := by simp
  clear N k0 r1 g1 B0
  go_wp2_with fail
  have lt1 := B1.out.lt
  have BL : Below w1.heap.size w1 w1.drew := (Below.refl _ _).drew
  have HN := Lib.hid (H.out.later_ G1.out hbw)
  have o0 := Lib.hid (Own.lit_ (t := tQ) (W := w1.drew) (S := offM w1 b) (E := 112) (base := w1.heap.size) (Nat.le_refl _))
  have hoff : ∀ x, offM w1 b x → x < w1.heap.size := fun x hx => hx.1
  have hbw1 : b < w1.heap.size := Nat.lt_of_lt_of_le hbw G1.out.size
  have hoff1 : ∀ x, offM w b x → offM w1 b x := fun x hx => ⟨Nat.lt_of_lt_of_le hx.1 G1.out.size, hx.2⟩
  have kw : ∀ {w' : World} (x : Nat), offM w b x → Below w1.heap.size w1 w' → w'.heap[x]? = w.heap[x]? := fun x hx hb => (hb.block x (Nat.lt_of_lt_of_le hx.1 G1.out.size)).trans (G1.out.block x hx.1 (by simpa using hx.2))
  have hwr : IntKind.i64.wrap ((rs.length : Int) + 1) = (rs.length : Int) + 1 := IntWalk.i64_in _ (by omega)
  refine wp_region_held_drew (S := fun w' => w'.cell? ⟨w.heap.size, 2, none⟩ = some (.int .i64 o.due) ∧ Blk w' w.heap.size 103 (#[.int .u8 o.kind, .int .i64 o.id, .int .i64 o.due, .int .i64 o.p.model, .int .i64 o.p.block, .int .i64 o.p.spent, .int .i64 o.p.input.h, .int .i64 o.p.input.v, .int .i64 o.p.input.c, .slice PA pn pc, .int .i64 o.p.value.h, .int .i64 o.p.value.v, .int .i64 o.p.value.c, .slice PB pm pd, .int .i64 o.a.id, .int .i64 o.a.model, .int .i64 o.a.block, .int .i64 o.a.cls, .int .i64 o.a.margin, .slice PL pl pk, .int .i64 o.a.spent, .int .i64 o.a.why, .int .i64 o.a.tick]) ∧ Below w1.heap.size w1 w') (by kernel_rfl) ?_ (fun hS => ?_)
  · exact ⟨B1.out.drew.cell 2, B1.out.drew, BL⟩
  refine wpAnyH_take (i := 1) (v := ?_) rfl (by as_aux_lemma => kernel_rfl) (by as_aux_lemma => kernel_rfl) (by as_aux_lemma => kernel_rfl) (fun _ _ _ h => h) (Or.inl ⟨by rfl, ?_⟩) hS ?_
  rotate_left
  · intro w hSw; (try dsimp only at hSw); go_simp; try with_reducible rfl
  try simp only [Act.put, List.getElem_toArray, List.getElem_cons_succ, List.getElem_cons_zero, List.setIfInBounds_toArray, List.set_cons_zero, List.set_cons_succ]
  refine wpAnyH_take (i := 3) (v := ?_) rfl (by as_aux_lemma => kernel_rfl) (by as_aux_lemma => kernel_rfl) (by as_aux_lemma => kernel_rfl) (fun _ _ _ h => h) (Or.inl ⟨by rfl, ?_⟩) hS ?_
  rotate_left
  · intro w hSw; (try dsimp only at hSw); go_simp; try with_reducible rfl
  try simp only [Act.put, List.getElem_toArray, List.getElem_cons_succ, List.getElem_cons_zero, List.setIfInBounds_toArray, List.set_cons_zero, List.set_cons_succ]
  refine wpAnyH_take (i := 4) (v := ?_) rfl (by as_aux_lemma => kernel_rfl) (by as_aux_lemma => kernel_rfl) (by as_aux_lemma => kernel_rfl) (fun _ _ _ h => h) (Or.inl ⟨by rfl, ?_⟩) hS ?_
  rotate_left
  · intro w hSw; (try dsimp only at hSw); go_simp; try with_reducible rfl
  try simp only [Act.put, List.getElem_toArray, List.getElem_cons_succ, List.getElem_cons_zero, List.setIfInBounds_toArray, List.set_cons_zero, List.set_cons_succ]
  refine wpAnyH_take (i := 5) (v := ?_) rfl (by as_aux_lemma => kernel_rfl) (by as_aux_lemma => kernel_rfl) (by as_aux_lemma => kernel_rfl) (fun _ _ _ h => h) (Or.inl ⟨by rfl, ?_⟩) hS ?_
  rotate_left
  · intro w hSw; (try dsimp only at hSw); go_simp; try with_reducible rfl
  try simp only [Act.put, List.getElem_toArray, List.getElem_cons_succ, List.getElem_cons_zero, List.setIfInBounds_toArray, List.set_cons_zero, List.set_cons_succ]
  refine wpAnyH_take (i := 6) rfl (by as_aux_lemma => kernel_rfl) (by as_aux_lemma => kernel_rfl) (by as_aux_lemma => kernel_rfl) (fun _ _ _ h => h) (yieldsIf_load_blk (by rfl) 101 (.tmp 46) rfl w.heap.size 3 rfl _ _ (ptCells o.p PA pn pc PB pm pd) _ (fun w hs => hs.2.1) Try.underlying101 rfl (by kernel_rfl) rfl) hS ?_
  try simp only [Act.put, List.getElem_toArray, List.getElem_cons_succ, List.getElem_cons_zero, List.setIfInBounds_toArray, List.set_cons_zero, List.set_cons_succ]
  refine wpAnyH_take (i := 11) (v := ?_) rfl (by as_aux_lemma => kernel_rfl) (by as_aux_lemma => kernel_rfl) (by as_aux_lemma => kernel_rfl) (fun _ _ _ h => h) (Or.inl ⟨by rfl, ?_⟩) hS ?_
  rotate_left
  · intro w hSw; (try dsimp only at hSw); go_simp; try with_reducible rfl
  try simp only [Act.put, List.getElem_toArray, List.getElem_cons_succ, List.getElem_cons_zero, List.setIfInBounds_toArray, List.set_cons_zero, List.set_cons_succ]
  refine wpAnyH_take (i := 12) (v := ?_) rfl (by as_aux_lemma => kernel_rfl) (by as_aux_lemma => kernel_rfl) (by as_aux_lemma => kernel_rfl) (fun _ _ _ h => h) (Or.inl ⟨by rfl, ?_⟩) hS ?_
  rotate_left
  · intro w hSw; (try dsimp only at hSw); go_simp; try with_reducible rfl
  try simp only [Act.put, List.getElem_toArray, List.getElem_cons_succ, List.getElem_cons_zero, List.setIfInBounds_toArray, List.set_cons_zero, List.set_cons_succ]
  refine wpAnyH_take (i := 13) (v := ?_) rfl (by as_aux_lemma => kernel_rfl) (by as_aux_lemma => kernel_rfl) (by as_aux_lemma => kernel_rfl) (fun _ _ _ h => h) (Or.inl ⟨by rfl, ?_⟩) hS ?_
  rotate_left
  · intro w hSw; (try dsimp only at hSw); go_simp; try with_reducible rfl
  try simp only [Act.put, List.getElem_toArray, List.getElem_cons_succ, List.getElem_cons_zero, List.setIfInBounds_toArray, List.set_cons_zero, List.set_cons_succ]
  refine wpAnyH_take (i := 14) (v := .int .i64 ((rs.length : Int) + 1)) rfl (by as_aux_lemma => kernel_rfl) (by as_aux_lemma => kernel_rfl) (by as_aux_lemma => kernel_rfl) (fun _ _ _ h => h) (Or.inl ⟨by rfl, ?_⟩) hS ?_
  · intro w hSw; (try dsimp only at hSw); go_simp; (try simp [hwr])
  try simp only [Act.put, List.getElem_toArray, List.getElem_cons_succ, List.getElem_cons_zero, List.setIfInBounds_toArray, List.set_cons_zero, List.set_cons_succ]
  refine wpAnyH_take (i := 15) (v := .bool true) rfl (by as_aux_lemma => kernel_rfl) (by as_aux_lemma => kernel_rfl) (by as_aux_lemma => kernel_rfl) (fun _ _ _ h => h) (Or.inl ⟨by rfl, ?_⟩) hS ?_
  · intro w hSw; (try dsimp only at hSw); go_simp; (try simp)
  try simp only [Act.put, List.getElem_toArray, List.getElem_cons_succ, List.getElem_cons_zero, List.setIfInBounds_toArray, List.set_cons_zero, List.set_cons_succ]
  refine wpAnyH_ready (rs := [0]) (by kernel_rfl) (by simp) ?_
  refine AllReadyH.cons rfl (fun K hK => ?_) AllReadyH.nil
  go_simp
  have hb : Below w1.drew.heap.size w1.drew (w1.drew.alloc (.cells #[] 112)) := (Below.refl _ _).alloc (Nat.le_refl _) _; have HS0 := Lib.hid ((HN.out.keep (w' := w1.drew) (fun x hx => rfl)).keep (fun x hx => hb.block x hx.1))
  refine hK.out _ _ ?_ (fun hS => ?_)
  · exact ⟨(by first | exact cell_later hb hS.1 | exact Blk.later hS.1 hb), (by first | exact cell_later hb hS.2.1 | exact Blk.later hS.2.1 hb), below_later hb hS.2.2⟩
  clear hK K
  try simp only [Act.put, List.getElem_toArray, List.getElem_cons_succ, List.getElem_cons_zero, List.setIfInBounds_toArray, List.set_cons_zero, List.set_cons_succ]
  refine wpAnyH_ready (rs := [2]) (by kernel_rfl) (by simp) ?_
  refine AllReadyH.cons rfl (fun K hK => ?_) AllReadyH.nil
  (rw [if_pos (by rfl)]; refine oper_extend (t := tQ) (.tmp 41) (.tmp 42) rfl ei_q rfl o0.out rfl HS0.out (fun _ h => h) (by unfold maxLen; omega) (by omega) (by simp) (fun x hx => ⟨by have := hx.1; simp; omega, fun e => by have := hx.1; have := Option.some.inj e; simp at this; omega⟩) ?_; intro v2 w2 own2 g2 at2; rw [Nat.zero_add, List.nil_append] at own2; refine hK.out _ _ ⟨cell_grown g2 hS.1 (by intro e; have := Option.some.inj e; simp at this; omega), ⟨(g2.block _ hS.2.1.lt (by intro e; have := Option.some.inj e; simp at this; omega)).trans hS.2.1.heap⟩, hS.2.2.grown g2 hS.2.2.size (fun k h => by have := Option.some.inj h; simp at this; omega)⟩ (fun hS => ?_))
  clear hK K
  try simp only [Act.put, List.getElem_toArray, List.getElem_cons_succ, List.getElem_cons_zero, List.setIfInBounds_toArray, List.set_cons_zero, List.set_cons_succ]
  refine wpAnyH_ready (rs := [7]) (by kernel_rfl) (by simp) ?_
  refine AllReadyH.cons rfl (fun K hK => ?_) AllReadyH.nil
  go_simp
  refine (ofPoint_any o.p PA PB pn pc pm pd w2).mono ?_; rintro e w3 ⟨rfl, hb⟩; have own3 := own2.below hb (Nat.le_refl _) (fun x hx => Nat.lt_of_lt_of_le hx.1 hS.2.2.size); unfold ptCells
  refine hK.out _ _ ?_ (fun hS => ?_)
  · exact ⟨(by first | exact cell_later hb hS.1 | exact Blk.later hS.1 hb), (by first | exact cell_later hb hS.2.1 | exact Blk.later hS.2.1 hb), below_later hb hS.2.2⟩
  clear hK K
  try simp only [Act.put, List.getElem_toArray, List.getElem_cons_succ, List.getElem_cons_zero, List.setIfInBounds_toArray, List.set_cons_zero, List.set_cons_succ]
  refine wpAnyH_take (i := 8) (v := ?_) rfl (by as_aux_lemma => kernel_rfl) (by as_aux_lemma => kernel_rfl) (by as_aux_lemma => kernel_rfl) (fun _ _ _ h => h) (Or.inl ⟨by rfl, ?_⟩) hS ?_
  rotate_left
  · intro w hSw; (try dsimp only at hSw); go_simp; try with_reducible rfl
  try simp only [Act.put, List.getElem_toArray, List.getElem_cons_succ, List.getElem_cons_zero, List.setIfInBounds_toArray, List.set_cons_zero, List.set_cons_succ]
  refine wpAnyH_ready (rs := [9]) (by kernel_rfl) (by simp) ?_
  refine AllReadyH.cons rfl (fun K hK => ?_) AllReadyH.nil
  go_simp
  have HS3 := Lib.hid hS; have hb : Below w3.heap.size w3 (w3.alloc (.cells (qCells (zeroId ⟨rs.length + 1, 1, o.due, o.p, noAns⟩) PA pn pc PB pm pd none 0 0) 112)) := (Below.refl _ _).alloc (Nat.le_refl _) _
  refine hK.out _ _ ?_ (fun hS => ?_)
  · exact ⟨(by first | exact cell_later hb hS.1 | exact Blk.later hS.1 hb), (by first | exact cell_later hb hS.2.1 | exact Blk.later hS.2.1 hb), below_later hb hS.2.2⟩
  clear hK K
  try simp only [Act.put, List.getElem_toArray, List.getElem_cons_succ, List.getElem_cons_zero, List.setIfInBounds_toArray, List.set_cons_zero, List.set_cons_succ]
  refine wpAnyH_ready (rs := [10]) (by kernel_rfl) (by simp) ?_
  refine AllReadyH.cons rfl (fun K hK => ?_) AllReadyH.nil
  (rw [if_pos (by rfl)]; refine oper_push (t := tQ) (.tmp 43) (.tmp 50) rfl ei_q rfl own3 1 rfl (zeroId ⟨rs.length + 1, 1, o.due, o.p, noAns⟩) (q_rep rfl (newq HO.out.ok.due HO.out.ok.p ((HO.out.input.keep (fun x hx => kw x hx HS3.out.2.2)).more hoff1) ((HO.out.value.keep (fun x hx => kw x hx HS3.out.2.2)).more hoff1))) (by unfold maxLen; omega) (by omega) HS3.out.2.2.size (fun x hx => ⟨Nat.lt_of_lt_of_le hx.1 HS3.out.2.2.size, fun e => by have := (own3.lt x e.symm).1; have := hx.1; omega⟩) ?_; intro v4 w5 own5 g5 at5; refine hK.out _ _ ⟨cell_grown g5 HS3.out.1 (fun e => by have := (own3.lt _ e.symm).1; simp at this; omega), ⟨(g5.block _ HS3.out.2.1.lt (fun e => by have := (own3.lt _ e.symm).1; omega)).trans HS3.out.2.1.heap⟩, HS3.out.2.2.grown g5 HS3.out.2.2.size (fun k h => (own3.lt k h).1)⟩ (fun hS => ?_))
  clear hK K
  try simp only [Act.put, List.getElem_toArray, List.getElem_cons_succ, List.getElem_cons_zero, List.setIfInBounds_toArray, List.set_cons_zero, List.set_cons_succ]
  refine wpAnyH_take (i := 16) (v := ?_) rfl (by as_aux_lemma => kernel_rfl) (by as_aux_lemma => kernel_rfl) (by as_aux_lemma => kernel_rfl) (fun _ _ _ h => h) (Or.inl ⟨by rfl, ?_⟩) hS ?_
  rotate_left
  · intro w hSw; (try dsimp only at hSw); go_simp; try with_reducible rfl
  try simp only [Act.put, List.getElem_toArray, List.getElem_cons_succ, List.getElem_cons_zero, List.setIfInBounds_toArray, List.set_cons_zero, List.set_cons_succ]
  refine wpAnyH_take (i := 17) (v := ?_) rfl (by as_aux_lemma => kernel_rfl) (by as_aux_lemma => kernel_rfl) (by as_aux_lemma => kernel_rfl) (fun _ _ _ h => h) (Or.inl ⟨by rfl, ?_⟩) hS ?_
  rotate_left
  · intro w hSw; (try dsimp only at hSw); go_simp; try with_reducible rfl
  try simp only [Act.put, List.getElem_toArray, List.getElem_cons_succ, List.getElem_cons_zero, List.setIfInBounds_toArray, List.set_cons_zero, List.set_cons_succ]
  refine wpAnyH_take (i := 18) (v := ?_) rfl (by as_aux_lemma => kernel_rfl) (by as_aux_lemma => kernel_rfl) (by as_aux_lemma => kernel_rfl) (fun _ _ _ h => h) (Or.inl ⟨by rfl, ?_⟩) hS ?_
  rotate_left
  · intro w hSw; (try dsimp only at hSw); go_simp; try with_reducible rfl
  try simp only [Act.put, List.getElem_toArray, List.getElem_cons_succ, List.getElem_cons_zero, List.setIfInBounds_toArray, List.set_cons_zero, List.set_cons_succ]
  refine wpAnyH_take (i := 19) (v := ?_) rfl (by as_aux_lemma => kernel_rfl) (by as_aux_lemma => kernel_rfl) (by as_aux_lemma => kernel_rfl) (fun _ _ _ h => h) (Or.inl ⟨by rfl, ?_⟩) hS ?_
  rotate_left
  · intro w hSw; (try dsimp only at hSw); go_simp; try with_reducible rfl
  try simp only [Act.put, List.getElem_toArray, List.getElem_cons_succ, List.getElem_cons_zero, List.setIfInBounds_toArray, List.set_cons_zero, List.set_cons_succ]
  refine wpAnyH_take (i := 20) (v := ?_) rfl (by as_aux_lemma => kernel_rfl) (by as_aux_lemma => kernel_rfl) (by as_aux_lemma => kernel_rfl) (fun _ _ _ h => h) (Or.inl ⟨by rfl, ?_⟩) hS ?_
  rotate_left
  · intro w hSw; (try dsimp only at hSw); go_simp; try with_reducible rfl
  try simp only [Act.put, List.getElem_toArray, List.getElem_cons_succ, List.getElem_cons_zero, List.setIfInBounds_toArray, List.set_cons_zero, List.set_cons_succ]
  refine wpAnyH_take (i := 21) (v := ?_) rfl (by as_aux_lemma => kernel_rfl) (by as_aux_lemma => kernel_rfl) (by as_aux_lemma => kernel_rfl) (fun _ _ _ h => h) (Or.inl ⟨by rfl, ?_⟩) hS ?_
  rotate_left
  · intro w hSw; (try dsimp only at hSw); go_simp; try with_reducible rfl
  try simp only [Act.put, List.getElem_toArray, List.getElem_cons_succ, List.getElem_cons_zero, List.setIfInBounds_toArray, List.set_cons_zero, List.set_cons_succ]
  refine wpAnyH_done (by kernel_rfl) ?_ _
  have hb15 := hS.2.2
  go_wp2_with fail
  go_ret2
  obtain ⟨A', c', e, sl⟩ := own5.sl (S' := offM w5 b) (by decide) (fun x h1 h2 => ⟨h2, by omega⟩) (fun x hx => ⟨Nat.lt_of_lt_of_le hx.1 hb15.size, hx.2⟩)
  exact ⟨A', _, c', by rw [e]; rfl, ⟨R1.out.later hb15, by simpa [List.map_append] using sl⟩, grown_mono_below G1.out hb15⟩
end Go.Proofs.Ytlhnapjglebacaa
