/-
  A region that draws its order and whose operations read, or call what only makes memory: one walk of the text's order serves every order (the kit's theorem on quiet regions, at the class 'old memory is as it was').
  Conditions: none (over any program).
  Facts taken over to a later world, each by one word ('.fut').
  Conditions: none (plain lemmas).
  Numbers as bytes (layer 6): leb.Put, the document's Put.
  Conditions: numbers below 2^64.
-/
import Derived.Test.YtanglfmolnfjeaaJ03
import Derived.Test.YtanglfmolnfjeaaChecked
import Derived.Test.YtanglfmolnfjeaaJ01
import Derived.Laws.Shifts
set_option linter.unusedVariables false
set_option linter.unusedSimpArgs false
namespace Go.Proofs.Ytanglfmolnfjeaa
open Go.RowKit

/-- The worlds in which all that lies in w0 is as it was. -/
def Ext (w0 : World) : Type := { w : World // Below w0.heap.size w0 w }
def Ext.here (w0 : World) : Ext w0 := ⟨w0, Below.refl _ _⟩
instance (w0 : World) : Nonempty (Ext w0) := ⟨Ext.here w0⟩

section
variable {P : Program} {w0 : World}

theorem wp_region_ext {id : Nat} {Q : Exit → Act → World → Prop} {a : Act} {w : World} {l : List Oper} (w0 : World) (hm : P.follows .mixedOrders = true) (hB : Region.lexB .any l.toArray = true) (h0 : Below w0.heap.size w0 w)
    (h : wpQuiet P l.toArray (fun w' => ∃ x : Ext w0, w' = x.1) (fun a' => ∀ w', (∃ x : Ext w0, w' = x.1) → Q .normal a' w') l a) : (Code.region id l.toArray true).wp P Q a w :=
  wp_region_quiet (C := fun w' => ∃ x : Ext w0, w' = x.1) hm hB ⟨⟨w.drew, h0.drew⟩, rfl⟩ (by simpa using h)

theorem calls_ext {f : FuncId} {args : Array Value} {v : Value} (x : Ext w0) (h : Calls P f args x.1 fun e w' => e = .returned v ∧ Below x.1.heap.size x.1 w') :
    Calls P f args x.1 fun e w'' => e = .returned v ∧ ∃ y : Ext w0, w'' = y.1 :=
  h.mono fun e w' ⟨he, hb⟩ => ⟨he, ⟨w', x.2.trans (hb.mono x.2.size)⟩, rfl⟩

theorem ext_cell {p : Addr} {v : Value} (h : w0.cell? p = some v) (x : Ext w0) : x.1.cell? p = some v := (x.2.cell (World.block_lt_of_cell? w0 _ h)).trans h
theorem Blk.ext {g : Nat} {e : TypeId} {cs : Array Value} (h : Blk w0 g e cs) (x : Ext w0) : Blk x.1 g e cs := h.later x.2
end
end Go.Proofs.Ytanglfmolnfjeaa
namespace Go.Proofs.Ytanglfmolnfjeaa
set_option linter.unusedVariables false
set_option linter.unusedSimpArgs false
open Go.RowKit Go.ChangeShapes Go.WideShapes

theorem Sl.fut {α : Type} {t : Ty α} {w w' : World} {A : Option Addr} {n cap : Nat} {l : List α} (h : Sl t w (blo w.heap.size) A n cap l) (hb : Below w.heap.size w w') : Sl t w' (blo w'.heap.size) A n cap l := h.later hb (Nat.le_refl _)
/-- What has been since the call began. -/
structure Far (w0 w : World) : Prop where
  out : Below w0.heap.size w0 w
theorem Far.refl (w : World) : Far w w := ⟨Below.refl _ _⟩
theorem Far.fut {w0 w w' : World} (h : Far w0 w) (hb : Below w.heap.size w w') : Far w0 w' := ⟨below_later hb h.out⟩
theorem Far.size {w0 w : World} (h : Far w0 w) : w0.heap.size ≤ w.heap.size := h.out.size
theorem Far.drewN {w0 w : World} (h : Far w0 w) (n : Nat) : Far w0 (w.drewN n) := ⟨below_drewN h.out n⟩
theorem Blk.fut {w w' : World} {g : Nat} {e : TypeId} {cs : Array Value} (h : Blk w g e cs) (hb : Below w.heap.size w w') : Blk w' g e cs := h.later hb
theorem Sl.old {α : Type} {t : Ty α} {w : World} {m : Nat} {A : Option Addr} {n cap : Nat} {l : List α} (h : Sl t w (bin m w.heap.size) A n cap l) : Sl t w (blo w.heap.size) A n cap l := h.more bin_blo
/-- A result in new memory, seen from where the call began. -/
theorem Sl.since {α : Type} {t : Ty α} {w0 w w' : World} {A : Option Addr} {n cap : Nat} {l : List α} (h : Sl t w' (bin w.heap.size w'.heap.size) A n cap l) (hf : Far w0 w) : Sl t w' (bin w0.heap.size w'.heap.size) A n cap l := h.more (bin_more hf.size (Nat.le_refl _))
/-- A slice of new memory stays one of new memory. -/
structure New (w0 : World) {α : Type} (t : Ty α) (w : World) (A : Option Addr) (n cap : Nat) (l : List α) : Prop where
  out : Sl t w (bin w0.heap.size w.heap.size) A n cap l
theorem New.fut {w0 : World} {α : Type} {t : Ty α} {w w' : World} {A : Option Addr} {n cap : Nat} {l : List α} (h : New w0 t w A n cap l) (hb : Below w.heap.size w w') : New w0 t w' A n cap l :=
  ⟨(h.out.below hb fun _ k => k.2).more (bin_more (Nat.le_refl _) hb.size)⟩
theorem New.old {w0 : World} {α : Type} {t : Ty α} {w : World} {A : Option Addr} {n cap : Nat} {l : List α} (h : New w0 t w A n cap l) : Sl t w (blo w.heap.size) A n cap l := h.out.old
theorem New.set {w0 : World} {α : Type} {t : Ty α} {w : World} {A : Option Addr} {n cap : Nat} {l : List α} (h : New w0 t w A n cap l) (p : Addr) (u : Value) (hp : p.block < w0.heap.size) : New w0 t (w.setCell p u) A n cap l :=
  ⟨(h.out.keep fun b hb => Below.heap_setCell w p u b (by have := hb.1; omega)).more fun b hb => ⟨hb.1, by simpa using hb.2⟩⟩
theorem Far.set {w0 w : World} (h : Far w0 w) (p : Addr) (u : Value) (hp : w0.heap.size ≤ p.block) : Far w0 (w.setCell p u) := ⟨h.out.setCell hp _⟩
theorem Far.trans {w0 w1 w2 : World} (h : Far w0 w1) (h' : Far w1 w2) : Far w0 w2 := ⟨below_later h'.out h.out⟩
theorem New.since {w0 w1 : World} {α : Type} {t : Ty α} {w : World} {A : Option Addr} {n cap : Nat} {l : List α} (h : New w1 t w A n cap l) (hf : Far w0 w1) : Sl t w (bin w0.heap.size w.heap.size) A n cap l := h.out.more (bin_more hf.size (Nat.le_refl _))
theorem New.of {w0 w w' : World} {α : Type} {t : Ty α} {A : Option Addr} {n cap : Nat} {l : List α} (h : Sl t w' (bin w.heap.size w'.heap.size) A n cap l) (hf : Far w0 w) : New w0 t w' A n cap l := ⟨h.since hf⟩
theorem New.nil (w0 : World) {α : Type} (t : Ty α) (w : World) : New w0 t w none 0 0 ([] : List α) := ⟨Sl.nil _ _ _⟩
end Go.Proofs.Ytanglfmolnfjeaa
namespace Go.Proofs.Ytanglfmolnfjeaa
set_option linter.unusedVariables false
set_option linter.unusedSimpArgs false
open Go.RowKit Go.ChangeShapes Go.WideShapes
set_option maxRecDepth 100000
set_option maxHeartbeats 4000000

theorem ei_u8 : EI Try.prog 29 5 (.int .u8 0) 1 1 := ⟨Try.underlying29, by kernel_rfl, rfl, by decide⟩
theorem wpList_op2 {P : Program} {ops : Array Oper} {rest : List Oper} {o : Oper} {a : Act} {w : World} {Q : Exit → Act → World → Prop} (hgd : o.guard = none) (op : BinOp) (t u : TypeId) (x y : Operand) (ho : o.op = .binOp op t x y u) (vx vy v : Value) (hx : a.eval x = vx) (hy : a.eval y = vy)
    (hg : ∀ w, (eqGuard op t x y vx vy).run P w = .ok () w) (hrun : ∀ w, (binOp op t vx vy).run P w = .ok v w) (h : wpList P ops Q rest (a.put o.dst v) w) : wpList P ops Q (o :: rest) a w := by
  refine wpList_plain hgd fun K hK => ?_
  unfold Oper.wp execOp
  simp only [ho, hx, hy, Sem.run_bind, hg, hrun, Result.andThen_ok, Sem.run_pure]
  exact hK _ _ h
theorem shr_7 (P : Program) (r : Nat) (t : TypeId) (w : World) : (binOp .shr t (.int .u64 (r : Int)) (.int .u64 7)).run P w = .ok (.int .u64 ((r / 128 : Nat) : Int)) w := by
  have e : Op.shift .shr .u64 (r : Int) .u64 7 = pure (.int .u64 ((r : Int) / 2 ^ (7 : Int).toNat)) := shift_shr_u64 .u64 (r : Int) 7 (by decide) (by decide)
  rw [binOp_shr, e]
  show Result.ok _ w = _
  simp
theorem pow_10 : (2 : Nat) ^ 64 ≤ 128 ^ (9 + 1) := by decide

theorem lebPut_any (n : Nat) (w : World) (hn : n < 2 ^ 64) : Calls Try.prog 36 #[.int .u64 n] w (RetSl (tInt .u8) w (lebV n)) := by
  obtain ⟨s1, s2⟩ := lebLen_spec 9 n (Nat.lt_of_lt_of_le hn pow_10)
  have h9 := lebLen_le 9 n
  have LV := Lib.hid (show lebV n = lebTo n (lebLen n 9) ++ [((lebRest n (lebLen n 9) : Nat) : Int)] from rfl)
  obtain ⟨m, hm⟩ : ∃ m, lebLen n 9 = m := ⟨_, rfl⟩
  rw [hm] at s1 s2 h9 LV
  have S1 := Lib.hid s1
  have RL := Lib.hid (lebRest_le n)
  have RN := Lib.hid (lebRest_next n)
  clear s1 hm
  have hn' : n < 18446744073709551616 := hn
  go_enter Try.func36, Try.ntmps36
  go_wp2_with fail
  go_loopw [0, 3] (fun x u wr => ∃ k : Nat, k ≤ m ∧ x = .int .u64 (lebRest n k : Nat) ∧ Own (tInt .u8) wr (fun _ => False) w.heap.size 5 u k (lebTo n k) ∧ Below w.heap.size w wr) (fun x _ _ => (intOf x).toNat)
  case atStart => exact ⟨0, Nat.zero_le _, by simp [lebRest], by simpa [lebTo] using Own.nil _ _ _ _ _, Below.refl _ _⟩
  case round =>
    obtain ⟨k, hk, rfl, hown, hb⟩ := hrel
    have ON := Lib.hid hown
    have HB := Lib.hid hb
    have zr := hb.size
    clear hown hb
    have hle := RL.out k
    have hnx := RN.out k
    by_cases hlt : k < m
    · have h128 := S1.out k hlt
      obtain ⟨r, hr⟩ : ∃ r, lebRest n k = r := ⟨_, rfl⟩
      have LT := Lib.hid (show lebTo n (k + 1) = lebTo n k ++ [((r % 128 + 128 : Nat) : Int)] by rw [← hr]; rfl)
      rw [hr] at hle hnx h128 ⊢
      have NX := Lib.hid hnx
      have t1 : decide (128 ≤ (r : Int)) = true := by simp; omega
      have ho : bits .or .u8 ((r : Int) % 256) 128 = ((r % 128 + 128 : Nat) : Int) := by rw [or_128 _ (by omega) (by omega)]; omega
      have hq : (r : Int) / 128 = ((r / 128 : Nat) : Int) := by simp
      clear hr hnx
      go_wp2_with (first | (at_builtin; refine wpList_push (t := tInt .u8) rfl (.tmp 8) (.tmp 12) rfl ei_u8 rfl ON.out 1 rfl ((r % 128 + 128 : Nat) : Int) ⟨rfl, by rw [inK_u8]; omega⟩ (by unfold maxLen; omega) (by omega) zr (fun _ h => h.elim) ?_; intro v' w3 own3 g3 at3) | (refine wpList_op2 rfl .shr _ _ (.tmp 6) (.const (.int .u64 7)) rfl (.int .u64 (r : Int)) (.int .u64 7) (.int .u64 ((r / 128 : Nat) : Int)) rfl rfl (fun _ => rfl) (fun _ => shr_7 _ r _ _) ?_; simp only [Act.put, List.getElem_toArray, List.getElem_cons_succ, List.getElem_cons_zero, List.setIfInBounds_toArray, List.set_cons_zero, List.set_cons_succ]))
      have b3 := HB.out.grown g3 zr (fun j hj => (ON.out.lt j hj).1)
      refine ⟨⟨k + 1, by omega, by rw [NX.out], by rw [LT.out]; exact own3, b3⟩, ?_⟩
      simp [intOf]; omega
    · obtain rfl : k = m := by omega
      obtain ⟨r, hr⟩ : ∃ r, lebRest n k = r := ⟨_, rfl⟩
      rw [hr] at hle s2 LV ⊢
      have t1 : decide (128 ≤ (r : Int)) = false := by simp; omega
      have hw : (r : Int) % 256 = (r : Int) := by omega
      clear hr hnx hlt hk
      go_wp2_with (at_builtin; refine wpList_push (t := tInt .u8) rfl (.tmp 14) (.tmp 17) rfl ei_u8 rfl ON.out 1 rfl (r : Int) ⟨rfl, by rw [inK_u8]; omega⟩ (by unfold maxLen; omega) (by omega) zr (fun _ h => h.elim) ?_; intro v' w3 own3 g3 at3)
      have b3 := HB.out.grown g3 zr (fun j hj => (ON.out.lt j hj).1)
      go_ret
      rw [LV.out]
      exact own3.ret (by decide) b3 (fun _ h => h.elim)
end Go.Proofs.Ytanglfmolnfjeaa
