/-
  Walks of audit (layer 47): what is wrong with an answer, by the program and by the document.
  Conditions: none.
-/
import Derived.Test.YtlhnapjglebacaaChecked
import Derived.Test.YtlhnapjglebacaaExits
import Derived.Test.YtlhnapjglebacaaExt
namespace Go.Proofs.Ytlhnapjglebacaa
set_option linter.unusedVariables false
set_option linter.unusedSimpArgs false
open Go.RowKit Go.ChangeShapes Go.WideShapes
set_option maxRecDepth 100000

def hits (a : Ans) (x : Exit) : Bool := (x.model == a.model) && (x.block == a.block)
def whyOf (enough last late : Bool) : Int := if enough = true then 1 else if last = true then 2 else if late = true then 3 else 0
def faultAt (l : List Exit) (a : Ans) (k : Nat) (x : Exit) : Int :=
  if x.v.cls ≠ a.cls ∨ x.v.margin ≠ a.margin ∨ x.v.logits ≠ a.logits then 2 else if x.spent ≠ a.spent then 3 else if (l.take k).any (fun e => e.v.enough) = true then 4 else if a.why ≠ whyOf x.v.enough ((k : Int) == (l.length : Int) - 1) true then 5 else 0
def faultOf (l : List Exit) (a : Ans) : Int :=
  match l.findIdx? (hits a) with
  | none => 1
  | some k => match l[k]? with | none => 1 | some x => faultAt l a k x
def placeOf (p : Exit → Bool) (l : List Exit) : Int := match l.findIdx? p with | none => -1 | some k => k

theorem find_some {p : Exit → Bool} {l : List Exit} {k : Nat} {x : Exit} (h : ∀ j, j < k → ∀ y, l[j]? = some y → p y = false) (hx : l[k]? = some x) (hp : p x = true) : l.findIdx? p = some k := by
  obtain ⟨hlt, rfl⟩ := List.getElem?_eq_some_iff.1 hx
  rw [List.findIdx?_eq_some_iff_getElem]
  exact ⟨hlt, hp, fun j hj => by simpa using h j hj _ (List.getElem?_eq_getElem (by omega))⟩
theorem find_none {p : Exit → Bool} {l : List Exit} (h : ∀ j, j < l.length → ∀ y, l[j]? = some y → p y = false) : l.findIdx? p = none := by
  rw [List.findIdx?_eq_none_iff]
  intro x hx
  obtain ⟨j, hj, rfl⟩ := List.getElem_of_mem hx
  simpa using h j hj _ (List.getElem?_eq_getElem hj)

theorem place1_any (d : Exit) (L : Option Addr) (nl cl : Nat) (a : Ans) (M : Option Addr) (nm cm : Nat) (g : Nat) (w : World)
    (hB : Blk w g 38 #[.int .i64 a.id, .int .i64 a.model, .int .i64 a.block, .int .i64 a.cls, .int .i64 a.margin, .slice M nm cm, .int .i64 a.spent, .int .i64 a.why, .int .i64 a.tick]) :
    Calls Try.prog 97 #[.agg #[.int .i64 d.model, .int .i64 d.block, .int .i64 d.steps, .int .i64 d.spent, .int .i64 d.v.cls, .int .i64 d.v.margin, .slice L nl cl, .bool d.v.enough], .pointer (some ⟨g, 0, none⟩)] w
      fun e w' => e = .returned (.bool (hits a d)) ∧ Below w.heap.size w w' := by
  have c1 : w.cell? ⟨g, 1, none⟩ = some (.int .i64 a.model) := hB.cell 1
  have c2 : w.cell? ⟨g, 2, none⟩ = some (.int .i64 a.block) := hB.cell 2
  have hg := hB.lt
  clear hB
  unfold hits
  cases h1 : (d.model == a.model)
  · go_enter Try.func97, Try.ntmps97
    go_wp2_with fail
    go_ret
    exact ⟨rfl, (Below.refl _ _).alloc (Nat.le_refl _) _⟩
  · go_enter Try.func97, Try.ntmps97
    go_wp2_with fail
    go_ret
    exact ⟨by simp, (Below.refl _ _).alloc (Nat.le_refl _) _⟩

theorem enough1_any (d : Exit) (L : Option Addr) (nl cl : Nat) (w : World) :
    Calls Try.prog 99 #[.agg #[.int .i64 d.model, .int .i64 d.block, .int .i64 d.steps, .int .i64 d.spent, .int .i64 d.v.cls, .int .i64 d.v.margin, .slice L nl cl, .bool d.v.enough]] w
      fun e w' => e = .returned (.bool d.v.enough) ∧ Below w.heap.size w w' := by
  go_enter Try.func99, Try.ntmps99
  go_wp2_with fail
  go_ret
  exact ⟨rfl, (Below.refl _ _).alloc (Nat.le_refl _) _⟩

theorem indexPlace_any (A : Option Addr) (n cap : Nat) (l : List Exit) (a : Ans) (M : Option Addr) (nm cm : Nat) (g : Nat) (w : World) (h : Sl tExit w (blo w.heap.size) A n cap l)
    (hB : Blk w g 38 #[.int .i64 a.id, .int .i64 a.model, .int .i64 a.block, .int .i64 a.cls, .int .i64 a.margin, .slice M nm cm, .int .i64 a.spent, .int .i64 a.why, .int .i64 a.tick]) :
    Calls Try.prog 96 #[.slice A n cap, .func (.func 97) #[] #[.pointer (some ⟨g, 0, none⟩)]] w
      fun e w' => e = .returned (.int .i64 (placeOf (hits a) l)) ∧ Below w.heap.size w w' := by
  have hm : n ≤ 9223372036854775807 := Nat.le_trans h.cap_le h.max_le
  have H := Lib.hid h
  have HB := Lib.hid hB
  clear h hB
  go_enter Try.func96, Try.ntmps96
  go_wp2_with fail
  go_loopw [8] (fun i wr => ∃ k : Nat, k ≤ n ∧ i = .int .i64 k ∧ Below w.heap.size w wr ∧ ∀ j, j < k → ∀ y, l[j]? = some y → hits a y = false) (fun i _ => n - (intOf i).toNat)
  case atStart => exact ⟨0, Nat.zero_le _, rfl, Below.refl _ _, fun j hj => absurd hj (Nat.not_lt_zero _)⟩
  case round =>
    obtain ⟨k, hk, rfl, hb, hq⟩ := hrel
    have HQ := Lib.hid hq
    clear hq
    by_cases hlt : k < n
    · obtain ⟨d, L, nl, cl, b, off, hx, rfl, _, _, _, _, c0, c1, c2, c3, c4, c5, c6, c7⟩ := (H.out.below hb (fun _ h => h)).exit_at k hlt
      have HX := Lib.hid hx
      clear hx
      go_wp2_with fail
      refine (place1_any d L nl cl a M nm cm g wr (HB.out.later hb)).mono ?_
      rintro e w1 ⟨rfl, hb1⟩
      have g1 := below_call hb hb1 hb.size
      clear hb1 hb c0 c1 c2 c3 c4 c5 c6 c7
      cases hp : hits a d
      · have HP := Lib.hid hp
        clear hp
        go_wp2_with fail
        refine ⟨⟨k + 1, by omega, by go_num, g1, fun j hj y hy => ?_⟩, by simp [intOf]; omega⟩
        by_cases hjk : j < k
        · exact HQ.out j hjk y hy
        · obtain rfl : j = k := by omega
          rw [HX.out] at hy
          cases hy
          exact HP.out
      · have e : placeOf (hits a) l = k := by unfold placeOf; rw [find_some HQ.out HX.out hp]
        have E := Lib.hid e
        clear e
        go_wp2_with fail
        go_ret
        exact ⟨by rw [E.out]; rfl, g1⟩
    · obtain rfl : k = n := by omega
      have e : placeOf (hits a) l = -1 := by unfold placeOf; rw [find_none (by rw [H.out.n_eq]; exact HQ.out)]
      have E := Lib.hid e
      clear e
      go_wp2_with fail
      go_ret
      exact ⟨by rw [E.out]; rfl, hb⟩

theorem indexEnough_any (A : Option Addr) (n cap : Nat) (l : List Exit) (w : World) (h : Sl tExit w (blo w.heap.size) A n cap l) :
    Calls Try.prog 96 #[.slice A n cap, .func (.func 99) #[] #[]] w
      fun e w' => e = .returned (.int .i64 (placeOf (fun x => x.v.enough) l)) ∧ Below w.heap.size w w' := by
  have hm : n ≤ 9223372036854775807 := Nat.le_trans h.cap_le h.max_le
  have H := Lib.hid h
  clear h
  go_enter Try.func96, Try.ntmps96
  go_wp2_with fail
  go_loopw [8] (fun i wr => ∃ k : Nat, k ≤ n ∧ i = .int .i64 k ∧ Below w.heap.size w wr ∧ ∀ j, j < k → ∀ y, l[j]? = some y → y.v.enough = false) (fun i _ => n - (intOf i).toNat)
  case atStart => exact ⟨0, Nat.zero_le _, rfl, Below.refl _ _, fun j hj => absurd hj (Nat.not_lt_zero _)⟩
  case round =>
    obtain ⟨k, hk, rfl, hb, hq⟩ := hrel
    have HQ := Lib.hid hq
    clear hq
    by_cases hlt : k < n
    · obtain ⟨d, L, nl, cl, b, off, hx, rfl, _, _, _, _, c0, c1, c2, c3, c4, c5, c6, c7⟩ := (H.out.below hb (fun _ h => h)).exit_at k hlt
      have HX := Lib.hid hx
      clear hx
      go_wp2_with fail
      refine (enough1_any d L nl cl wr).mono ?_
      rintro e w1 ⟨rfl, hb1⟩
      have g1 := below_call hb hb1 hb.size
      clear hb1 hb c0 c1 c2 c3 c4 c5 c6 c7
      cases hp : d.v.enough
      · have HP := Lib.hid hp
        clear hp
        go_wp2_with fail
        refine ⟨⟨k + 1, by omega, by go_num, g1, fun j hj y hy => ?_⟩, by simp [intOf]; omega⟩
        by_cases hjk : j < k
        · exact HQ.out j hjk y hy
        · obtain rfl : j = k := by omega
          rw [HX.out] at hy
          cases hy
          exact HP.out
      · have e : placeOf (fun x => x.v.enough) l = k := by unfold placeOf; rw [find_some HQ.out HX.out hp]
        have E := Lib.hid e
        clear e
        go_wp2_with fail
        go_ret
        exact ⟨by rw [E.out]; rfl, g1⟩
    · obtain rfl : k = n := by omega
      have e : placeOf (fun x => x.v.enough) l = -1 := by unfold placeOf; rw [find_none (by rw [H.out.n_eq]; exact HQ.out)]
      have E := Lib.hid e
      clear e
      go_wp2_with fail
      go_ret
      exact ⟨by rw [E.out]; rfl, hb⟩

theorem placeOf_any (p : Exit → Bool) (l : List Exit) : l.any p = decide (0 ≤ placeOf p l) := by
  unfold placeOf
  cases h : l.findIdx? p with
  | none =>
    rw [List.findIdx?_eq_none_iff] at h
    rw [show decide ((0 : Int) ≤ -1) = false from rfl, List.any_eq_false]
    exact fun x hx => by simp [h x hx]
  | some k =>
    rw [List.findIdx?_eq_some_iff_getElem] at h
    obtain ⟨hk, hp, _⟩ := h
    rw [show decide ((0 : Int) ≤ ((k : Nat) : Int)) = true by simp, List.any_eq_true]
    exact ⟨_, List.getElem_mem hk, hp⟩

theorem placeOf_range (p : Exit → Bool) (l : List Exit) : -1 ≤ placeOf p l ∧ placeOf p l < l.length := by
  unfold placeOf
  cases h : l.findIdx? p with
  | none => exact ⟨by dsimp only; omega, by dsimp only; omega⟩
  | some k =>
    rw [List.findIdx?_eq_some_iff_getElem] at h
    obtain ⟨hk, _, _⟩ := h
    exact ⟨by dsimp only; omega, by dsimp only; omega⟩

theorem containsEnough_any (A : Option Addr) (n cap : Nat) (l : List Exit) (w : World) (h : Sl tExit w (blo w.heap.size) A n cap l) :
    Calls Try.prog 98 #[.slice A n cap, .func (.func 99) #[] #[]] w
      fun e w' => e = .returned (.bool (l.any fun x => x.v.enough)) ∧ Below w.heap.size w w' := by
  have H := Lib.hid h
  rw [placeOf_any]
  clear h
  go_enter Try.func98, Try.ntmps98
  go_wp2_with fail
  refine (indexEnough_any A n cap l _ H.out).mono ?_
  rintro e w1 ⟨rfl, hb1⟩
  go_wp2_with fail
  go_ret
  exact ⟨rfl, hb1⟩

theorem enough_any (A : Option Addr) (n cap : Nat) (l : List Exit) (w : World) (h : Sl tExit w (blo w.heap.size) A n cap l) :
    Calls Try.prog 72 #[.slice A n cap] w fun e w' => e = .returned (.bool (l.any fun x => x.v.enough)) ∧ Below w.heap.size w w' := by
  have H := Lib.hid h
  clear h
  go_enter Try.func72, Try.ntmps72
  go_wp2_with fail
  refine (containsEnough_any A n cap l _ H.out).mono ?_
  rintro e w1 ⟨rfl, hb1⟩
  go_wp2_with fail
  go_ret
  exact ⟨rfl, hb1⟩

theorem place_any (A : Option Addr) (n cap : Nat) (l : List Exit) (a : Ans) (M : Option Addr) (nm cm : Nat) (w : World) (h : Sl tExit w (blo w.heap.size) A n cap l) :
    Calls Try.prog 70 #[.slice A n cap, .agg #[.int .i64 a.id, .int .i64 a.model, .int .i64 a.block, .int .i64 a.cls, .int .i64 a.margin, .slice M nm cm, .int .i64 a.spent, .int .i64 a.why, .int .i64 a.tick]] w
      fun e w' => e = .returned (.int .i64 (placeOf (hits a) l)) ∧ Below w.heap.size w w' := by
  have H := Lib.hid h
  clear h
  have g0 : Below w.heap.size w (w.alloc (.cells #[.int .i64 a.id, .int .i64 a.model, .int .i64 a.block, .int .i64 a.cls, .int .i64 a.margin, .slice M nm cm, .int .i64 a.spent, .int .i64 a.why, .int .i64 a.tick] 38)) := (Below.refl _ _).alloc (Nat.le_refl _) _
  go_enter Try.func70, Try.ntmps70
  go_wp2_with fail
  refine (indexPlace_any A n cap l a M nm cm _ _ (H.out.later g0 (Nat.le_refl _)) (Blk.now _ _ _ _ rfl)).mono ?_
  rintro e w1 ⟨rfl, hb1⟩
  have g1 := below_call g0 hb1 g0.size
  clear hb1
  go_wp2_with fail
  go_ret
  exact ⟨rfl, g1⟩

theorem pathWhy_any (v : Vd) (M : Option Addr) (nm cm : Nat) (last late : Bool) (w : World) :
    Calls Try.prog 73 #[.agg #[.int .i64 v.cls, .int .i64 v.margin, .slice M nm cm, .bool v.enough], .bool last, .bool late] w fun e w' => e = .returned (.int .i64 (whyOf v.enough last late)) ∧ Below w.heap.size w w' := by
  have g0 : Below w.heap.size w (w.alloc (.cells #[.int .i64 v.cls, .int .i64 v.margin, .slice M nm cm, .bool v.enough] 41)) := (Below.refl _ _).alloc (Nat.le_refl _) _
  obtain ⟨c, m, lg, e⟩ := v
  cases e <;> cases last <;> cases late <;>
    (go_enter Try.func73, Try.ntmps73
     go_wp2_with fail
     go_ret
     exact ⟨rfl, g0⟩)

theorem refWhy_any (e last late : Bool) (w : World) :
    Calls Try.prog 74 #[.bool e, .bool last, .bool late] w fun e' w' => e' = .returned (.int .i64 (whyOf e last late)) ∧ Below w.heap.size w w' := by
  cases e <;> cases last <;> cases late <;>
    (go_enter Try.func74, Try.ntmps74
     go_wp2_with fail
     go_ret
     exact ⟨rfl, Below.refl _ _⟩)
end Go.Proofs.Ytlhnapjglebacaa
