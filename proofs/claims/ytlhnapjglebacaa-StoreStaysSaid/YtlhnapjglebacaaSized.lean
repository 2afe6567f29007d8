/-
  Arguments opened together with the form's own reach (no string, slice or map of what came in takes more than 0x7ffffffff000 bytes), and the law's step that hands the reach on.
  Conditions: none (over any checked program).
-/
import Derived.SizedLaws
import Derived.Test.YtlhnapjglebacaaLaw
namespace Go.Proofs.Ytlhnapjglebacaa
set_option linter.unusedVariables false
set_option linter.unusedSimpArgs false
open Go.RowKit Go.ChangeShapes Go.WideShapes Go.Deep Go.ChangeAt

section
variable {H : Type} {enc : TypeId × Value → H} {P : Program}

/-- Whatever reads as data of this type, and takes no more than the reach, stands for something that keeps B. -/
def OpensW (P : Program) {α : Type} (T : TypeId) (t : Ty α) (B : α → Prop) : Prop :=
  P.cellsOf T = t.size ∧ ∀ {H : Type} {enc : TypeId × Value → H} {w : World} {base : Nat} {spare : Nat → Bool} {held : Bool} {fuel : Nat} {cs : List Value} {x : DataW H × List MemPlace},
    DataW.trod enc P w base spare held fuel T cs = some x → (∀ m ∈ x.1.weights P T, m ≤ reachBytes) → ∃ y, t.rep w (blo w.heap.size) cs y ∧ B y

theorem Opens.w {α : Type} {T : TypeId} {t : Ty α} (h : Opens P T t) : OpensW P T t (fun _ => True) :=
  ⟨h.1, fun hx _ => let ⟨y, hy⟩ := h.2 hx; ⟨y, hy, trivial⟩⟩

theorem weightsAll_in {e : TypeId} : ∀ {l : List (DataW H)} {d : DataW H}, d ∈ l → ∀ m ∈ d.weights P e, m ∈ DataW.weightsAll P e l
  | a :: l, d, h, m, hm => by
    simp only [DataW.weightsAll, List.mem_append]
    rcases List.mem_cons.1 h with rfl | h
    · exact .inl hm
    · exact .inr (weightsAll_in h m hm)
theorem weightsEach_in : ∀ {ts : List TypeId} {l : List (DataW H)} {i : Nat} {t : TypeId} {d : DataW H}, ts[i]? = some t → l[i]? = some d → ∀ m ∈ d.weights P t, m ∈ DataW.weightsEach P ts l
  | [], _, _, _, _, h, _, _, _ => by simp at h
  | _ :: _, [], _, _, _, _, h, _, _ => by simp at h
  | t0 :: ts, d0 :: l, 0, t, d, h, h', m, hm => by
    simp only [List.getElem?_cons_zero, Option.some.injEq] at h h'
    subst h h'
    simp only [DataW.weightsEach, List.mem_append]
    exact .inl hm
  | t0 :: ts, d0 :: l, i + 1, t, d, h, h', m, hm => by
    simp only [List.getElem?_cons_succ] at h h'
    simp only [DataW.weightsEach, List.mem_append]
    exact .inr (weightsEach_in h h' m hm)

theorem opensW_slice {α : Type} {T E : TypeId} {t : Ty α} {B : α → Prop} (hT : P.underlying T = some (.slice E)) (hc : P.cellsOf T = 1) (hp : 0 < t.size) (hE : OpensW P E t B) :
    OpensW P T (tSlice t) (fun l => l.length * P.bytesOf E ≤ reachBytes ∧ ∀ y ∈ l, B y) := by
  refine ⟨hc, fun {H enc w base spare held fuel cs x} h hwt => ?_⟩
  rcases open_slice hT h with ⟨rfl, _⟩ | ⟨a, len, cap, m, n', D, Pl, rfl, hb, hl, hm, hmm, rfl, hi⟩
  · exact ⟨[], ⟨none, 0, rfl, Nat.le_refl _, Nat.zero_le _, fun _ => rfl, by simp⟩, by simp, by simp⟩
  · simp only [DataW.weights, hT] at hwt
    have hlm : len ≤ m := by rw [hmm]; split <;> omega
    have hw0 : len * P.bytesOf E ≤ reachBytes := by
      have := hwt _ (List.mem_cons_self ..)
      simp only [List.length_map, List.length_range] at this
      exact Nat.le_trans (Nat.mul_le_mul_right _ (by omega)) this
    have hwe : ∀ i, i < len → ∀ k ∈ (D i).weights P E, k ≤ reachBytes := by
      intro i hil k hk
      refine hwt k (List.mem_cons_of_mem _ (List.mem_append_left _ (weightsAll_in (d := D i) ?_ k hk)))
      rw [List.mem_map]
      exact ⟨i, by simpa using hil, rfl⟩
    have hex : ∀ i, i < len → ∃ y, B y ∧ ∃ xs, t.rep w (blo w.heap.size) xs y ∧ ∀ j v, xs[j]? = some v → w.cell? (a.add (i * t.size + j)) = some v := by
      intro i hil
      obtain ⟨cs', hcs, htr⟩ := hi i (by omega)
      obtain ⟨y, hy, hB⟩ := hE.2 htr (hwe i hil)
      obtain ⟨_, hat⟩ := cells?_parts hcs
      refine ⟨y, hB, cs', hy, fun j v hv => ?_⟩
      rw [← hat j v hv, ← Go.Deep.add_add, hE.1]
    have hlist : ∀ k, k ≤ len → ∃ l : List α, l.length = k ∧ ∀ i y, l[i]? = some y → B y ∧ ∃ xs, t.rep w (blo w.heap.size) xs y ∧ ∀ j v, xs[j]? = some v → w.cell? (a.add (i * t.size + j)) = some v := by
      intro k
      induction k with
      | zero => exact fun _ => ⟨[], rfl, by simp⟩
      | succ k ih =>
        intro hk
        obtain ⟨l, hl1, hl2⟩ := ih (by omega)
        obtain ⟨y, hy⟩ := hex k (by omega)
        refine ⟨l ++ [y], by simp [hl1], fun i z hz => ?_⟩
        by_cases hik : i < k
        · rw [List.getElem?_append_left (by omega)] at hz
          exact hl2 i z hz
        · rw [List.getElem?_append_right (by omega), hl1] at hz
          have hi0 : i - k = 0 := by
            have := (List.getElem?_eq_some_iff.1 hz).1
            simp at this; omega
          rw [hi0] at hz
          simp only [List.getElem?_cons_zero, Option.some.injEq] at hz
          subst hz
          have : i = k := by omega
          subst this
          exact hy
    obtain ⟨l, hl1, hl2⟩ := hlist len (Nat.le_refl _)
    refine ⟨l, ⟨some a, cap, by rw [hl1], by omega, hm, (fun h => by cases h), fun i y hy => ?_⟩, by rw [hl1]; exact hw0, fun y hy => ?_⟩
    · obtain ⟨_, xs, hr, hcx⟩ := hl2 i y hy
      refine ⟨a, xs, rfl, ?_, hr, hcx⟩
      have hlen := t.len hr
      have := World.block_lt_of_cell? w _ (hcx 0 (xs[0]'(by omega)) (List.getElem?_eq_getElem (by omega)))
      rw [Addr.add_block] at this
      exact this
    · obtain ⟨i, hi, rfl⟩ := List.mem_iff_getElem.1 hy
      exact (hl2 i _ (List.getElem?_eq_getElem hi)).1

/-- One thing less of a struct's cells. -/
structure OpensFromW (P : Program) {α : Type} (fs : List Field) (t : Ty α) (o : Nat) (B : α → Prop) : Prop where
  out : ∀ {H : Type} {enc : TypeId × Value → H} {w : World} {base : Nat} {spare : Nat → Bool} {held : Bool} {fuel : Nat} {cs : List Value},
    cs.length = o + t.size → (∀ (i : Nat) (f : Field), fs[i]? = some f → ∃ x : DataW H × List MemPlace, DataW.trod enc P w base spare held fuel f.type ((cs.drop f.offset).take (P.cellsOf f.type)) = some x ∧ ∀ m ∈ x.1.weights P f.type, m ≤ reachBytes) →
    ∃ y, t.rep w (blo w.heap.size) (cs.drop o) y ∧ B y

theorem opensFromW_last {α : Type} {t : Ty α} {B : α → Prop} {f : Field} {o : Nat} (ho : f.offset = o) (hf : OpensW P f.type t B) : OpensFromW P [f] t o B := by
  constructor
  intro H enc w base spare held fuel cs hl h
  obtain ⟨x, hx, hw⟩ := h 0 f rfl
  rw [ho, hf.1, List.take_of_length_le (by rw [List.length_drop]; omega)] at hx
  exact hf.2 hx hw

theorem opensFromW_cons {α β : Type} {t : Ty α} {u : Ty β} {B : α → Prop} {C : β → Prop} {f : Field} {fs : List Field} {o : Nat} (ho : f.offset = o) (hf : OpensW P f.type t B) (hr : OpensFromW P fs u (o + t.size) C) :
    OpensFromW P (f :: fs) (tPair t u) o (fun y => B y.1 ∧ C y.2) := by
  constructor
  intro H enc w base spare held fuel cs hl h
  obtain ⟨x, hx, hw⟩ := h 0 f rfl
  rw [ho, hf.1] at hx
  obtain ⟨y, hy, hB⟩ := hf.2 hx hw
  obtain ⟨z, hz, hC⟩ := hr.out (cs := cs) (by rw [hl]; simp only [tPair]; omega) (fun i g hg => h (i + 1) g hg)
  refine ⟨(y, z), ⟨_, _, ?_, hy, hz⟩, hB, hC⟩
  rw [← List.drop_drop, List.take_append_drop]

theorem opensW_struct {α : Type} {T : TypeId} {fs : Array Field} {t : Ty α} {B : α → Prop} (hT : P.underlying T = some (.struct fs)) (hc : P.cellsOf T = t.size) (h : OpensFromW P fs.toList t 0 B) : OpensW P T t B := by
  refine ⟨hc, fun {H enc w base spare held fuel cs x} htr hwt => ?_⟩
  obtain ⟨xs, n, _, rfl, hl, hxl, hat⟩ := DataW.trod_struct hT htr
  simp only [DataW.weights, hT] at hwt
  have := h.out (H := H) (enc := enc) (w := w) (base := base) (spare := spare) (held := held) (fuel := n) (cs := cs) (by omega) (fun i f hf => ?_)
  · simpa using this
  · have hf' : fs[i]? = some f := by simpa using hf
    have hi : i < xs.length := by rw [hxl]; exact (Array.getElem?_eq_some_iff.1 hf').1
    refine ⟨xs[i], by rw [hat i f hf', List.getElem?_eq_getElem hi], fun m hm => hwt m (weightsEach_in (i := i) (t := f.type) (d := xs[i].1) ?_ ?_ m hm)⟩
    · rw [List.getElem?_map, hf]; rfl
    · rw [List.getElem?_map, List.getElem?_eq_getElem hi]; rfl

theorem opensW_map {α β : Type} {T : TypeId} {t : Ty α} {B : α → Prop} {C : β → Prop} (f : α → β) (h : OpensW P T t B) (hC : ∀ x, B x → C (f x)) : OpensW P T (tMap f t) C :=
  ⟨h.1, fun htr hw => let ⟨y, hy, hB⟩ := h.2 htr hw; ⟨f y, ⟨y, rfl, hy⟩, hC y hB⟩⟩

theorem OpensW.mono {α : Type} {T : TypeId} {t : Ty α} {B C : α → Prop} (h : OpensW P T t B) (hC : ∀ x, B x → C x) : OpensW P T t C :=
  ⟨h.1, fun htr hw => let ⟨y, hy, hB⟩ := h.2 htr hw; ⟨y, hy, hC y hB⟩⟩

/-- A law's step, the reach handed on: its walk says all. -/
theorem law_lift_sized {C : Checked} {os : Os} {f : FuncId} {fn : Func} {s : ChangeSpec} {T : TypeId}
    (own : ownKnob C.prog.godebug = none) (started : os.Started) (noInit : C.prog.inits.idxOf? f = none) (hfn : C.prog.funcs[f]? = some fn)
    (witness : ∃ (w : World) (tape : Tape) (i : Input), w.os = os ∧ (w.forCall tape i).Shaped C.prog ∧ i.vars = [] ∧ Input.okWide C.prog (w.forCall tape i) .any w.heap.size f i ∧
      s.pre6 enc C.prog fn [] false (w.forCall tape i).memory i.args ∧ ({} : Assume).holds C.prog (lone (Frame.enter C.prog f i.args .normal) [] (w.forCall tape i)))
    (hl : laidOutB C.prog = true) (hpar : (fn.params.toList.all fun t => C.prog.readableRec t && decide (t < C.prog.types.size)) = true)
    (hres : fn.resultTypes = #[T]) (hT : C.prog.underlying T = some .bool) (hv : s.vars = [])
    (hvt : s.plain.varTypes C.prog = [])
    (hs : ∀ (ds : List (DataW H)), ds.length = fn.params.size → (s.fn H ds).results = [.lit (.bool true)] ∧ (s.fn H ds).args = ds ∧ (s.fn H ds).vars = [])
    (walk : ∀ (W : World) (base : Nat) (args : Array Value) (ds : List (DataW H)) (p : List MemPlace),
      (∀ (j : Nat) t v, fn.params[j]? = some t → args[j]? = some v → Value.okWide C.prog W .any base t v) →
      DataW.TrodAll enc C.prog W 0 (fun _ => true) true fn.params.toList args.toList ds p →
      (∀ m ∈ DataW.weightsEach C.prog fn.params.toList ds, m ≤ reachBytes) →
      Calls C.prog f args W fun e W' => e = .returned (.bool true) ∧ Below W.heap.size W W') :
    ReturnsInHanded {} C os f .any (s.pre6 enc C.prog fn [] false) (s.post enc C.prog fn false true false false) := by
  refine returnsInHanded_of_change_sized own started noInit hfn witness ?_
  intro W base args ds gs before hval hW _ hsz _
  have hW' := hW
  obtain ⟨p, q, hA, hV, rfl, hfz, hnd⟩ := hW
  rw [hv] at hV
  obtain ⟨rfl, rfl⟩ := trodVars_none hV
  rw [hvt, List.append_nil, List.append_nil, List.all_eq_true] at hsz
  refine (walk W base args ds p hval hA (fun m hm => by simpa using hsz m hm)).mono fun e W' ⟨he, hb⟩ => ⟨_, he, ?_⟩
  obtain ⟨e1, e2, e3⟩ := hs ds (by have := (trodAll_length hA).2; simpa using this)
  have hlt : ∀ x ∈ p, x.block < W.heap.size := fun x hx => hW'.lt x (by simp [hx])
  refine ⟨ds, [], p ++ [], [], p, [], hW', ?_, ?_, ?_, hb.frame _, fun h => by cases h⟩
  · rw [hres, List.append_nil, e1]
    exact trodAll_mk1 (shut_bool hT true)
  · rw [List.append_nil, e2]
    exact trodAll_below hl hb hpar hA hlt
  · rw [List.append_nil, e3, hv]
    exact rfl

variable {w : World} {spare : Nat → Bool} {held : Bool} {base : Nat}

theorem argW_slice {α : Type} {T E : TypeId} {t : Ty α} {B : List α → Prop} {r : Reach} {b0 : Nat} {v : Value} {d : DataW H} {p : List MemPlace} (hT : P.underlying T = some (.slice E)) (ho : OpensW P T (tSlice t) B) (hv : Value.okWide P w r b0 T v) (h : DataW.Trod enc P w base spare held T v d p)
    (hw : ∀ m ∈ d.weights P T, m ≤ reachBytes) :
    ∃ A n cap l, v = .slice A n cap ∧ Sl t w (blo w.heap.size) A n cap l ∧ B l := by
  obtain ⟨A, n, cap, rfl⟩ := okWide_slice hT hv
  obtain ⟨fuel, hf⟩ := h
  obtain ⟨l, hl, hB⟩ := ho.2 hf hw
  exact ⟨A, n, cap, l, rfl, Sl.of_rep hl, hB⟩
theorem argW_struct {α : Type} {T : TypeId} {fs : Array Field} {t : Ty α} {B : α → Prop} {r : Reach} {b0 : Nat} {v : Value} {d : DataW H} {p : List MemPlace} (hT : P.underlying T = some (.struct fs)) (ho : OpensW P T t B) (hv : Value.okWide P w r b0 T v) (h : DataW.Trod enc P w base spare held T v d p)
    (hw : ∀ m ∈ d.weights P T, m ≤ reachBytes) :
    ∃ cs y, v = .agg cs ∧ t.rep w (blo w.heap.size) cs.toList y ∧ B y := by
  obtain ⟨cs, rfl, _⟩ := okWide_struct hT hv
  obtain ⟨fuel, hf⟩ := h
  obtain ⟨y, hy, hB⟩ := ho.2 hf hw
  exact ⟨cs, y, rfl, hy, hB⟩
end
end Go.Proofs.Ytlhnapjglebacaa
