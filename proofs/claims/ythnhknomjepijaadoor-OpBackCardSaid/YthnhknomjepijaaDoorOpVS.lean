/-
  The frame of the laws of layer 44 that cut a text: what the row's 'laid' and the world's shape give the walks; from a walk to the given statement.
  Conditions: none.
-/
import Derived.Test.YthnhknomjepijaaDoorOpV
import Derived.Test.YthnhknomjepijaaDoorOpZ
import Derived.Lay
namespace Go.Proofs.YthnhknomjepijaaDoor
set_option linter.unusedVariables false
set_option linter.unusedSimpArgs false
open Go Go.RowKit Go.ChangeShapes Go.WideShapes Go.Deep Go.ChangeAt
set_option maxRecDepth 100000
set_option maxHeartbeats 4000000

def laidS : List (String × DataW Unit) := Rows.opScriptsRow.laid
theorem ls_of_met {W : World} (h : laidMet Tryd.prog laidS W) : LW W := by
  have h2 := h.tail.tail
  have h3 := h2.tail.tail
  have h4 := h3.tail
  refine ⟨?_, ?_, ?_⟩
  · exact Lib.tabIs_of_head (zs := Lib.pow10Tab) gPow gPT Tryd.underlying110 Tryd.underlying62 cellsU cellsP (show laidMet Tryd.prog (("internal/strconv.uint64pow10", Lib.tabData .u64 Lib.pow10Tab) :: _) W from h2)
  · obtain ⟨a, s, hv, -, -, -⟩ := laid_sentinel h4 gES gEST Tryd.underlying59 rowE Tryd.underlying105 Tryd.underlying107 rfl rfl Tryd.underlying9 cellsE cellsS
    exact ⟨_, _, by have h0 := World.var?_cell gES hv 0; simpa using h0⟩
  · obtain ⟨a, s, hv, -, -, -⟩ := laid_sentinel h3 gER gERT Tryd.underlying59 rowE Tryd.underlying105 Tryd.underlying107 rfl rfl Tryd.underlying9 cellsE cellsS
    exact ⟨_, _, by have h0 := World.var?_cell gER hv 0; simpa using h0⟩
theorem ls_of_laid {W : World} (h : laidMetH Tryd.prog laidS W) : LW W := by
  rw [MakeChecks.laidMetH_plain _ _ _ (by kernel_rfl)] at h
  exact ls_of_met h
theorem lm_of_shape {W : World} (h : W.ShapedOpen Tryd.prog) : LM W := ⟨Tryd.laysM146.s1_3 W h⟩
theorem door_metS (os : Os) (args : Array Value) : laidMetH Tryd.prog laidS ((World.laidAll Tryd.prog os laidS).forCall (fun _ _ => 0) ⟨#[], args, []⟩).memory := by
  rw [MakeChecks.laidMetH_plain _ _ _ (by kernel_rfl)]
  exact laidMet_laidAll _ (by kernel_rfl) (by kernel_rfl)

section
variable {H : Type} {enc : TypeId × Value → H}
/-- A law's step where the row lists variables and the walk asks the world's shape: its walk says all. -/
theorem law_lift_shaped {C : Checked} {os : Os} {f : FuncId} {fn : Func} {s : ChangeSpec} {T : TypeId} {lv : List (String × DataW Unit)}
    (own : ownKnob C.prog.godebug = none) (started : os.Started) (noInit : C.prog.inits.idxOf? f = none) (hfn : C.prog.funcs[f]? = some fn)
    (witness : ∃ (w : World) (tape : Tape) (i : Input), w.os = os ∧ (w.forCall tape i).Shaped C.prog ∧ i.vars = [] ∧ Input.okWide C.prog (w.forCall tape i) .any w.heap.size f i ∧
      ((s.pre enc C.prog fn [] false (w.forCall tape i).memory i.args ∧ laidMetH C.prog lv (w.forCall tape i).memory) ∧ sizedMet enc C.prog fn (OpenSpec.ofChange s) false (w.forCall tape i).memory i.args) ∧ ({} : Assume).holds C.prog (lone (Frame.enter C.prog f i.args .normal) [] (w.forCall tape i)))
    (hl : laidOutB C.prog = true) (hpar : (fn.params.toList.all fun t => C.prog.readableRec t && decide (t < C.prog.types.size)) = true)
    (hres : fn.resultTypes = #[T]) (hT : C.prog.underlying T = some .bool) (hv : s.vars = [])
    (hs : ∀ (ds : List (DataW H)), ds.length = fn.params.size → (s.fn H ds).results = [.lit (.bool true)] ∧ (s.fn H ds).args = ds ∧ (s.fn H ds).vars = [])
    (walk : ∀ (W : World) (base : Nat) (args : Array Value) (ds : List (DataW H)) (p : List MemPlace),
      (∀ (j : Nat) t v, fn.params[j]? = some t → args[j]? = some v → Value.okWide C.prog W .any base t v) →
      DataW.TrodAll enc C.prog W 0 (fun _ => true) true fn.params.toList args.toList ds p → laidMetH C.prog lv W → W.ShapedOpen C.prog →
      Calls C.prog f args W fun e W' => e = .returned (.bool true) ∧ Below W.heap.size W W') :
    ReturnsInHanded {} C os f .any (fun w args => (s.pre enc C.prog fn [] false w args ∧ laidMetH C.prog lv w) ∧ sizedMet enc C.prog fn (OpenSpec.ofChange s) false w args) (s.post enc C.prog fn false true false false) := by
  refine returnsInHanded_of_calls own started noInit witness ?_
  intro w tape i _ hsh _ hok hpre _
  obtain ⟨_, _, _, fn', hfn', _, _, _, _, hval⟩ := hok
  have e : fn' = fn := Option.some.inj (hfn'.symm.trans hfn)
  subst e
  obtain ⟨⟨⟨ds, gs, before, hw0, hc⟩, hx⟩, hz⟩ := hpre
  have hW' := DataW.Whole.of_heap (w' := w.forCall tape i) (by rfl) hw0
  have hL : laidMetH C.prog lv (w.forCall tape i) := hx.of_heap (by rfl)
  obtain ⟨p, q, hA, hV, hbe, hfz, hnd⟩ := id hW'
  subst hbe
  rw [hv] at hV
  obtain ⟨rfl, rfl⟩ := trodVars_none hV
  refine (walk (w.forCall tape i) w.heap.size i.args ds p hval hA hL hsh).mono fun e W' ⟨he, hb⟩ => ?_
  subst he
  refine ChangeSpec.post_blind ?_
  obtain ⟨e1, e2, e3⟩ := hs ds (by have := (trodAll_length hA).2; simpa using this)
  have hlt : ∀ x ∈ p, x.block < (w.forCall tape i).heap.size := fun x hx => hW'.lt x (by simp [hx])
  refine ⟨ds, [], p ++ [], [], p, [], hW', ?_, ?_, ?_, hb.frame _, fun h => by cases h⟩
  · rw [hres, List.append_nil, e1]
    exact trodAll_mk1 (shut_bool hT true)
  · rw [List.append_nil, e2]
    exact trodAll_below hl hb hpar hA hlt
  · rw [List.append_nil, e3, hv]
    exact rfl
end
end Go.Proofs.YthnhknomjepijaaDoor
