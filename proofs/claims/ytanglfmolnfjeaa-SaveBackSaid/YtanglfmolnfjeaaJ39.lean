/-
  A number behind bytes (layer 37): the document's put.
  Conditions: the row is the caller's own; at most 100000 bytes; the number is not below zero.
-/
import Derived.Test.YtanglfmolnfjeaaChecked
import Derived.Test.YtanglfmolnfjeaaJ14
namespace Go.Proofs.Ytanglfmolnfjeaa
set_option linter.unusedVariables false
set_option linter.unusedSimpArgs false
open Go.RowKit Go.ChangeShapes Go.WideShapes
set_option maxRecDepth 100000
set_option maxHeartbeats 4000000

/-- An own row has grown: it, and new memory, alone were written. -/
structure Grew (w : World) (v : Value) (w' : World) (v' : Value) : Prop where
  grown : w.grownBy w' v.ownBlock
  at_ : v'.ownBlock = v.ownBlock ∨ ∃ k, v'.ownBlock = some k ∧ w.heap.size ≤ k
theorem Grew.refl (w : World) (v : Value) : Grew w v w v := ⟨World.grownBy.refl _ _, .inl rfl⟩
theorem Grew.trans {w w1 w2 : World} {v v1 v2 : Value} (h : Grew w v w1 v1) (h' : Grew w1 v1 w2 v2) : Grew w v w2 v2 := by
  refine ⟨⟨h'.grown.os.trans h.grown.os, h'.grown.tape.trans h.grown.tape, h'.grown.output.trans h.grown.output, Nat.le_trans h.grown.size h'.grown.size, fun k hk hne => ?_⟩, ?_⟩
  · refine (h'.grown.block k (Nat.lt_of_lt_of_le hk h.grown.size) ?_).trans (h.grown.block k hk hne)
    rcases h.at_ with e | ⟨j, e, hj⟩
    · rw [e]; exact hne
    · rw [e]; intro c; have := Option.some.inj c; omega
  · rcases h'.at_ with e | ⟨j, e, hj⟩
    · rw [e]; exact h.at_
    · exact .inr ⟨j, e, Nat.le_trans h.grown.size hj⟩
theorem Grew.below {w w1 : World} {v v1 : Value} (h : Grew w v w1 v1) {w2 : World} (hb : Below w1.heap.size w1 w2) : Grew w v w2 v1 :=
  ⟨⟨hb.os.trans h.grown.os, hb.tape.trans h.grown.tape, hb.output.trans h.grown.output, Nat.le_trans h.grown.size hb.size, fun k hk hne => (hb.block k (Nat.lt_of_lt_of_le hk h.grown.size)).trans (h.grown.block k hk hne)⟩, h.at_⟩
theorem Grew.push {w w1 : World} {v v1 v2 : Value} (h : Grew w v w1 v1) {w2 : World} (hg : w1.grownBy w2 v1.ownBlock) (ha : v2.ownBlock = v1.ownBlock ∨ v2.ownBlock = some w1.heap.size) : Grew w v w2 v2 :=
  h.trans ⟨hg, ha.imp id fun e => ⟨_, e, Nat.le_refl _⟩⟩

theorem rput37_any (base : Nat) (v : Value) (m : Nat) (l : List Int) (y : Nat) (w : World) (own : Own (tInt .u8) w (fun _ => False) base 5 v m l) (hb : base ≤ w.heap.size) (hm : m ≤ 100000) (hy : y < 9223372036854775808) :
    Calls Try.prog 24 #[v, .int .i64 (y : Int)] w fun e w' => ∃ v' m', e = .returned v' ∧ Own (tInt .u8) w' (fun _ => False) base 5 v' m' (l ++ lebV y) ∧ m' ≤ m + 10 ∧ Grew w v w' v' := by
  have ON := Lib.hid own
  have PY := Lib.hid (fun w => rlebPut_any y w (by omega))
  have hl := lebV_length y
  have hl9 := lebLen_le 9 y
  obtain ⟨lv, hlv⟩ : ∃ x, lebV y = x := ⟨_, rfl⟩
  rw [hlv] at PY hl
  rw [hlv]
  clear hlv own
  go_enter Try.func24, Try.ntmps24
  go_wp2_with fail
  refine (PY.out _).mono ?_
  rintro e w2 ⟨A2, n2, c2, rfl, hs2, hb2⟩
  have hn2 := hs2.n_eq
  have S2 := Lib.hid hs2
  have O2 := Lib.hid (ON.out.below hb2 (Nat.le_refl _) (fun _ h => h.elim))
  have B2 := Lib.hid ((Grew.refl w v).below hb2)
  have z2 : base ≤ w2.heap.size := Nat.le_trans hb hb2.size
  clear hs2 hb2 ON
  go_wp2_with (at_builtin; refine wpList_extend rfl (.tmp 5) (.tmp 8) rfl ei_u8 rfl O2.out rfl S2.out (by unfold maxLen; omega) (by omega) z2 ?_; intro v' w3 own3 g3 at3)
  have b3 := B2.out.push g3 at3
  go_ret
  exact ⟨v', m + n2, rfl, own3, by omega, b3⟩
end Go.Proofs.Ytanglfmolnfjeaa
