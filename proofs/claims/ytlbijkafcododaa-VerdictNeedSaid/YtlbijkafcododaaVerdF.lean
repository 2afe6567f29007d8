/-
  With a lesser need what was enough is enough; numbers that all grow by as much (layer 30): the plain law.
  Conditions: none.
-/
import Derived.Test.YtlbijkafcododaaVerdE
import Derived.Test.YtlbijkafcododaaRankF
namespace Go.Proofs.Ytlbijkafcododaa
set_option linter.unusedVariables false
set_option linter.unusedSimpArgs false
open Go.RowKit Go.Proofs.Ytlbijkafcododaa.Rk

theorem prod_i8 {a b : Int} (h1 : -128 ≤ a ∧ a ≤ 127) (h2 : -128 ≤ b ∧ b ≤ 127) : -16384 ≤ a * b ∧ a * b ≤ 16384 := by
  have h : (a * b).natAbs ≤ 128 * 128 := by
    rw [Int.natAbs_mul]
    exact Nat.mul_le_mul (by omega) (by omega)
  omega

theorem raw_bd {x wl : List Int} (hx : ∀ i, InK .i8 (x.getD i 0)) (hw : ∀ i, InK .i8 (wl.getD i 0)) (k : Nat) : -(16384 * (k : Int)) ≤ rawSum x wl 0 k ∧ rawSum x wl 0 k ≤ 16384 * (k : Int) := by
  induction k with
  | zero => exact ⟨by simp [rawSum], by simp [rawSum]⟩
  | succ k ih =>
    have h1 := hx k
    have h2 := hw k
    rw [inK_i8] at h1 h2
    have := prod_i8 (a := wl.getD k 0) (b := x.getD k 0 - 0) h2 (by omega)
    unfold rawSum
    omega

theorem drop_getD (l : List Int) (j i : Nat) : (l.drop j).getD i 0 = l.getD (j + i) 0 := by
  simp [List.getD_eq_getElem?_getD, List.getElem?_drop]

theorem line_grow {x wl b : List Int} {c : Int} (hx : ∀ i, InK .i8 (x.getD i 0)) (hw : ∀ i, InK .i8 (wl.getD i 0)) (hn : x.length ≤ 1024) (hb : ∀ i, i < b.length → -1000000000 ≤ b.getD i 0 ∧ b.getD i 0 ≤ 1000000000) (hc : 0 ≤ c ∧ c ≤ 65535) :
    (denseLine x wl (grownTo b c b.length) 0).length = (denseLine x wl b 0).length ∧ ∀ i, i < (denseLine x wl b 0).length → (denseLine x wl (grownTo b c b.length) 0).getD i 0 = (denseLine x wl b 0).getD i 0 + c := by
  unfold denseLine
  rw [grownTo_len]
  by_cases hbad : x.length = 0 ∨ b.length = 0 ∨ wl.length ≠ x.length * b.length
  · rw [if_pos hbad, if_pos hbad]
    exact ⟨rfl, fun i hi => by cases hi⟩
  · rw [if_neg hbad, if_neg hbad]
    refine ⟨by simp, fun i hi => ?_⟩
    have hi' : i < b.length := by simpa using hi
    simp only [List.getD_eq_getElem?_getD, List.getElem?_map, List.getElem?_range hi', Option.map_some, Option.getD_some]
    have e := grownTo_at b c b.length i hi'
    rw [List.getD_eq_getElem?_getD, List.getD_eq_getElem?_getD] at e
    rw [e]
    have h1 := raw_bd hx (fun j => by rw [drop_getD]; exact hw _) (wl := wl.drop (i * x.length)) x.length
    have h2 := hb i hi'
    rw [List.getD_eq_getElem?_getD] at h2
    unfold wrap32
    omega

theorem need_look (t : Tensor) (d : Hd) (cl less c : Int) (h0 : (lookV t d cl).2 = 0) (hx : ∀ i, InK .i8 (t.data.getD i 0)) (hw : ∀ i, InK .i8 (d.w.getD i 0)) (hn : t.data.length ≤ 1024)
    (hb : ∀ i, i < d.bias.length → -1000000000 ≤ d.bias.getD i 0 ∧ d.bias.getD i 0 ≤ 1000000000) (hc : 0 ≤ c ∧ c ≤ 65535) :
    (lookV t ⟨d.w, grownTo d.bias c d.bias.length, min (max less 0) d.need⟩ cl).2 = 0 ∧ (lookV t ⟨d.w, grownTo d.bias c d.bias.length, min (max less 0) d.need⟩ cl).1.cls = (lookV t d cl).1.cls ∧
      (lookV t ⟨d.w, grownTo d.bias c d.bias.length, min (max less 0) d.need⟩ cl).1.marg = (lookV t d cl).1.marg ∧ ((lookV t d cl).1.en = true → (lookV t ⟨d.w, grownTo d.bias c d.bias.length, min (max less 0) d.need⟩ cl).1.en = true) := by
  rcases look_cases t d cl with ⟨_, h⟩ | ⟨_, k, _, hk, h⟩ | ⟨h1, h2, l, h3, h4⟩
  · rw [h] at h0; exact absurd h0 (by decide)
  · rw [h] at h0; exact absurd h0 hk
  · obtain ⟨z1, z2, z3, z4, z5, z6, z7⟩ := check_zero h2
    have hck : checkI (elems t.h t.v t.c) d.w.length (grownTo d.bias c d.bias.length).length (min (max less 0) d.need) cl = 0 := by
      rw [grownTo_len]
      unfold checkI
      rw [if_neg z7, if_neg (by omega), if_neg (by omega), if_neg (by omega)]
    obtain ⟨g1, g2⟩ := line_grow hx hw hn hb hc
    have e : lookV t ⟨d.w, grownTo d.bias c d.bias.length, min (max less 0) d.need⟩ cl = (⟨bestI (denseLine t.data d.w (grownTo d.bias c d.bias.length) 0), marginI (denseLine t.data d.w (grownTo d.bias c d.bias.length) 0), denseLine t.data d.w (grownTo d.bias c d.bias.length) 0, decide (min (max less 0) d.need ≤ marginI (denseLine t.data d.w (grownTo d.bias c d.bias.length) 0))⟩, 0) := by
      unfold lookV
      rw [if_neg (by rw [h1]; simp), if_neg (by show ¬ checkI (elems t.h t.v t.c) d.w.length (grownTo d.bias c d.bias.length).length (min (max less 0) d.need) cl ≠ 0; rw [hck]; simp)]
    rw [e, h4]
    simp only
    rw [best_grow g1 g2, margin_grow (refOrder_is _) g1 g2, h3]
    refine ⟨by trivial, by trivial, by trivial, fun h => ?_⟩
    have := of_decide_eq_true h
    exact decide_eq_true (by omega)

theorem look_lg {t : Tensor} {d : Hd} {cl : Int} (h : (lookV t d cl).2 ≠ 0) : (lookV t d cl).1.lg = [] := by
  rcases look_cases t d cl with ⟨_, e⟩ | ⟨_, k, _, hk, e⟩ | ⟨_, _, l, _, e⟩
  · rw [e]; rfl
  · rw [e]; rfl
  · rw [e] at h; exact absurd rfl h
end Go.Proofs.Ytlbijkafcododaa
