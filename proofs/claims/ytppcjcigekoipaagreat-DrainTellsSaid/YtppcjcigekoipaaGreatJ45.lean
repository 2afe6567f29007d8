/-
  The greatest of all costs, as a plain function; what a config must be.
-/
import Derived.Test.YtppcjcigekoipaaGreatJ39
set_option linter.unusedVariables false
set_option linter.unusedSimpArgs false
namespace Go.Proofs.YtppcjcigekoipaaGreat
open Go.RowKit
def mostL (l:List Int):Int:=l.foldl max 0
theorem mostL_snoc (l:List Int) (c:Int):mostL (l ++ [c])=max (mostL l) c:=by unfold mostL;rw [List.foldl_append];rfl
theorem mostL_bd {l:List Int} {B:Int} (hB:0≤B) (h:∀ c ∈ l,c≤B):0≤mostL l∧mostL l≤B:=by
 have key:∀ (l:List Int) (a:Int),0≤a → a≤B → (∀ c ∈ l,c≤B) → 0≤l.foldl max a∧l.foldl max a≤B:=by
  intro l
  induction l with
  | nil=>intro a h1 h2 _;exact ⟨h1,h2⟩
  | cons c r ih =>
   intro a h1 h2 h
   have:=h c (List.mem_cons_self ..)
   exact ih (max a c) (by omega) (by omega) (fun x hx=>h x (List.mem_cons_of_mem _ hx))
 exact key l 0 (by omega) hB h
def costsTo (tb:List (List Int)) (k:Nat) (row:List Int) (j:Nat):List Int:=(tb.take k).flatten ++ row.take j
theorem costsTo_next {tb:List (List Int)} {k:Nat} {row:List Int} {j:Nat} {c:Int} (h:row[j]?=some c):costsTo tb k row (j+1)=costsTo tb k row j ++ [c]:=by
 unfold costsTo
 rw [take_snoc _ _ _ h,List.append_assoc]
theorem costsTo_row {tb:List (List Int)} {k:Nat} {row:List Int} (h:tb[k]?=some row):(tb.take (k+1)).flatten=costsTo tb k row row.length:=by
 unfold costsTo
 rw [take_snoc _ _ _ h,List.flatten_append,List.take_of_length_le (Nat.le_refl _)]
 simp
theorem costsTo_zero {tb:List (List Int)} {k:Nat} {row:List Int}:costsTo tb k row 0=(tb.take k).flatten:=by unfold costsTo;simp
theorem table_in {u:Bun} (h:BunOk u):∀ r ∈ tableC u,∀ c ∈ r,1≤c∧c≤300000000:=fun r hr c hc=>by
 unfold tableC at hr
 obtain ⟨m,hm,rfl⟩:=List.mem_map.1 hr
 obtain ⟨k,hk⟩:=List.getElem?_of_mem hm
 have ok:=h.model hk
 unfold rowC at hc
 obtain ⟨i,hi,rfl⟩:=List.mem_map.1 hc
 exact blockC_bd (ok.blocks i (List.mem_range.1 hi)).shapes
def tokR (l c r:Int):Bool:=decide (1≤l) && (decide (l≤1099511627776) && (decide (0≤c) && (decide (c≤l) && (decide (0≤r) && decide (r < l)))))
def cfgR (l c r q k:Int):Bool:=tokR l c r && (decide (1≤q) && (decide (q≤64) && (decide (1≤k) && decide (k≤16))))
end Go.Proofs.YtppcjcigekoipaaGreat
