/-
  A block's plan (layer 29), in numbers: shapes, sizes, who is needed until when, places; what a node takes and makes does not meet.
  The document's Last, Few, the fixed call, and the walk of the law GraphShapes (layer 27).
-/
import Derived.Test.YtmihnoagagbgaaaGreatJ45
import Derived.Test.YtmihnoagagbgaaaGreatJ38
set_option linter.unusedVariables false
set_option linter.unusedSimpArgs false
set_option maxRecDepth 100000
set_option maxHeartbeats 16000000
namespace Go.Proofs.YtmihnoagagbgaaaGreat
open Go.Proofs.YtmihnoagagbgaaaGreat.Ar Tryz
set_option maxRecDepth 100000
set_option maxHeartbeats 16000000
def aI (sl:List Sh3):List Int:=sl.map fun x=>ab x.1 x.2.1 x.2.2
theorem ed (sl:List Sh3):(aI sl).length=sl.length:=by simp [aI]
theorem qa (sl:List Sh3) (i:Nat) (h:i < sl.length):(aI sl).getD i 0=ab (sl.getD i (0,0,0)).1 (sl.getD i (0,0,0)).2.1 (sl.getD i (0,0,0)).2.2:=by
 unfold aI
 rw [gD,List.getElem?_map,gD,List.getElem?_eq_getElem h]
 rfl
theorem ex (sl:List Sh3) (i:Nat):0≤(aI sl).getD i 0∧(aI sl).getD i 0≤1024:=by
 by_cases h:i < sl.length
 ·rw [qa sl i h];exact aC _ _ _
 ·rw [gD,List.getElem?_eq_none (by rw [ed];omega)];decide
theorem oE (sl:List Sh3) (k:Nat) (h:k < sl.length):aI (sl.take (k+1))=aI (sl.take k) ++ [ab (sl.getD k (0,0,0)).1 (sl.getD k (0,0,0)).2.1 (sl.getD k (0,0,0)).2.2]:=by
 rw [kF sl k (sl.getD k (0,0,0)) (by rw [gD,List.getElem?_eq_getElem h];rfl)]
 simp [aI]
theorem i9 {l:List af} {s:Sh3} {sl:List Sh3} {p:Int} (h:dI l s sl p):mayOk (aI sl) (aV l):=by
 refine ⟨by rw [ed,fv,h.len],by rw [ed,h.len];have:=h.few;omega,fun i hi=>?_⟩
 have:=ex sl i
 omega
def ga (l:List af) (s:Sh3):(List Sh3 × List Int × Int) × Int × Int :=
 if (bh l s).2.2 ≠ 0 then (([],[],0),(bh l s).2.1,(bh l s).2.2)
 else (((bh l s).1,atTo (aI (bh l s).1) (aV l) (l.length+1),roomTo (aI (bh l s).1) (aV l) (l.length+1)),(l.length:Int),0)
theorem mf {l:List af} {v:Int} {i:Nat} {d:af} (hd:l[i]?=some d) (ht:d9 d i v=true) (k:Nat) (hk:i < k) (hl:k≤l.length):(i:Int)+1≤eJ l v k:=by
 induction k with
 | zero=>omega
 | succ k ih =>
  unfold eJ
  by_cases q:d9 (l.getD k bi) k v=true
  ·rw [if_pos q];omega
  ·rw [if_neg q]
   by_cases hik:i < k
   ·exact ih hik oM
   ·obtain rfl:i=k:=oM
    rw [gD,hd] at q
    exact absurd ht q
theorem oP {l:List af} {sl:List Sh3} (k:Nat) (hk:k≤l.length):(atTo (aI sl) (aV l) (l.length+1)).getD k 0+(aI sl).getD k 0≤roomTo (aI sl) (aV l) (l.length+1) :=
 in_room (l.length+1) k oM
theorem iI {l:List af} {s:Sh3} {sl:List Sh3} {p:Int} (h:dI l s sl p) (k:Nat) (hk:k≤l.length):0≤(atTo (aI sl) (aV l) (l.length+1)).getD k 0∧(atTo (aI sl) (aV l) (l.length+1)).getD k 0+(aI sl).getD k 0≤1073741824:=by
 have hm:=i9 h
 have hs:∀ j,j < l.length+1 → 0≤(aI sl).getD j 0∧(aI sl).getD j 0≤1048576:=fun j _=>by have:=ex sl j;omega
 exact (good_at hs (l.length+1) (lR _)).small (n:=l.length+1) (lR _) (by have:=h.few;omega) hs k oM
theorem oQ {l:List af} {s:Sh3} {sl:List Sh3} {p:Int} (h:dI l s sl p):0≤roomTo (aI sl) (aV l) (l.length+1)∧roomTo (aI sl) (aV l) (l.length+1)≤1073741824:=by
 have hs:∀ j,j < l.length+1 → 0≤(aI sl).getD j 0∧(aI sl).getD j 0≤1048576:=fun j _=>by have:=ex sl j;omega
 have h1:=room_sum (un:=aV l) hs (l.length+1) (lR _)
 have h2:=sumTo_bd hs (l.length+1) (lR _)
 have:=h.few
 omega
end Go.Proofs.YtmihnoagagbgaaaGreat
namespace Go.Proofs.YtmihnoagagbgaaaGreat
open Go.RowKit Go.ChangeShapes Go.WideShapes Tryz
set_option maxRecDepth 100000
set_option maxHeartbeats 16000000
theorem tf:EI prog 22 42 (.agg (nN 0 0 0 0 0 0 0 0 0 none 0 0 none 0 0 0 0 0 0 0 0 0 0)) 19 168:=⟨underlying22,by kernel_rfl,rfl,by decide⟩
theorem nM:Opens prog 22 (tSlice ee):=gv underlying22 kM dM pF
end Go.Proofs.YtmihnoagagbgaaaGreat
