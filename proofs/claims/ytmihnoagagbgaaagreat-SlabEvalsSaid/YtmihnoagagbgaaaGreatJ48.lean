/-
  A block in one piece of room (layer 29), as plain lists: what is still needed stays where it is.
-/
import Derived.Test.YtmihnoagagbgaaaGreatJ46
import Derived.Test.YtmihnoagagbgaaaGreatJ44
set_option linter.unusedVariables false
set_option linter.unusedSimpArgs false
set_option maxRecDepth 100000
set_option maxHeartbeats 16000000
namespace Go.Proofs.YtmihnoagagbgaaaGreat
open Go Go.Proofs.YtmihnoagagbgaaaGreat.Ar Tryz
set_option maxRecDepth 100000
set_option maxHeartbeats 16000000
theorem nT {l:List af} {s:Sh3} {sl:List Sh3} {p:Int} (h:dI l s sl p) {i j v:Nat} {d:af} (hd:l[i]?=some d) (hv:(v:Int)=d.a ∨ (v:Int)=aU d) (hvj:v≤j) (hji:j≤i) :
  (atTo (aI sl) (aV l) (l.length+1)).getD v 0+(aI sl).getD v 0≤(atTo (aI sl) (aV l) (l.length+1)).getD (j+1) 0 ∨
  (atTo (aI sl) (aV l) (l.length+1)).getD (j+1) 0+(aI sl).getD (j+1) 0≤(atTo (aI sl) (aV l) (l.length+1)).getD v 0 ∨ (aI sl).getD (j+1) 0=0 ∨ (aI sl).getD v 0=0:=by
 have hi:i < l.length:=(List.getElem?_eq_some_iff.1 hd).1
 have hs:=sound_at (i9 h)
 rw [ed,h.len] at hs
 obtain ⟨_,_,hr⟩:=hs
 rw [atTo_len] at hr
 have hp:=(hr (j+1) oM).2.2 v oM
 unfold pairOk at hp
 have ht:togI ((aV l).getD v 0) v (j+1)=true:=by
  have hth:=h.there i hi
  rw [gD,hd] at hth
  have hb:d9 d i (v:Int)=true:=by
   unfold d9
   rw [show bm d ((i:Int)+1)=true from hth]
   rcases hv with e|e <;> simp [e]
  have hg:=mf hd hb l.length hi (lR _)
  rw [pA l v oM]
  unfold togI ju
  rw [if_neg oM]
  simp only [decide_eq_true_eq]
  have:=Int.le_max_left (eJ l (v:Int) l.length) (v:Int)
  omega
 rw [ht] at hp
 rcases hp with h|h|h|h|h
 ·exact .inl h
 ·exact .inr (.inl h)
 ·exact .inr (.inr (.inl h))
 ·exact .inr (.inr (.inr h))
 ·cases h
def atV (l:List af) (sl:List Sh3) (v:Nat):Nat:=((atTo (aI sl) (aV l) (l.length+1)).getD v 0).toNat
def szV (sl:List Sh3) (v:Nat):Nat:=((aI sl).getD v 0).toNat
def tX (l:List af) (k v:Nat):Prop:=v=l.length ∨ ∃ i d,k≤i∧l[i]?=some d∧((v:Int)=d.a ∨ (v:Int)=aU d)
def lu (l:List af) (sl:List Sh3) (L:List Int) (v:Nat):List Int:=(L.drop (atV l sl v)).take (szV sl v)
structure fN (l:List af) (sl:List Sh3) (V:List ae) (k:Nat) (L:List Int):Prop where
 holds:∀ v,v≤k → tX l k v → lu l sl L v=(V.getD v aj).data
theorem kC {L xs:List Int} {o:Nat} (h:o+xs.length≤L.length):((splice L o xs).drop o).take xs.length=xs:=by
 unfold splice
 rw [List.drop_append_of_le_length (by rw [List.length_take];omega),List.drop_of_length_le (by rw [List.length_take];omega),List.nil_append,List.take_append_of_le_length (lR _),List.take_of_length_le (lR _)]
theorem qc {L xs:List Int} {o p n:Nat} (h:o+xs.length≤L.length) (hp:p+n≤L.length) (hd:p+n≤o ∨ o+xs.length≤p ∨ n=0 ∨ xs.length=0):((splice L o xs).drop p).take n=(L.drop p).take n:=by
 apply List.ext_getElem?
 intro i
 rw [List.getElem?_take,List.getElem?_take]
 by_cases hi:i < n
 ·rw [if_pos hi,if_pos hi,List.getElem?_drop,List.getElem?_drop]
  unfold splice
  by_cases c1:p+i < o
  ·rw [List.getElem?_append_left (by rw [List.length_take];omega),List.getElem?_take,if_pos c1]
  ·rw [List.getElem?_append_right (by rw [List.length_take];omega),List.length_take,Nat.min_eq_left oM]
   by_cases c2:p+i - o < xs.length
   ·omega
   ·rw [List.getElem?_append_right oM,List.getElem?_drop]
    congr 1
    omega
 ·rw [if_neg hi,if_neg hi]
theorem ji {l:List af} {s:Sh3} {sl:List Sh3} {p:Int} {L:List Int} (h:dI l s sl p) (hL:(L.length:Int)=roomTo (aI sl) (aV l) (l.length+1)) (v:Nat) (hv:v≤l.length):atV l sl v+szV sl v≤L.length:=by
 have h1:=iI h v hv
 have h2:=oP (l:=l) (sl:=sl) v hv
 have h3:=ex sl v
 unfold atV szV
 omega
theorem fN.step {l:List af} {s:Sh3} {sl:List Sh3} {p:Int} {L:List Int} {V:List ae} {k:Nat} {t:ae} (hr:fN l sl V k L) (h:dI l s sl p) (hL:(L.length:Int)=roomTo (aI sl) (aV l) (l.length+1)) (hk:k < l.length) (hV:V.length=k+1) (ht:t.data.length=szV sl (k+1)) :
  fN l sl (V ++ [t]) (k+1) (splice L (atV l sl (k+1)) t.data):=by
 have f1:=ji h hL (k+1) oM
 refine ⟨fun v hv hn=>?_⟩
 by_cases e:v=k+1
 ·subst e
  unfold lu
  rw [← ht,kC oM,gD,List.getElem?_append_right oM,hV,Nat.sub_self]
  rfl
 ·have hvk:v≤k:=oM
  have f2:=ji h hL v oM
  have old:=hr.holds v hvk (hn.imp id fun ⟨i,d,h1,h2,h3⟩=>⟨i,d,by omega,h2,h3⟩)
  rw [gD,List.getElem?_append_left oM,← gD,← old]
  unfold lu
  refine qc oM f2 ?_
  rcases hn with e|⟨i,d,hi,hd,hvd⟩
  ·omega
  ·have b1:=iI h v oM
   have b2:=iI h (k+1) oM
   have b3:=ex sl v
   have b4:=ex sl (k+1)
   rw [ht]
   unfold atV szV
   rcases nT h hd hvd hvk oM with q|q|q|q <;> omega
theorem fN.first {l:List af} {s:Sh3} {sl:List Sh3} {p:Int} {L:List Int} {x:ae} (h:dI l s sl p) (hL:(L.length:Int)=roomTo (aI sl) (aV l) (l.length+1)) (hx:x.data.length=szV sl 0):fN l sl [x] 0 (splice L (atV l sl 0) x.data):=by
 have f1:=ji h hL 0 oM
 refine ⟨fun v hv hn=>?_⟩
 obtain rfl:v=0:=oM
 unfold lu
 rw [← hx,kC oM]
 rfl
end Go.Proofs.YtmihnoagagbgaaaGreat
