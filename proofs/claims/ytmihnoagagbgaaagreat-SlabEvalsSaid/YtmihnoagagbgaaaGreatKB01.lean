/-
  The values of a block have the shapes that were told (layer 29), as plain lists.
-/
import Derived.Test.YtmihnoagagbgaaaGreatKB00
import Derived.Test.YtmihnoagagbgaaaGreatJ47
set_option linter.unusedVariables false
set_option linter.unusedSimpArgs false
set_option maxRecDepth 100000
set_option maxHeartbeats 16000000
namespace Go.Proofs.YtmihnoagagbgaaaGreat
open Go Go.Proofs.YtmihnoagagbgaaaGreat.Ar Tryz
set_option maxRecDepth 100000
set_option maxHeartbeats 16000000
abbrev hvc (t:ae):Sh3:=(t.h,t.v,t.c)
theorem uP {l:List af} {s:Sh3} {k:Nat} {sl:List Sh3} (h:cf l s (k+1)=.on sl):∃ o,cf l s k=.on o∧(bs (l.getD k bi) o).2=0∧sl=o ++ [(bs (l.getD k bi) o).1]:=by
 have h:(match cf l s k with|.on out=>if (bs (l.getD k bi) out).2 ≠ 0 then Run.bad k (bs (l.getD k bi) out).2 else .on (out ++ [(bs (l.getD k bi) out).1])|.bad i e=>.bad i e)=.on sl:=h
 cases hr:cf l s k with
 | bad i e=>rw [hr] at h;cases h
 | on o =>
  rw [hr] at h
  simp only at h
  by_cases c:(bs (l.getD k bi) o).2=0
  ·rw [if_neg (by simpa using c)] at h
   injection h with h
   exact ⟨o,rfl,c,h.symm⟩
  ·rw [if_pos c] at h;cases h
theorem uK {l:List af} {s:Sh3} {n:Nat}:∀ {sl:List Sh3},cf l s n=.on sl → ∀ k,k≤n → cf l s k=.on (sl.take (k+1)):=by
 induction n with
 | zero =>
  intro sl h k hk
  obtain rfl:k=0:=oM
  have h1:=(tu _ h).len
  rw [h,List.take_of_length_le oM]
 | succ n ih =>
  intro sl h k hk
  obtain ⟨o,h1,-,h3⟩:=uP h
  have hl:=(tu _ h1).len
  by_cases e:k=n+1
  ·subst e
   rw [h,List.take_of_length_le (by rw [(tu _ h).len];exact lR _)]
  ·rw [ih h1 k oM,h3,List.take_append_of_le_length oM]
structure uG (out:List ae) (sl:List Sh3) (k:Nat):Prop where
 len:out.length=k+1
 ok:∀ j,j≤k → (out.getD j aj).ok=true
 sh:∀ j,j≤k → sl.getD j (0,0,0)=hvc (out.getD j aj)
theorem uW {l:List af} {x:ae} {n:Nat} {sl:List Sh3} (h:cf l (hvc x) n=.on sl) (hx:x.ok=true):uG [x] sl 0:=by
 have h0:=uK h 0 (zl _)
 have h0:Run.on [hvc x]=.on (sl.take 1):=h0
 injection h0 with h0
 refine ⟨rfl,fun j hj=>?_,fun j hj=>?_⟩
 ·obtain rfl:j=0:=oM
  exact hx
 ·obtain rfl:j=0:=oM
  cases sl with
  | nil=>cases h0
  | cons a t=>injection h0 with h1 h2;exact h1.symm
theorem uH {sl:List Sh3} {k j:Nat} (h:j≤k):(sl.take (k+1)).getD j (0,0,0)=sl.getD j (0,0,0):=by
 rw [gD,List.getElem?_take,if_pos oM,← gD]
theorem uY {l:List af} {s:Sh3} {n k:Nat} {sl:List Sh3} {out:List ae} {d:af} (h:cf l s n=.on sl) (hk:k < n) (hv:uG out sl k) (hd:l[k]?=some d) (hm:(eK d out).2=0):uG (out ++ [(eK d out).1]) sl (k+1):=by
 have e:l.getD k bi=d:=by rw [gD,hd];rfl
 have h1:=uK h (k+1) oM
 obtain ⟨o,q1,q2,q3⟩:=uP h1
 have q0:=uK h k oM
 rw [q0] at q1
 injection q1 with q1
 subst q1
 rw [e] at q2 q3
 have ht:=nL q2
 have hl:=(tu _ h).len
 rw [List.length_take,Nat.min_eq_left oM] at ht
 obtain ⟨b1,b2,b3,b4⟩:=gV ht
 have a1:d.a.toNat≤k:=oM
 have a2:(aU d).toNat≤k:=oM
 have sx:(bs d (sl.take (k+1))).1=hvc (eK d out).1:=by
  unfold bs at q2 ⊢
  by_cases c1:bu d ≠ 0
  ·rw [if_pos c1] at q2;exact absurd q2 c1
  rw [if_neg c1] at q2 ⊢
  by_cases c2:bm d (sl.take (k+1)).length=false
  ·rw [if_pos c2] at q2;cases q2
  rw [if_neg c2] at q2 ⊢
  rw [uH a1,uH a2,hv.sh _ a1,hv.sh _ a2]
  unfold eK at hm ⊢
  have:=(jx (x:=(dn d (out.getD d.a.toNat aj) (out.getD (aU d).toNat aj)).1) (by rw [← hm])).1
  unfold hvc
  rw [this]
 have sk:sl.getD (k+1) (0,0,0)=hvc (eK d out).1:=by
  rw [← uH (sl:=sl) (lR (k+1)),q3,sx,gD,List.getElem?_append_right (by rw [List.length_take];omega),List.length_take,Nat.min_eq_left oM,Nat.sub_self]
  rfl
 have ol:=hv.len
 have new:(out ++ [(eK d out).1]).getD (k+1) aj=(eK d out).1:=by
  rw [gD,List.getElem?_append_right oM,ol,Nat.sub_self]
  rfl
 have old:∀ j,j≤k → (out ++ [(eK d out).1]).getD j aj=out.getD j aj:=fun j hj=>by
  rw [gD,List.getElem?_append_left oM,← gD]
 refine ⟨by rw [List.length_append,ol];rfl,fun j hj=>?_,fun j hj=>?_⟩
 ·by_cases ej:j=k+1
  ·subst ej;rw [new];exact ml hm
  ·rw [old j oM];exact hv.ok j oM
 ·by_cases ej:j=k+1
  ·subst ej;rw [new];exact sk
  ·rw [old j oM];exact hv.sh j oM
theorem uU {l:List af} {s:Sh3} {sl:List Sh3} {p:Int} (h:bh l s=(sl,p,0)):cf l s l.length=.on sl:=by
 unfold bh at h
 by_cases c1:ab s.1 s.2.1 s.2.2=0
 ·rw [if_pos c1] at h;simp at h
 rw [if_neg c1] at h
 by_cases c2:l.length=0
 ·rw [if_pos c2] at h;simp at h
 rw [if_neg c2] at h
 by_cases c3:8 < l.length
 ·rw [if_pos c3] at h;simp at h
 rw [if_neg c3] at h
 cases hr:cf l s l.length with
 | bad i e=>rw [hr] at h;have h2:e=0:=congrArg (fun z=>z.2.2) h;exact absurd h2 (uz _ hr)
 | on o=>rw [hr] at h;have h1:o=sl:=congrArg (fun z=>z.1) h;rw [h1]
theorem uE {t:ae} (h:t.ok=true):ab t.h t.v t.c=(t.data.length:Int)∧1≤t.data.length:=by
 unfold ae.ok at h
 have h:=of_decide_eq_true h
 omega
theorem uF {out:List ae} {sl:List Sh3} {k j:Nat} (h:uG out sl k) (hj:j≤k) (hs:j < sl.length):szV sl j=(out.getD j aj).data.length:=by
 unfold szV
 rw [qa sl j hs,h.sh j hj]
 have:=(uE (h.ok j hj)).1
 unfold hvc
 simp only
 omega
def uT (l:List af):tE → ae × Int × Int
 | .on out=>(out.getD l.length aj,(l.length:Int),0)
 | .bad i e=>(aj,(i:Int),e)
theorem ve {l:List af} {x:ae} {sl:List Sh3} {al:List Int} {sz p code:Int} (hx:x.ok=true) (h:ga l (hvc x)=((sl,al,sz),p,code)) :
  (code ≠ 0 → uC l x=(aj,p,code)∧sl=[]∧al=[])∧(code=0 → cf l (hvc x) l.length=.on sl∧dI l (hvc x) sl p∧al=atTo (aI sl) (aV l) (l.length+1)∧sz=roomTo (aI sl) (aV l) (l.length+1)∧uC l x=uT l (gw l x l.length)):=by
 obtain ⟨⟨s1,p1,e1⟩,hs⟩:∃ s,bh l (hvc x)=s:=⟨_,rfl⟩
 have he:uC l x=if ¬ e1=0 then (aj,p1,e1) else uT l (gw l x l.length):=by
  unfold uC
  rw [if_neg (by rw [hx];decide),hs]
  simp only
  cases gw l x l.length <;> rfl
 by_cases c:e1=0
 ·subst c
  rw [sK hs] at h
  cases h
  refine ⟨fun c=>absurd rfl c,fun _=>⟨uU hs,?_,rfl,rfl,by rw [he,if_neg dM]⟩⟩
  have:=p8 hs
  rw [this.at_] at this
  exact this
 ·rw [rq hs c] at h
  cases h
  exact ⟨fun _=>⟨by rw [he,if_pos c],rfl,rfl⟩,fun e=>absurd e c⟩
theorem vd {l:List af} {s:Sh3} {sl:List Sh3} {p:Int} (h:dI l s sl p) (v:Nat) (hv:v≤l.length):(atTo (aI sl) (aV l) (l.length+1)).getD v 0=(atV l sl v:Int)∧ab (sl.getD v (0,0,0)).1 (sl.getD v (0,0,0)).2.1 (sl.getD v (0,0,0)).2.2=(szV sl v:Int):=by
 have h1:=iI h v hv
 have h2:=ex sl v
 have h3:=qa sl v (by rw [h.len];omega)
 unfold atV szV
 rw [← h3]
 omega
theorem vc {l:List af} {x:ae} {k i:Nat} {e:Int} (h:gw l x k=.bad i e) (hk:k≤l.length):uT l (gw l x l.length)=(aj,(i:Int),e):=by
 rw [mM h _ hk];rfl
theorem uR {l:List af} {x:ae}:∀ (k:Nat),(∀ out,gw l x k=.on out → out.length=k+1)∧(∀ i e,gw l x k=.bad i e → e ≠ 0)
 | 0=>⟨fun out h=>by have h:tE.on [x]=.on out:=h;injection h with h;rw [← h];rfl,fun i e h=>by cases (show tE.on [x]=.bad i e from h)⟩
 | k+1=>by
  obtain ⟨i1,i2⟩:=uR (l:=l) (x:=x) k
  have e:gw l x (k+1)=(match gw l x k with|.on out=>if (eK (l.getD k bi) out).2 ≠ 0 then tE.bad k (eK (l.getD k bi) out).2 else .on (out ++ [(eK (l.getD k bi) out).1])|.bad i e=>.bad i e):=rfl
  rw [e]
  cases hr:gw l x k with
  | bad i e=>exact ⟨fun _ h=>(by cases h),fun a b h=>by injection h with h1 h2;rw [← h2];exact i2 i e hr⟩
  | on o =>
   simp only
   by_cases c:(eK (l.getD k bi) o).2=0
   ·rw [if_neg (by simpa using c)]
    exact ⟨fun out h=>by injection h with h;rw [← h,List.length_append,i1 o hr];rfl,fun _ _ h=>by cases h⟩
   ·rw [if_pos c]
    exact ⟨fun _ h=>(by cases h),fun a b h=>by injection h with h1 h2;rw [← h2];exact c⟩
theorem uS (l:List af) (x:ae):(uC l x).2=(jY l x).2∧((jY l x).2.2=0 → 0 < (jY l x).1.length∧(uC l x).1=(jY l x).1.getD ((jY l x).1.length - 1) aj)∧((jY l x).2.2 ≠ 0 → (uC l x).1=aj):=by
 unfold uC jY
 by_cases c1:x.ok=false
 ·rw [if_pos c1,if_pos c1]
  exact ⟨rfl,fun h=>absurd h dM,fun _=>rfl⟩
 rw [if_neg c1,if_neg c1]
 by_cases c2:(bh l (x.h,x.v,x.c)).2.2=0
 ·rw [if_neg (by simpa using c2),if_neg (by simpa using c2)]
  obtain ⟨i1,i2⟩:=uR (l:=l) (x:=x) l.length
  cases hr:gw l x l.length with
  | bad i e=>exact ⟨rfl,fun h=>absurd h (i2 i e hr),fun _=>rfl⟩
  | on o =>
   have:=i1 o hr
   refine ⟨rfl,fun _=>⟨by show 0 < o.length;omega,?_⟩,fun h=>absurd rfl h⟩
   show o.getD l.length aj=o.getD (o.length - 1) aj
   rw [this];rfl
 ·rw [if_pos c2,if_pos c2]
  exact ⟨rfl,fun h=>absurd h c2,fun _=>rfl⟩
end Go.Proofs.YtmihnoagagbgaaaGreat
