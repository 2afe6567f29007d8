/-
  A node that nobody takes, ahead of the others (layer 27: the law GraphIdle), as plain lists.
-/
import Derived.Test.YtjkmjpjknmghlaaGreatKA00
set_option linter.unusedVariables false
set_option linter.unusedSimpArgs false
namespace Go.Proofs.YtjkmjpjknmghlaaGreat
open Go.RowKit Go.ChangeShapes Go.WideShapes
set_option maxRecDepth 100000
def shiftN (d:Node):Node:={ d with a:=if 0 < d.a then d.a+1 else d.a,b:=if d.kind=6 then (if 0 < d.b then d.b+1 else d.b) else d.b }
theorem shift_more (d:Node):moreP (shiftN d) ↔ moreP d:=by
 unfold moreP shiftN
 simp only
 by_cases h:d.kind=6
 ·simp only [h,ne_eq,not_true_eq_false,false_and]
 ·simp only [h,if_false]
theorem shift_check (d:Node):checkV (shiftN d)=checkV d:=by
 have h:=shift_more d
 unfold checkV
 by_cases q:moreP d
 ·rw [if_pos q,if_pos (h.2 q)];rfl
 ·rw [if_neg q,if_neg (fun c=>q (h.1 c))];rfl
theorem shift_node (d:Node) (a b:Tensor):nodeQ (shiftN d) a b=nodeQ d a b:=by
 have h:=shift_check d
 unfold nodeQ
 rw [h];rfl
theorem shift_shape (d:Node) (h v c h2 v2 c2:Int):shapeV h v c h2 v2 c2 (shiftN d)=shapeV h v c h2 v2 c2 d:=rfl
theorem shift_second (d:Node):secondV (shiftN d)=if 0 < secondV d then secondV d+1 else secondV d:=by
 unfold secondV
 show (if d.kind=6 then (if d.kind=6 then (if 0 < d.b then d.b+1 else d.b) else d.b) else (if 0 < d.a then d.a+1 else d.a))=_
 by_cases q:d.kind=6
 ·simp only [q,if_true]
 ·simp only [q,if_false]
theorem shift_there (d:Node) (n:Int) (hn:1≤n):thereV (shiftN d) (n+1)=thereV d n:=by
 unfold thereV
 have e1:decide (0≤(shiftN d).a∧(shiftN d).a < n+1)=decide (0≤d.a∧d.a < n):=by
  show decide (0≤(if 0 < d.a then d.a+1 else d.a)∧(if 0 < d.a then d.a+1 else d.a) < n+1)=_
  split <;> (apply decide_eq_decide.2;omega)
 rw [e1]
 show (_ && (decide (d.kind ≠ 6) || decide (0≤(shiftN d).b∧(shiftN d).b < n+1)))=_
 by_cases q:d.kind=6
 ·have e2:decide (0≤(shiftN d).b∧(shiftN d).b < n+1)=decide (0≤d.b∧d.b < n):=by
   show decide (0≤(if d.kind=6 then (if 0 < d.b then d.b+1 else d.b) else d.b)∧(if d.kind=6 then (if 0 < d.b then d.b+1 else d.b) else d.b) < n+1)=_
   rw [if_pos q]
   split <;> (apply decide_eq_decide.2;omega)
  rw [e2]
 ·simp only [q,ne_eq,not_false_eq_true,decide_true,Bool.true_or]
theorem shift_get {α:Type} (x y z:α) (t:List α) (i:Int):(x :: y :: t).getD (if 0 < i then i+1 else i).toNat z=(x :: t).getD i.toNat z:=by
 by_cases h:0 < i
 ·rw [if_pos h]
  obtain ⟨k,rfl⟩:∃ k:Nat,i=(k:Int)+1:=⟨(i - 1).toNat,by omega⟩
  rw [show ((k:Int)+1+1).toNat=k+1+1 by omega,show ((k:Int)+1).toNat=k+1 by omega]
  rfl
 ·rw [if_neg h,show i.toNat=0 by omega];rfl
theorem shift_next (d:Node) (x y:Sh3) (t:List Sh3):nextV (shiftN d) (x :: y :: t)=nextV d (x :: t):=by
 unfold nextV
 rw [shift_check,shift_second]
 have e:thereV (shiftN d) ((x :: y :: t).length:Nat)=thereV d ((x :: t).length:Nat):=by
  have:=shift_there d ((x :: t).length:Nat) (by simp;omega)
  rw [← this];congr 1
 rw [e,show (shiftN d).a=if 0 < d.a then d.a+1 else d.a from rfl,shift_get,shift_get,shift_shape]
theorem shift_moreV (d:Node) (x y:Tensor) (t:List Tensor):moreV (shiftN d) (x :: y :: t)=moreV d (x :: t):=by
 unfold moreV
 rw [shift_node,shift_second,show (shiftN d).a=if 0 < d.a then d.a+1 else d.a from rfl,shift_get,shift_get]
def idleL (l:List Node):List Node:=flatN :: l.map shiftN
theorem idle_get (l:List Node) (k:Nat) (hk:k < l.length):(idleL l).getD (k+1) noNode=shiftN (l.getD k noNode):=by
 unfold idleL
 rw [List.getD_cons_succ,List.getD_eq_getElem?_getD,List.getElem?_map,List.getElem?_eq_getElem hk,List.getD_eq_getElem?_getD,List.getElem?_eq_getElem hk];rfl
theorem idle_runS (l:List Node) (s:Sh3) (y:Sh3) (h0:nextV flatN [s]=(y,0)):∀ k,k≤l.length → ∀ out,runS l s k=.on out → ∃ t,out=s :: t∧runS (idleL l) s (k+1)=.on (s :: y :: t)
 | 0,_,out,h=>by
  have h:Run.on [s]=.on out:=h
  injection h with h
  refine ⟨[],h.symm,?_⟩
  show (if (nextV flatN [s]).2 ≠ 0 then Run.bad 0 _ else .on ([s] ++ [(nextV flatN [s]).1]))=_
  rw [h0];rfl
 | k+1,hk,out,h=>by
  have h:(match runS l s k with|.on out=>if (nextV (l.getD k noNode) out).2 ≠ 0 then Run.bad k (nextV (l.getD k noNode) out).2 else .on (out ++ [(nextV (l.getD k noNode) out).1])|.bad i e=>.bad i e)=.on out:=h
  cases hr:runS l s k with
  | bad i e=>rw [hr] at h;cases h
  | on o =>
   rw [hr] at h
   simp only at h
   obtain ⟨t,rfl,ht⟩:=idle_runS l s y h0 k (by omega) o hr
   split at h
   ·cases h
   ·rename_i q
    injection h with h
    refine ⟨t ++ [(nextV (l.getD k noNode) (s :: t)).1],h.symm,?_⟩
    show (match runS (idleL l) s (k+1) with|.on out=>if (nextV ((idleL l).getD (k+1) noNode) out).2 ≠ 0 then Run.bad (k+1) (nextV ((idleL l).getD (k+1) noNode) out).2 else .on (out ++ [(nextV ((idleL l).getD (k+1) noNode) out).1])|.bad i e=>.bad i e)=_
    rw [ht,idle_get l k (by omega)]
    simp only
    rw [shift_next,if_neg q];rfl
theorem idle_runV (l:List Node) (x:Tensor) (y:Tensor) (h0:moreV flatN [x]=(y,0)):∀ k,k≤l.length → ∀ out,runV l x k=.on out → ∃ t,out=x :: t∧t.length=k∧runV (idleL l) x (k+1)=.on (x :: y :: t)
 | 0,_,out,h=>by
  have h:RunV.on [x]=.on out:=h
  injection h with h
  refine ⟨[],h.symm,rfl,?_⟩
  show (if (moreV flatN [x]).2 ≠ 0 then RunV.bad 0 _ else .on ([x] ++ [(moreV flatN [x]).1]))=_
  rw [h0];rfl
 | k+1,hk,out,h=>by
  have h:(match runV l x k with|.on out=>if (moreV (l.getD k noNode) out).2 ≠ 0 then RunV.bad k (moreV (l.getD k noNode) out).2 else .on (out ++ [(moreV (l.getD k noNode) out).1])|.bad i e=>.bad i e)=.on out:=h
  cases hr:runV l x k with
  | bad i e=>rw [hr] at h;cases h
  | on o =>
   rw [hr] at h
   simp only at h
   obtain ⟨t,rfl,tl,ht⟩:=idle_runV l x y h0 k (by omega) o hr
   split at h
   ·cases h
   ·rename_i q
    injection h with h
    refine ⟨t ++ [(moreV (l.getD k noNode) (x :: t)).1],h.symm,by simp [tl],?_⟩
    show (match runV (idleL l) x (k+1) with|.on out=>if (moreV ((idleL l).getD (k+1) noNode) out).2 ≠ 0 then RunV.bad (k+1) (moreV ((idleL l).getD (k+1) noNode) out).2 else .on (out ++ [(moreV ((idleL l).getD (k+1) noNode) out).1])|.bad i e=>.bad i e)=_
    rw [ht,idle_get l k (by omega)]
    simp only
    rw [shift_moreV,if_neg q];rfl
def evalV (l:List Node) (x:Tensor):Tensor × Int × Int :=
 if (valuesV l x).2.2=0 then ((valuesV l x).1.getD ((valuesV l x).1.length - 1) noTensor,(valuesV l x).2.1,0) else (noTensor,(valuesV l x).2.1,(valuesV l x).2.2)
theorem runV_bad0 {l:List Node} {x:Tensor} {i:Nat}:∀ m,runV l x m=.bad i 0 → False
 | 0,h=>by cases (show RunV.on [x]=.bad i 0 from h)
 | m+1,h=>by
  have h:(match runV l x m with|.on out=>if (moreV (l.getD m noNode) out).2 ≠ 0 then RunV.bad m (moreV (l.getD m noNode) out).2 else .on (out ++ [(moreV (l.getD m noNode) out).1])|.bad i e=>.bad i e)=.bad i 0:=h
  cases hr:runV l x m with
  | bad j e=>rw [hr] at h;injection h with h1 h2;subst h1 h2;exact runV_bad0 m hr
  | on o =>
   rw [hr] at h
   simp only at h
   split at h
   ·rename_i q
    injection h with h1 h2
    exact q h2
   ·cases h
theorem values_ok {l:List Node} {x:Tensor} (h:(valuesV l x).2.2=0):x.ok=true∧(shapesV l (x.h,x.v,x.c)).2.2=0∧∃ out,runV l x l.length=.on out∧valuesV l x=(out,(l.length:Int),0):=by
 unfold valuesV at h ⊢
 by_cases c1:x.ok=false
 ·rw [if_pos c1] at h;cases h
 rw [if_neg c1] at h ⊢
 by_cases c2:¬ (shapesV l (x.h,x.v,x.c)).2.2=0
 ·rw [if_pos c2] at h;exact absurd h c2
 rw [if_neg c2] at h ⊢
 refine ⟨by simpa using c1,Decidable.not_not.1 c2,?_⟩
 cases hr:runV l x l.length with
 | bad i e=>rw [hr] at h;have h:e=0:=h;subst h;exact (runV_bad0 _ hr).elim
 | on o=>exact ⟨o,rfl,rfl⟩
theorem flat_next {s:Sh3} (h:¬ elems s.1 s.2.1 s.2.2=0):nextV flatN [s]=((1,1,elems s.1 s.2.1 s.2.2),0):=by
 unfold nextV
 rw [if_neg (show ¬ checkV flatN ≠ 0 by decide),if_neg (show ¬ thereV flatN ([s].length:Nat)=false by simp [thereV,flatN])]
 show shapeV s.1 s.2.1 s.2.2 s.1 s.2.1 s.2.2 flatN=_
 unfold shapeV plainV
 simp [flatN,h]
theorem flat_more {x:Tensor} (h:x.ok=true):moreV flatN [x]=(⟨1,1,x.data.length,x.data⟩,0):=by
 show nodeQ flatN x x=_
 unfold nodeQ
 rw [if_neg (show ¬ ¬ checkV flatN=0 by decide),h]
 simp [flatN]
theorem eval_idle {l:List Node} {x:Tensor} (h7:l.length≤7) (h:(evalV l x).2.2=0):(evalV (idleL l) x).1=(evalV l x).1∧(evalV (idleL l) x).2.2=0:=by
 have hv:(valuesV l x).2.2=0:=by
  unfold evalV at h
  by_cases c:(valuesV l x).2.2=0
  ·exact c
  ·rw [if_neg c] at h;exact h
 obtain ⟨ok,sh,out,hr,ev⟩:=values_ok hv
 have lp:=shapes_there sh
 obtain ⟨t,rfl,tl,ht⟩:=idle_runV l x _ (flat_more ok) l.length (Nat.le_refl _) out hr
 have ll:(idleL l).length=l.length+1:=by unfold idleL;simp
 have sh2:(shapesV (idleL l) (x.h,x.v,x.c)).2.2=0:=by
  unfold shapesV at sh ⊢
  by_cases c1:elems x.h x.v x.c=0
  ·rw [if_pos c1] at sh;cases sh
  rw [if_neg c1] at sh ⊢
  rw [if_neg (by omega:¬ l.length=0),if_neg (by omega:¬ 8 < l.length)] at sh
  rw [if_neg (by omega:¬ (idleL l).length=0),if_neg (by omega:¬ 8 < (idleL l).length),ll]
  cases hs:runS l (x.h,x.v,x.c) l.length with
  | bad i e=>rw [hs] at sh;have sh:e=0:=sh;subst sh;exact (runS_bad0 _ hs).elim
  | on o =>
   obtain ⟨t',_,hs2⟩:=idle_runS l (x.h,x.v,x.c) _ (flat_next c1) l.length (Nat.le_refl _) o hs
   rw [hs2];rfl
 have ev2:valuesV (idleL l) x=(x :: ⟨1,1,x.data.length,x.data⟩ :: t,((idleL l).length:Int),0):=by
  unfold valuesV
  rw [if_neg (by rw [ok];decide),if_neg (not_not_intro sh2),ll,ht];rfl
 unfold evalV
 rw [ev,ev2,if_pos rfl,if_pos rfl]
 refine ⟨?_,rfl⟩
 obtain ⟨u,t',rfl⟩:∃ u t',t=u :: t':=by
  cases t with
  | nil=>simp at tl;omega
  | cons u t'=>exact ⟨u,t',rfl⟩
 show (x :: _ :: u :: t').getD (t'.length+1+1+1 - 1) noTensor=(x :: u :: t').getD (t'.length+1+1 - 1) noTensor
 rfl
end Go.Proofs.YtjkmjpjknmghlaaGreat
