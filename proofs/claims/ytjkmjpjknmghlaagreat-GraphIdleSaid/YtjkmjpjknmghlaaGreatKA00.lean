/-
  All values of a block's nodes (layer 27), as plain lists.
-/
import Derived.Test.YtjkmjpjknmghlaaGreatJ41
set_option linter.unusedVariables false
set_option linter.unusedSimpArgs false
namespace Go.Proofs.YtjkmjpjknmghlaaGreat
open Go.RowKit Go.ChangeShapes Go.WideShapes
set_option maxRecDepth 100000
def moreV (d:Node) (l:List Tensor):Tensor × Int:=nodeQ d (l.getD d.a.toNat noTensor) (l.getD (secondV d).toNat noTensor)
inductive RunV where
 | on (out:List Tensor)
 | bad (i:Nat) (e:Int)
def runV (l:List Node) (x:Tensor):Nat → RunV
 | 0=>.on [x]
 | k+1=>match runV l x k with
  | .on out=>if (moreV (l.getD k noNode) out).2 ≠ 0 then .bad k (moreV (l.getD k noNode) out).2 else .on (out ++ [(moreV (l.getD k noNode) out).1])
  | .bad i e=>.bad i e
def endV27 (n:Nat):RunV → List Tensor × Int × Int
 | .on out=>(out,(n:Int),0)
 | .bad i e=>([],(i:Int),e)
def valuesV (l:List Node) (x:Tensor):List Tensor × Int × Int :=
 if x.ok=false then ([],-1,5) else if ¬ (shapesV l (x.h,x.v,x.c)).2.2=0 then ([],(shapesV l (x.h,x.v,x.c)).2.1,(shapesV l (x.h,x.v,x.c)).2.2) else endV27 l.length (runV l x l.length)
theorem runV_bad {l : List Node} {x : Tensor} {k i : Nat} {e : Int} (h : runV l x k = .bad i e) : ∀ m, k ≤ m → runV l x m = .bad i e := by
  intro m hm
  induction m with
  | zero => obtain rfl : k = 0 := by omega
            exact h
  | succ m ih =>
    by_cases hk : k = m + 1
    · subst hk; exact h
    · have := ih (by omega)
      show (match runV l x m with | .on out => _ | .bad i e => _) = _
      rw [this]
theorem runV_next {l:List Node} {x:Tensor} {k:Nat} {out:List Tensor} {d:Node} (h:runV l x k=.on out) (hd:l[k]?=some d) :
  runV l x (k+1)=if (moreV d out).2 ≠ 0 then .bad k (moreV d out).2 else .on (out ++ [(moreV d out).1]):=by
 have e:l.getD k noNode=d:=by rw [List.getD_eq_getElem?_getD,hd];rfl
 show (match runV l x k with|.on out=>_|.bad i e=>_)=_
 rw [h]
 simp only [e]
theorem runS_len {l:List Node} {s:Sh3}:∀ {k:Nat} {out:List Sh3},runS l s k=.on out → out.length=k+1
 | 0,out,h=>by
  have h:Run.on [s]=.on out:=h
  injection h with h;rw [← h];rfl
 | k+1,out,h=>by
  have h:(match runS l s k with|.on out=>if (nextV (l.getD k noNode) out).2 ≠ 0 then Run.bad k (nextV (l.getD k noNode) out).2 else .on (out ++ [(nextV (l.getD k noNode) out).1])|.bad i e=>.bad i e)=.on out:=h
  cases hr:runS l s k with
  | bad i e=>rw [hr] at h;cases h
  | on o =>
   rw [hr] at h
   simp only at h
   split at h
   ·cases h
   ·injection h with h
    rw [← h,List.length_append,runS_len hr];rfl
theorem runS_there {l:List Node} {s:Sh3}:∀ {m:Nat} {out:List Sh3},runS l s m=.on out → ∀ k d,k < m → l[k]?=some d → thereV d ((k+1:Nat):Int)=true
 | 0,_,_,_,_,hk,_=>absurd hk (Nat.not_lt_zero _)
 | m+1,out,h,k,d,hk,hd=>by
  have h:(match runS l s m with|.on out=>if (nextV (l.getD m noNode) out).2 ≠ 0 then Run.bad m (nextV (l.getD m noNode) out).2 else .on (out ++ [(nextV (l.getD m noNode) out).1])|.bad i e=>.bad i e)=.on out:=h
  cases hr:runS l s m with
  | bad i e=>rw [hr] at h;cases h
  | on o =>
   by_cases hkm:k < m
   ·exact runS_there hr k d hkm hd
   ·obtain rfl:k=m:=by omega
    rw [hr] at h
    simp only at h
    have e:l.getD k noNode=d:=by rw [List.getD_eq_getElem?_getD,hd];rfl
    rw [e] at h
    split at h
    ·cases h
    ·rename_i q
     have q:(nextV d o).2=0:=Decidable.not_not.1 q
     have hl:=runS_len hr
     unfold nextV at q
     by_cases c1:checkV d ≠ 0
     ·rw [if_pos c1] at q;exact absurd q c1
     ·rw [if_neg c1] at q
      by_cases c2:thereV d o.length=false
      ·rw [if_pos c2] at q;cases q
      ·rw [hl] at c2
       simpa using c2
theorem runS_bad0 {l:List Node} {s:Sh3} {i:Nat}:∀ m,runS l s m=.bad i 0 → False
 | 0,h=>by cases (show Run.on [s]=.bad i 0 from h)
 | m+1,h=>by
  have h:(match runS l s m with|.on out=>if (nextV (l.getD m noNode) out).2 ≠ 0 then Run.bad m (nextV (l.getD m noNode) out).2 else .on (out ++ [(nextV (l.getD m noNode) out).1])|.bad i e=>.bad i e)=.bad i 0:=h
  cases hr:runS l s m with
  | bad j e=>rw [hr] at h;injection h with h1 h2;subst h1 h2;exact runS_bad0 m hr
  | on o =>
   rw [hr] at h
   simp only at h
   split at h
   ·rename_i q
    injection h with h1 h2
    exact q h2
   ·cases h
theorem shapes_there {l:List Node} {s:Sh3} (h:(shapesV l s).2.2=0):l.length≤8∧0 < l.length∧∀ (k:Nat) (d:Node),l[k]?=some d → thereV d ((k+1:Nat):Int)=true:=by
 unfold shapesV at h
 split at h
 ·cases h
 split at h
 ·cases h
 split at h
 ·cases h
 rename_i c1 c2 c3
 refine ⟨by omega,by omega,fun k d hd=>?_⟩
 cases hr:runS l s l.length with
 | bad i e =>
  exfalso
  rw [hr] at h
  have h:e=0:=h
  subst h
  exact runS_bad0 l.length hr
 | on o=>exact runS_there hr k d (List.getElem?_eq_some_iff.1 hd).1 hd
theorem ok_in {t:Tensor} (h:t.ok=true):TensorIn t:=by
 unfold Tensor.ok at h
 have h:=of_decide_eq_true h
 have g:=GoodS.of (h:=t.h) (v:=t.v) (c:=t.c) (by omega)
 have h1:=g.h
 have h2:=g.v
 have h3:=g.c
 simp only at h1 h2 h3
 exact ⟨by rw [inK_i64];omega,by rw [inK_i64];omega,by rw [inK_i64];omega⟩
theorem moreV_ok {d:Node} {l:List Tensor} (h:(moreV d l).2=0):(moreV d l).1.ok=true:=by
 unfold moreV at *
 exact (node_shape (x:=(nodeQ d (l.getD d.a.toNat noTensor) (l.getD (secondV d).toNat noTensor)).1) (by rw [← h])).2.1
end Go.Proofs.YtjkmjpjknmghlaaGreat
