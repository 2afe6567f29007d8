/-
  The shape of what a node makes is the one that is told ahead (layers 25, 26), in numbers.
  What GraphIdle (layer 27) are built over: a name for each contract that they use, so that the tool that prunes keeps it.
-/
import Derived.Test.YtjkmjpjknmghlaaGreatJ39
import Derived.Test.YtjkmjpjknmghlaaGreatJ40
set_option linter.unusedVariables false
set_option linter.unusedSimpArgs false
namespace Go.Proofs.YtjkmjpjknmghlaaGreat
theorem ok_of {x:Tensor} (h1:elems x.h x.v x.c=(x.data.length:Int)) (h2:0 < x.data.length):x.ok=true:=by
 unfold Tensor.ok
 rw [decide_eq_true_eq]
 exact ⟨by omega,h1⟩
theorem pool_shape {U:List Int → Int} {a x:Tensor} {d:Node} (hok:a.ok=true) (h:poolQ U a d=(x,0)):slideV a.h a.v a.c d.k d.s d.p a.c=((x.h,x.v,x.c),0)∧x.ok=true:=by
 have c2:(slideV a.h a.v a.c d.k d.s d.p a.c).2=0:=by
  unfold poolQ at h
  split at h
  ·assumption
  ·exact (Prod.mk.inj h).2
 obtain ⟨H,V,C,K,S,P,Ho,Wo,TK,WK,hx,el,ev⟩:=pool_nat (U:=U) hok c2
 rw [ev] at h
 obtain ⟨e,-⟩:=Prod.mk.inj h
 subst e
 refine ⟨hx,ok_of ?_ ?_⟩
 ·simpa using el
 ·have:=WK.ho1;have:=WK.wo1;have:=WK.co1
  simp only [List.length_map,List.length_range]
  exact Nat.mul_pos (Nat.mul_pos (by omega) (by omega)) (by omega)
theorem sum_shape {a y:Tensor} {d:Node} (hk:d.kind=1 ∨ d.kind=2 ∨ d.kind=3) (h:sumOf a d=(y,0)) (h2 v2 c2:Int):shapeV a.h a.v a.c h2 v2 c2 d=((y.h,y.v,y.c),0):=by
 unfold sumOf at h
 unfold shapeV
 by_cases k1:d.kind=1
 ·rw [if_pos k1] at h ⊢
  unfold convOf at h
  by_cases c1:a.ok=true
  ·rw [if_pos c1] at h
   by_cases c2:(convV a.h a.v a.c d).2=0
   ·obtain ⟨H,V,C,K,S,P,Ho,Wo,Co,TK,WK,hx,lw,lb,ho,el,ev⟩:=conv_nat c1 c2
    unfold convOf at ev
    rw [if_pos c1] at ev
    rw [ev] at h
    obtain ⟨e,-⟩:=Prod.mk.inj h
    subst e
    exact hx
   ·rw [if_neg c2] at h;exact absurd (Prod.mk.inj h).2 c2
  ·rw [if_neg c1] at h;cases (Prod.mk.inj h).2
 rw [if_neg k1] at h ⊢
 by_cases k2:d.kind=2
 ·rw [if_pos k2] at h ⊢
  unfold depthOf at h
  by_cases c1:a.ok=true
  ·rw [if_pos c1] at h
   by_cases c2:(depthV a.h a.v a.c d).2=0
   ·obtain ⟨H,V,C,K,S,P,Ho,Wo,TK,WK,hx,lw,lb,el,ev⟩:=depth_nat c1 c2
    unfold depthOf at ev
    rw [if_pos c1] at ev
    rw [ev] at h
    obtain ⟨e,-⟩:=Prod.mk.inj h
    subst e
    exact hx
   ·rw [if_neg c2] at h;exact absurd (Prod.mk.inj h).2 c2
  ·rw [if_neg c1] at h;cases (Prod.mk.inj h).2
 rw [if_neg k2] at h ⊢
 have k3:d.kind=3:=by omega
 rw [if_pos k3] at h ⊢
 unfold denseOf at h
 by_cases c1:a.ok=true
 ·rw [if_pos c1] at h
  by_cases c2:denseCode a.h a.v a.c d=0
  ·rw [if_pos c2] at h
   obtain ⟨e,-⟩:=Prod.mk.inj h
   subst e
   unfold denseCode at c2
   unfold denseV
   split at c2
   ·cases c2
   ·rename_i q
    rw [if_neg q]
    split at c2
    ·cases c2
    ·rename_i r
     rw [if_neg r]
  ·rw [if_neg c2] at h;exact absurd (Prod.mk.inj h).2 c2
 ·rw [if_neg c1] at h;cases (Prod.mk.inj h).2
theorem node_shape {d:Node} {a b x:Tensor} (h:nodeQ d a b=(x,0)):shapeV a.h a.v a.c b.h b.v b.c d=((x.h,x.v,x.c),0)∧x.ok=true∧1≤d.kind∧d.kind≤9:=by
 unfold nodeQ at h
 by_cases q1:checkV d=0
 ·rw [if_neg (not_not_intro q1)] at h
  have hk:1≤d.kind∧d.kind≤9:=by
   unfold checkV at q1
   split at q1
   ·cases q1
   ·rename_i q;exact Decidable.not_not.1 q
  by_cases q2:a.ok=true
  ·rw [if_neg (by rw [q2];decide)] at h
   have aok:=q2
   simp only [Tensor.ok,decide_eq_true_eq] at aok
   obtain ⟨H,V,C,TK⟩:=tok_of q2
   have ne0:¬ elems a.h a.v a.c=0:=by omega
   have len0:0 < a.data.length:=by omega
   by_cases k4:d.kind=4
   ·rw [if_pos k4] at h
    obtain ⟨e1,e2⟩:=pool_shape q2 h
    refine ⟨?_,e2,hk⟩
    unfold shapeV
    rw [if_neg (by omega),if_neg (by omega),if_neg (by omega),if_pos (.inl k4)]
    exact e1
   rw [if_neg k4] at h
   by_cases k5:d.kind=5
   ·rw [if_pos k5] at h
    obtain ⟨e1,e2⟩:=pool_shape q2 h
    refine ⟨?_,e2,hk⟩
    unfold shapeV
    rw [if_neg (by omega),if_neg (by omega),if_neg (by omega),if_pos (.inr k5)]
    exact e1
   rw [if_neg k5] at h
   by_cases k6:d.kind=6
   ·rw [if_pos k6] at h
    unfold joinQ at h
    split at h
    ·cases (Prod.mk.inj h).2
    split at h
    ·cases (Prod.mk.inj h).2
    rename_i qs
    split at h
    ·cases (Prod.mk.inj h).2
    split at h
    ·cases (Prod.mk.inj h).2
    obtain ⟨e,-⟩:=Prod.mk.inj h
    subst e
    refine ⟨?_,ok_of ?_ ?_,hk⟩
    ·unfold shapeV plainV
     rw [if_neg (by omega),if_neg (by omega),if_neg (by omega),if_neg (by omega),if_neg ne0,if_neg (fun e=>qs e.2),if_neg (by omega),if_neg (by omega)]
    ·simpa using aok.2
    ·simpa using len0
   rw [if_neg k6] at h
   by_cases k7:d.kind=7
   ·rw [if_pos k7] at h
    unfold actQ at h
    split at h
    ·obtain ⟨e,-⟩:=Prod.mk.inj h
     subst e
     refine ⟨?_,ok_of ?_ ?_,hk⟩
     ·unfold shapeV plainV
      rw [if_neg (by omega),if_neg (by omega),if_neg (by omega),if_neg (by omega),if_neg ne0,if_neg (fun e=>by omega),if_neg (by omega),if_neg (by omega)]
     ·simpa using aok.2
     ·simpa using len0
    ·cases (Prod.mk.inj h).2
   rw [if_neg k7] at h
   by_cases k8:d.kind=8
   ·rw [if_pos k8] at h
    unfold padO at h
    split at h
    ·cases (Prod.mk.inj h).2
    rename_i qp
    have hpn:((d.p.toNat:Nat):Int)=d.p:=by omega
    unfold padQ at h
    rw [hpn] at h
    split at h
    ·cases (Prod.mk.inj h).2
    rename_i qe
    obtain ⟨H',V',C',q1',q2',q3',b1,b2,b3,q4',q5'⟩:=elems_nat qe
    obtain ⟨e,-⟩:=Prod.mk.inj h
    subst e
    refine ⟨?_,ok_of ?_ ?_,hk⟩
    ·unfold shapeV plainV aroundV
     rw [if_neg (by omega),if_neg (by omega),if_neg (by omega),if_neg (by omega),if_neg ne0,if_neg (fun e=>by omega),if_pos k8,if_neg qp,if_neg qe]
    ·simp only [List.length_map,List.length_range]
     omega
    ·simp only [List.length_map,List.length_range]
     omega
   rw [if_neg k8] at h
   by_cases k9:d.kind=9
   ·rw [if_pos k9] at h
    obtain ⟨e,-⟩:=Prod.mk.inj h
    subst e
    have hl:=TK.n_le
    have e1:elems 1 1 (a.data.length:Int)=(a.data.length:Int):=by rw [elems_iff,if_pos (by omega)];omega
    refine ⟨?_,ok_of e1 len0,hk⟩
    unfold shapeV plainV
    rw [if_neg (by omega),if_neg (by omega),if_neg (by omega),if_neg (by omega),if_neg ne0,if_neg (fun e=>by omega),if_neg (by omega),if_pos k9,aok.2]
   rw [if_neg k9] at h
   unfold sumQ at h
   split at h
   ·rename_i q0
    obtain ⟨⟨y,k⟩,hy⟩:∃ q,sumOf a d=q:=⟨_,rfl⟩
    have SN:=sum_nat a d q0
    rw [hy] at q0 h SN
    obtain rfl:k=0:=q0
    have e1:=sum_shape (by omega) hy b.h b.v b.c
    simp only at h SN
    unfold putQ at h
    split at h
    ·obtain ⟨e,-⟩:=Prod.mk.inj h
     subst e
     refine ⟨e1,ok_of ?_ ?_,hk⟩
     ·rw [show (allQ y.data d.qm d.qs d.qz d.lo d.hi).length=y.data.length by simp [allQ]];exact SN.1
     ·show 0 < (allQ y.data d.qm d.qs d.qz d.lo d.hi).length
      rw [show (allQ y.data d.qm d.qs d.qz d.lo d.hi).length=y.data.length by simp [allQ]];exact SN.2.1
    ·cases (Prod.mk.inj h).2
   ·rename_i q0
    exact absurd (Prod.mk.inj h).2 q0
  ·rw [if_pos (by simpa using q2)] at h
   cases (Prod.mk.inj h).2
 ·rw [if_pos q1] at h
  exact absurd (Prod.mk.inj h).2 q1
end Go.Proofs.YtjkmjpjknmghlaaGreat
namespace Go.Proofs.YtjkmjpjknmghlaaGreat
open Go.RowKit Go.ChangeShapes Go.WideShapes
set_option maxRecDepth 100000
theorem gvBaseI_used:True:=by
 have h1:=@runNode_any
 have h3:=@node_shape
 have h4:=@shapes_any
 have h6:=@few27_any
 have h7:=@known27_any
 have h8:=@same05_eq
 have h9:=@of_any
 have h11:=@there_bd
 have h12:=@tensorRight_any
 have h13:=@clone8_any
 have h14:=@GoodS.of
 have h15:=@runS_next
 have h16:=@ei_node
 have h17:=@flatN_rep
 have h18:=@opens_nodes
 have h19:=@opens_tensor
 have h20:=@law_lift
 have h21:=@arg_slice
 have h22:=@arg_struct
 trivial
end Go.Proofs.YtjkmjpjknmghlaaGreat
