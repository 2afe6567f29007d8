/-
  tensor (layer 5): what a right tensor is.
  The shape that a node makes (layers 10, 17): conv.Shape, depth.Shape, the document's.
  The shape that a node makes (layers 18, 25): what they are, in numbers.
  A window's sum (layers 10, 13, 16): the plain form, flat over rows, columns, channels; by three channels' rows (lane).
  The sums of convolutions (layers 10, 14, 16, 17): what the shapes say, in whole numbers; the values.
  Sums by rows that are slid over (layer 16): the walks of lane.Fits, lane.tap.
  A scope in which the run may jump ahead to one label, once.
  Sums by rows that are slid over (layer 16): the walk of lane.row.
  'T{x}' of one struct: a block of its cells (a law for the operation, so that the walk need not run it).
  Where a number lies (layer 4: shape.Index; layer 5: the document's Get); held between two limits (layer 1).
-/
import Derived.Test.YtjkmjpjknmghlaaGreatJ07
import Derived.Test.YtjkmjpjknmghlaaGreatJ06
import Derived.Test.YtjkmjpjknmghlaaGreatJ08
import Derived.StillTailTactics
set_option linter.unusedVariables false
set_option linter.unusedSimpArgs false
namespace Go.Proofs.YtjkmjpjknmghlaaGreat
open Go.RowKit Go.ChangeShapes Go.WideShapes
set_option maxRecDepth 100000
def Tensor.ok (t:Tensor):Bool:=decide (0 < elems t.h t.v t.c∧elems t.h t.v t.c=t.data.length)
theorem Sl.far {α:Type} {t:Ty α} {w:World} {S:Nat → Prop} {A:Option Addr} {n cap:Nat} {l:List α} (h:Sl t w S A n cap l) (p:Addr) (u:Value) (hp:∀ b,S b → b ≠ p.block):Sl t (w.setCell p u) S A n cap l :=
 h.keep fun b hb=>Below.heap_setCell w p u b (hp b hb)
theorem slideV_ok {h v c k s p o:Int} (e:(slideV h v c k s p o).2=0):1≤k∧k≤5∧1≤o∧o≤1024∧1≤c∧c≤1024:=by
 unfold slideV at e
 by_cases c1:elems h v c=0
 ·rw [if_pos c1] at e;cases e
 rw [if_neg c1] at e
 by_cases c2:(stepsV h k s p).2 ≠ 0
 ·rw [if_pos c2] at e;exact absurd e c2
 rw [if_neg c2] at e
 by_cases c3:(stepsV v k s p).2 ≠ 0
 ·rw [if_pos c3] at e;exact absurd e c3
 rw [if_neg c3] at e
 by_cases c4:elems (stepsV h k s p).1 (stepsV v k s p).1 o=0
 ·rw [if_pos c4] at e;cases e
 rw [elems_iff] at c1 c4
 have g1:1≤c∧c≤1024:=by
  split at c1
  ·omega
  ·exact absurd rfl c1
 have g2:1≤o∧o≤1024:=by
  split at c4
  ·omega
  ·exact absurd rfl c4
 have g3:1≤k∧k≤5:=by
  unfold stepsV at c2
  split at c2
  ·rename_i q;unfold stepOk at q;omega
  ·exact absurd (by decide) c2
 omega
def fitV (x:ShE) (want out:Int) (d:Node):ShE:=if x.2 ≠ 0 then noS x.2 else if ¬ (d.w.length:Int)=want ∨ 16384 < d.w.length ∨ ¬ (d.bias.length:Int)=out then noS 9 else x
def convV (h v c:Int) (d:Node):ShE:=fitV (slideV h v c d.k d.s d.p d.out) (d.out*d.k*d.k*c) d.out d
def depthV (h v c:Int) (d:Node):ShE:=fitV (slideV h v c d.k d.s d.p c) (c*d.k*d.k) c d
theorem prod_bd {a b:Int} {m n:Int} (h1:0≤a) (h2:a≤m) (h3:0≤b) (h4:b≤n) (hm:0≤m):0≤a*b∧a*b≤m*n :=
 ⟨Int.mul_nonneg h1 h3,Int.mul_le_mul h2 h4 h3 hm⟩
def denseV (h v c:Int) (d:Node):ShE:=if elems h v c=0 ∨ elems 1 1 d.out=0 then noS 5
 else if ¬ (d.w.length:Int)=d.out*elems h v c ∨ 16384 < d.w.length ∨ ¬ (d.bias.length:Int)=d.out then noS 9 else ((1,1,d.out),0)
def aroundV (h v c p:Int):ShE:=if p < 0 ∨ 4 < p then noS 2 else if elems (h+2*p) (v+2*p) c=0 then noS 5 else ((h+2*p,v+2*p,c),0)
def plainV (k h v c h2 v2 c2 p:Int):ShE:=if elems h v c=0 then noS 5 else if k=6∧([h,v,c] == [h2,v2,c2])=false then noS 5
 else if k=8 then aroundV h v c p else if k=9 then ((1,1,elems h v c),0) else ((h,v,c),0)
def shapeV (h v c h2 v2 c2:Int) (d:Node):ShE:=if d.kind=1 then convV h v c d else if d.kind=2 then depthV h v c d else if d.kind=3 then denseV h v c d
 else if d.kind=4 ∨ d.kind=5 then slideV h v c d.k d.s d.p c else plainV d.kind h v c h2 v2 c2 d.p
theorem elems_bd {h v c:Int} (e:¬ elems h v c=0):1≤h∧h≤16∧1≤v∧v≤16∧1≤c∧c≤1024:=by
 rw [elems_iff] at e
 split at e
 ·omega
 ·exact absurd rfl e
theorem wpList_neq_agg {P:Program} {ops:Array Oper} {rest:List Oper} {o:Oper} {a:Act} {w:World} {Q:Exit → Act → World → Prop} (t u:TypeId) (x y:Operand) (ho:o.op=.binOp .neq t x y u) (xs ys:Array Value) (hx:a.eval x=.agg xs) (hy:a.eval y=.agg ys)
  (hw:Region.wanted o (yielded ops a.tmps)=true) (hm:P.eqGuardType P.depth t=false) (b:Bool) (hrun:(Op.equalIn 10000 t (.agg xs) (.agg ys)).run P w=.ok b w) (h:wpList P ops Q rest (a.put o.dst (.bool (!b))) w):wpList P ops Q (o :: rest) a w:=by
 refine BigFrame.wpList_want hw fun K hK=>?_
 unfold Oper.wp execOp
 simp only [ho,hx,hy,Sem.run_bind,fun w=>run_eqGuard_agg (P:=P) w .neq t x y xs ys hm,run_neq_struct,hrun,Result.andThen_ok,Sem.run_pure]
 exact hK _ _ (by simpa using h)
theorem eq_shape (w:World) (h v c h2 v2 c2:Int):(Op.equalIn 10000 24 (.agg (sN h v c)) (.agg (sN h2 v2 c2))).run Tryz.prog w=.ok ([h,v,c] == [h2,v2,c2]) w :=
 run_eql_st3 (P:=Tryz.prog) (t:=24) (k0:=.i64) (k1:=.i64) (k2:=.i64) w Tryz.underlying24 (by kernel_rfl) (by decide) ⟨rfl,rfl,rfl⟩ Tryz.underlying3 Tryz.underlying3 Tryz.underlying3 (by kernel_rfl) (by kernel_rfl) (by kernel_rfl) h v c h2 v2 c2
end Go.Proofs.YtjkmjpjknmghlaaGreat
namespace Go.Proofs.YtjkmjpjknmghlaaGreat
def px (H V C:Nat) (l:List Int) (za:Int) (y x:Int) (c:Nat):Int:=if 0≤y∧y < H∧0≤x∧x < V then l.getD ((y.toNat*V+x.toNat)*C+c) 0 - za else 0
def convN (H V C:Nat) (l:List Int) (za:Int) (w:List Int) (K S P:Nat) (o y x:Nat):Int :=
 sumN (K*K*C) fun q=>w.getD (o*(K*K*C)+q) 0*px H V C l za ((y*S+q / C / K:Nat) - P) ((x*S+q / C % K:Nat) - P) (q % C)
theorem nest_div (i j K C c:Nat) (hj:j < K) (hc:c < C):((i*K+j)*C+c) / C / K=i∧((i*K+j)*C+c) / C % K=j∧((i*K+j)*C+c) % C=c:=by
 have h1:((i*K+j)*C+c) / C=i*K+j:=by
  rw [Nat.mul_comm,Nat.mul_add_div (by omega),Nat.div_eq_of_lt hc,Nat.add_zero]
 have h2:((i*K+j)*C+c) % C=c:=by
  rw [Nat.mul_comm,Nat.mul_add_mod,Nat.mod_eq_of_lt hc]
 rw [h1,h2]
 refine ⟨?_,?_,rfl⟩
 ·rw [Nat.mul_comm,Nat.mul_add_div (by omega),Nat.div_eq_of_lt hj,Nat.add_zero]
 ·rw [Nat.mul_comm,Nat.mul_add_mod,Nat.mod_eq_of_lt hj]
theorem convN_nest (H V C:Nat) (l:List Int) (za:Int) (w:List Int) (K S P:Nat) (o y x:Nat) :
  convN H V C l za w K S P o y x=sumN K fun i=>sumN K fun j=>sumN C fun c=>w.getD (((o*K+i)*K+j)*C+c) 0*px H V C l za ((y*S+i:Nat) - P) ((x*S+j:Nat) - P) c:=by
 unfold convN
 rw [sumN_mul,sumN_mul]
 refine sumN_congr fun i hi=>sumN_congr fun j hj=>sumN_congr fun c hc=>?_
 obtain ⟨h1,h2,h3⟩:=nest_div i j K C c hj hc
 rw [h1,h2,h3]
 congr 2
 rw [show o*(K*K*C)+((i*K+j)*C+c)=((o*K+i)*K+j)*C+c from ?_]
 simp only [Nat.add_mul,Nat.mul_assoc,Nat.mul_add]
 ac_rfl
theorem winV_sum (xs:List (List Int)) (ws:List W3) (p:Nat):∀ k,winV xs ws p k=sumN k fun r=>(xs.getD r []).getD p 0*(ws.getD r (0,0,0)).1+(xs.getD r []).getD (p+1) 0*(ws.getD r (0,0,0)).2.1+(xs.getD r []).getD (p+2) 0*(ws.getD r (0,0,0)).2.2
 | 0=>rfl
 | k+1=>by rw [winV,sumN,winV_sum xs ws p k]
def rowV (H V C:Nat) (l:List Int) (za:Int) (P:Nat) (y:Int) (c:Nat):List Int:=(List.range (V+2*P)).map fun j:Nat=>px H V C l za y ((j:Int) - (P:Int)) c
def tapV (w:List Int) (C:Nat) (o i c:Nat):W3:=(w.getD (((o*3+i)*3+0)*C+c) 0,w.getD (((o*3+i)*3+1)*C+c) 0,w.getD (((o*3+i)*3+2)*C+c) 0)
def rowsV (H V C:Nat) (l:List Int) (za:Int) (P y:Nat):List (List Int):=(List.range (3*C)).map fun r:Nat=>rowV H V C l za P ((y+r / C:Nat) - P) (r % C)
def tapsV (w:List Int) (C o:Nat):List W3:=(List.range (3*C)).map fun r:Nat=>tapV w C o (r / C) (r % C)
theorem rowV_at (H V C:Nat) (l:List Int) (za:Int) (P:Nat) (y:Int) (c j:Nat) (hj:j < V+2*P):(rowV H V C l za P y c).getD j 0=px H V C l za y ((j:Int) - P) c:=by
 unfold rowV
 rw [List.getD_eq_getElem?_getD,List.getElem?_map,List.getElem?_range hj];rfl
theorem getD_range {α:Type} (n:Nat) (f:Nat → α) (z:α) (i:Nat) (h:i < n):((List.range n).map f).getD i z=f i:=by
 rw [List.getD_eq_getElem?_getD,List.getElem?_map,List.getElem?_range h];rfl
theorem lane_conv (H V C:Nat) (l:List Int) (za:Int) (w:List Int) (P o y x:Nat) (hx:x+2 < V+2*P) :
  winV (rowsV H V C l za P y) (tapsV w C o) x (3*C)=convN H V C l za w 3 1 P o y x:=by
 rw [winV_sum,convN_nest,sumN_mul]
 refine sumN_congr fun i hi=>?_
 rw [sumN_swap,]
 refine sumN_congr fun c hc=>?_
 have hr:i*C+c < 3*C:=by
  have:i*C≤2*C:=Nat.mul_le_mul_right C (by omega)
  omega
 have h1:(i*C+c) / C=i:=by rw [Nat.mul_comm,Nat.mul_add_div (by omega),Nat.div_eq_of_lt hc,Nat.add_zero]
 have h2:(i*C+c) % C=c:=by rw [Nat.mul_comm,Nat.mul_add_mod,Nat.mod_eq_of_lt hc]
 unfold rowsV tapsV
 rw [getD_range _ _ _ _ hr,getD_range _ _ _ _ hr,h1,h2,rowV_at _ _ _ _ _ _ _ _ _ (by omega),rowV_at _ _ _ _ _ _ _ _ _ (by omega),rowV_at _ _ _ _ _ _ _ _ _ (by omega),sumN_three]
 simp only [tapV,Nat.mul_one,Nat.add_zero]
 rw [Int.mul_comm (px _ _ _ _ _ _ ((x:Nat) - (P:Int)) _),Int.mul_comm (px _ _ _ _ _ _ ((((x+1:Nat)):Int) - (P:Int)) _),Int.mul_comm (px _ _ _ _ _ _ ((((x+2:Nat)):Int) - (P:Int)) _)]
end Go.Proofs.YtjkmjpjknmghlaaGreat
namespace Go.Proofs.YtjkmjpjknmghlaaGreat
open Go.RowKit
structure TOk (t:Tensor) (n H V C:Nat):Prop where
 h:t.h=H
 v:t.v=V
 c:t.c=C
 h1:1≤H∧H≤16
 v1:1≤V∧V≤16
 c1:1≤C∧C≤1024
 n_eq:n=H*V*C
 n_le:n≤1024
theorem elems_nat {h v c:Int} (e:¬ elems h v c=0):∃ H V C:Nat,h=H∧v=V∧c=C∧(1≤H∧H≤16)∧(1≤V∧V≤16)∧(1≤C∧C≤1024)∧elems h v c=(H*V*C:Nat)∧H*V*C≤1024:=by
 rw [elems_iff] at e ⊢
 split at e
 ·rename_i q
  obtain ⟨a1,a2,a3,a4,a5,a6,a7⟩:=q
  have e1:h=(h.toNat:Int):=by omega
  have e2:v=(v.toNat:Int):=by omega
  have e3:c=(c.toNat:Int):=by omega
  have e4:h*v*c=((h.toNat*v.toNat*c.toNat:Nat):Int):=by rw [Int.natCast_mul,Int.natCast_mul,← e1,← e2,← e3]
  refine ⟨h.toNat,v.toNat,c.toNat,e1,e2,e3,by omega,by omega,by omega,?_,?_⟩
  ·rw [if_pos ⟨a1,a2,a3,a4,a5,a6,a7⟩];exact e4
  ·have:=a7;rw [e4] at this;omega
 ·exact absurd rfl e
theorem tok_of {t:Tensor} (h:t.ok=true):∃ H V C,TOk t t.data.length H V C:=by
 simp only [Tensor.ok,decide_eq_true_eq] at h
 obtain ⟨H,V,C,e1,e2,e3,b1,b2,b3,e4,e5⟩:=elems_nat (h:=t.h) (v:=t.v) (c:=t.c) (by omega)
 exact ⟨H,V,C,e1,e2,e3,b1,b2,b3,by omega,by omega⟩
structure WOk (d:Node) (H V C K S P Ho Wo Co:Nat):Prop where
 k:d.k=K
 s:d.s=S
 p:d.p=P
 k1:1≤K∧K≤5
 s1:1≤S∧S≤4
 p1:P≤4∧P < K
 ho:Ho=(H+2*P - K) / S+1
 wo:Wo=(V+2*P - K) / S+1
 hk:K≤H+2*P
 vk:K≤V+2*P
 ho1:1≤Ho∧Ho≤16
 wo1:1≤Wo∧Wo≤16
 co1:1≤Co∧Co≤1024
 no:Ho*Wo*Co≤1024
theorem stepsV_nat {n:Nat} {k s p:Int} {x:Int} (h:stepsV n k s p=(x,0)):∃ K S P:Nat,k=K∧s=S∧p=P∧(1≤K∧K≤5)∧(1≤S∧S≤4)∧(P≤4∧P < K)∧K≤n+2*P∧x=((n+2*P - K) / S+1:Nat):=by
 unfold stepsV at h
 split at h
 ·rename_i q
  unfold stepOk at q
  split at h
  ·cases (Prod.mk.inj h).2
  ·have e:=(Prod.mk.inj h).1
   obtain ⟨q1,q2,q3,q4,q5,q6,q7,q8,q9⟩:=q
   refine ⟨k.toNat,s.toNat,p.toNat,by omega,by omega,by omega,by omega,by omega,by omega,by omega,?_⟩
   rw [← e]
   have a:(n:Int)+2*p - k=((n+2*p.toNat - k.toNat:Nat):Int):=by omega
   have b:s=(s.toNat:Int):=by omega
   rw [a,b,Int.tdiv_eq_ediv_of_nonneg (by omega)]
   simp
 ·cases (Prod.mk.inj h).2
theorem slide_nat {H V C:Nat} {d:Node} {o x1 x2 x3:Int} (h:slideV H V C d.k d.s d.p o=((x1,x2,x3),0)):∃ K S P Ho Wo Co:Nat,WOk d H V C K S P Ho Wo Co∧x1=Ho∧x2=Wo∧x3=Co∧o=Co∧elems x1 x2 x3=(Ho*Wo*Co:Nat):=by
 unfold slideV at h
 by_cases c1:elems H V C=0
 ·rw [if_pos c1] at h;cases (Prod.mk.inj h).2
 rw [if_neg c1] at h
 by_cases c2:(stepsV H d.k d.s d.p).2 ≠ 0
 ·rw [if_pos c2] at h;exact absurd (Prod.mk.inj h).2 c2
 rw [if_neg c2] at h
 by_cases c3:(stepsV V d.k d.s d.p).2 ≠ 0
 ·rw [if_pos c3] at h;exact absurd (Prod.mk.inj h).2 c3
 rw [if_neg c3] at h
 by_cases c4:elems (stepsV H d.k d.s d.p).1 (stepsV V d.k d.s d.p).1 o=0
 ·rw [if_pos c4] at h;cases (Prod.mk.inj h).2
 rw [if_neg c4] at h
 obtain ⟨y1,e1⟩:∃ y,stepsV H d.k d.s d.p=(y,0):=⟨(stepsV H d.k d.s d.p).1,by rw [← Decidable.not_not.1 c2]⟩
 obtain ⟨y2,e2⟩:∃ y,stepsV V d.k d.s d.p=(y,0):=⟨(stepsV V d.k d.s d.p).1,by rw [← Decidable.not_not.1 c3]⟩
 rw [e1,e2] at h c4
 obtain ⟨K,S,P,hk,hs,hp,k1,s1,p1,hk2,f1⟩:=stepsV_nat e1
 obtain ⟨K',S',P',hk',hs',hp',-,-,-,vk2,f2⟩:=stepsV_nat e2
 obtain rfl:K=K':=by omega
 obtain rfl:S=S':=by omega
 obtain rfl:P=P':=by omega
 obtain ⟨Ho,Wo,Co,g1,g2,g3,b1,b2,b3,g4,g5⟩:=elems_nat c4
 simp only at h g1 g2 g3 g4
 obtain ⟨h',-⟩:=Prod.mk.inj h
 obtain ⟨h1,h'⟩:=Prod.mk.inj h'
 obtain ⟨h2,h3⟩:=Prod.mk.inj h'
 subst h1 h2 h3
 exact ⟨K,S,P,Ho,Wo,Co,⟨hk,hs,hp,k1,s1,p1,by omega,by omega,hk2,vk2,b1,b2,b3,g5⟩,g1,g2,g3,g3,g4⟩
theorem fit_nat {x y:ShE} {want out:Int} {d:Node} (h:fitV x want out d=y) (h2:y.2=0):x=y∧(d.w.length:Int)=want∧d.w.length≤16384∧(d.bias.length:Int)=out:=by
 unfold fitV at h
 split at h
 ·rename_i q;subst h;exact absurd h2 q
 ·split at h
  ·subst h;cases h2
  ·rename_i q
   refine ⟨h,?_,?_,?_⟩
   ·exact Decidable.byContradiction fun e=>q (.inl e)
   ·exact Nat.not_lt.1 fun e=>q (.inr (.inl e))
   ·exact Decidable.byContradiction fun e=>q (.inr (.inr e))
def convF (t:Tensor) (d:Node) (Wo Co:Nat) (i:Nat):Int:=wrap32 (d.bias.getD (i % Co) 0+convN t.h.toNat t.v.toNat t.c.toNat t.data d.za d.w d.k.toNat d.s.toNat d.p.toNat (i % Co) (i / Co / Wo) (i / Co % Wo))
def convOf (t:Tensor) (d:Node):Tensor × Int :=
 if t.ok=true then (if (convV t.h t.v t.c d).2=0 then (⟨(convV t.h t.v t.c d).1.1,(convV t.h t.v t.c d).1.2.1,(convV t.h t.v t.c d).1.2.2,
  (List.range (elems (convV t.h t.v t.c d).1.1 (convV t.h t.v t.c d).1.2.1 (convV t.h t.v t.c d).1.2.2).toNat).map (convF t d (convV t.h t.v t.c d).1.2.1.toNat (convV t.h t.v t.c d).1.2.2.toNat)⟩,0) else (noTensor,(convV t.h t.v t.c d).2)) else (noTensor,5)
theorem conv_nat {t:Tensor} {d:Node} (h1:t.ok=true) (h2:(convV t.h t.v t.c d).2=0):∃ H V C K S P Ho Wo Co:Nat,TOk t t.data.length H V C∧WOk d H V C K S P Ho Wo Co∧convV t.h t.v t.c d=(((Ho:Int),(Wo:Int),(Co:Int)),0)∧d.w.length=Co*K*K*C∧d.bias.length=Co∧d.out=Co∧elems Ho Wo Co=(Ho*Wo*Co:Nat) ∧
  convOf t d=(⟨Ho,Wo,Co,(List.range (Ho*Wo*Co)).map (convF t d Wo Co)⟩,0):=by
 obtain ⟨H,V,C,T⟩:=tok_of h1
 obtain ⟨⟨⟨x1,x2,x3⟩,e⟩,hx⟩:∃ x,convV t.h t.v t.c d=x:=⟨_,rfl⟩
 have hx':=hx
 rw [hx] at h2
 obtain rfl:e=0:=h2
 unfold convV at hx'
 obtain ⟨a,b,-,c⟩:=fit_nat hx' rfl
 rw [T.h,T.v,T.c] at a
 obtain ⟨K,S,P,Ho,Wo,Co,hw,e1,e2,e3,e4,e5⟩:=slide_nat a
 subst e1 e2 e3
 refine ⟨H,V,C,K,S,P,Ho,Wo,Co,T,hw,hx,?_,by omega,e4,e5,?_⟩
 ·rw [e4,hw.k,T.c] at b
  exact_mod_cast b
 ·unfold convOf
  rw [if_pos h1,hx,if_pos rfl]
  simp only [e5,Int.toNat_natCast]
def doneL (Wo Co h o w j:Nat):Bool:=decide (j / Co / Wo < h ∨ (j / Co / Wo=h∧(j % Co < o ∨ (j % Co=o∧j / Co % Wo < w))))
theorem place_iff (Wo Co h w o j:Nat) (hw:w < Wo) (ho:o < Co):j=(h*Wo+w)*Co+o ↔ j / Co / Wo=h∧j / Co % Wo=w∧j % Co=o:=by
 constructor
 ·rintro rfl
  obtain ⟨h1,h2,h3⟩:=nest_div h w Wo Co o hw ho
  exact ⟨h1,h2,h3⟩
 ·rintro ⟨e1,e2,e3⟩
  have h1:=Nat.div_add_mod j Co
  have h2:=Nat.div_add_mod (j / Co) Wo
  rw [e1,e2,Nat.mul_comm] at h2
  rw [← h2,e3,Nat.mul_comm] at h1
  omega
theorem doneL_step (Wo Co h o w j:Nat) (hw:w < Wo) (ho:o < Co):(doneL Wo Co h o w j || j == (h*Wo+w)*Co+o)=doneL Wo Co h o (w+1) j:=by
 rw [Bool.eq_iff_iff]
 simp only [doneL,Bool.or_eq_true,decide_eq_true_eq,beq_iff_eq,place_iff Wo Co h w o j hw ho]
 omega
theorem doneL_row (Wo Co h o j:Nat) (hw:0 < Wo):doneL Wo Co h o Wo j=doneL Wo Co h (o+1) 0 j:=by
 have:=Nat.mod_lt (j / Co) hw
 rw [Bool.eq_iff_iff]
 simp only [doneL,decide_eq_true_eq]
 omega
theorem doneL_col (Wo Co h j:Nat) (hc:0 < Co):doneL Wo Co h Co 0 j=doneL Wo Co (h+1) 0 0 j:=by
 have:=Nat.mod_lt j hc
 rw [Bool.eq_iff_iff]
 simp only [doneL,decide_eq_true_eq]
 omega
theorem doneL_none (Wo Co j:Nat):doneL Wo Co 0 0 0 j=false:=by
 simp only [doneL,decide_eq_false_iff_not]
 rintro (h|⟨-,h|⟨-,h⟩⟩) <;> exact Nat.not_lt_zero _ h
theorem doneL_all (Ho Wo Co j:Nat) (hj:j < Ho*Wo*Co):doneL Wo Co Ho 0 0 j=true:=by
 simp only [doneL,decide_eq_true_eq]
 left
 have:j / Co < Ho*Wo:=Nat.div_lt_of_lt_mul (by rw [Nat.mul_comm];exact hj)
 exact Nat.div_lt_of_lt_mul (by rw [Nat.mul_comm];exact this)
end Go.Proofs.YtjkmjpjknmghlaaGreat
namespace Go.Proofs.YtjkmjpjknmghlaaGreat
open Go.RowKit Go.ChangeShapes Go.WideShapes Fx
set_option maxRecDepth 100000
set_option maxHeartbeats 2000000
def i3 (k:IntKind) (l:Nat → Int):Array Value:=#[.int k (l 0),.int k (l 1),.int k (l 2)]
theorem i3_one (k:IntKind) (f:Nat → Int):(i3 k f).all (·.oneCell')=true:=by rw [← Array.all_toList];rfl
theorem up3_set (kd:IntKind) (f g:Nat → Int) (k:Nat) (h:k < 3):(i3 kd (upI f g k)).setIfInBounds k (.int kd (f k))=i3 kd (upI f g (k+1)):=by
 unfold i3 upI
 match k,h with
 | 0,_=>rfl
 | 1,_=>rfl
 | 2,_=>rfl
theorem up3_end (kd:IntKind) (f g:Nat → Int):i3 kd (upI f g 3)=i3 kd f:=by unfold i3 upI;simp
theorem fits_any (d:Node) (W:Option Addr) (nw cw:Nat) (B:Option Addr) (nb cb:Nat) (w:World) :
  Calls Tryz.prog 119 #[.agg (nN d.kind d.a d.b d.k d.s d.p d.out d.za d.zb W nw cw B nb cb d.qm d.qs d.qz d.rm d.rs d.rz d.lo d.hi)] w fun e w'=>e=.returned (.bool (decide (d.k=3∧d.s=1)))∧Below w.heap.size w w':=by
 have FR:=zH (Far.refl w)
 obtain ⟨w1,hw_w1,BA,k_w1⟩:=nB w (nN d.kind d.a d.b d.k d.s d.p d.out d.za d.zb W nw cw B nb cb d.qm d.qs d.qz d.rm d.rs d.rz d.lo d.hi) 44
 replace FR:=zH (FR.out.fut k_w1)
 clear k_w1
 have c3:=BA.out.cell 3
 have c4:=BA.out.cell 4
 by_cases h3:d.k=3
 ·by_cases h4:d.s=1
  ·have t3:(d.k == 3)=true:=by rw [h3];rfl
   have t4:(d.s == 1)=true:=by rw [h4];rfl
   rw [show decide (d.k=3∧d.s=1)=true by simp [h3,h4]]
   clear h3 h4
   go_enter Tryz.func119,Tryz.ntmps119
   go_wp2_with fail
   go_ret
   exact ⟨rfl,FR.out.out⟩
  ·have t3:(d.k == 3)=true:=by rw [h3];rfl
   have t4:(d.s == 1)=false:=by simpa using h4
   rw [show decide (d.k=3∧d.s=1)=false by simp [h4]]
   clear h3 h4
   go_enter Tryz.func119,Tryz.ntmps119
   go_wp2_with fail
   go_ret
   exact ⟨rfl,FR.out.out⟩
 ·have t3:(d.k == 3)=false:=by simpa using h3
  rw [show decide (d.k=3∧d.s=1)=false by simp [h3]]
  clear h3
  go_enter Tryz.func119,Tryz.ntmps119
  go_wp2_with fail
  go_ret
  exact ⟨rfl,FR.out.out⟩
theorem tap_any (H V:Int) (C:Nat) (A:Option Addr) (n cap:Nat) (d:Node) (W:Option Addr) (nw cw:Nat) (B:Option Addr) (nb cb:Nat) (o i c:Nat) (w:World)
  (hw:Sl (tInt .i8) w (blo w.heap.size) W nw cw d.w) (hC:C≤1024) (ho:o≤1024) (hi:i < 3) (hc:c < C) (hn:(o+1)*(9*C)≤nw) :
  Calls Tryz.prog 143 #[.agg #[.int .i64 H,.int .i64 V,.int .i64 C,.slice A n cap,.int .i64 d.kind,.int .i64 d.a,.int .i64 d.b,.int .i64 d.k,.int .i64 d.s,.int .i64 d.p,.int .i64 d.out,.int .i8 d.za,.int .i8 d.zb,.slice W nw cw,.slice B nb cb,.int .i32 d.qm,.int .i64 d.qs,.int .i8 d.qz,.int .i32 d.rm,.int .i64 d.rs,.int .i8 d.rz,.int .i8 d.lo,.int .i8 d.hi],.int .i64 o,.int .i64 i,.int .i64 c] w fun e w'=>e=.returned (.agg (i3 .i8 (fun j=>d.w.getD (((o*3+i)*3+j)*C+c) 0)))∧Below w.heap.size w w':=by
 have hbnd:∀ j,j < 3 → ((o*3+i)*3+j)*C+c < nw:=by
  intro j hj
  have h1:((o*3+i)*3+j)*C+c < ((o*3+i)*3+j+1)*C:=by rw [Nat.succ_mul];omega
  have h2:((o*3+i)*3+j+1)*C≤((o+1)*9)*C:=Nat.mul_le_mul_right C (by omega)
  rw [Nat.mul_assoc] at h2
  omega
 obtain ⟨bw,ow,hWW,-,-,-,-⟩:=hw.int_at _ (hbnd 0 (by omega))
 have m2:nw≤9223372036854775807:=Nat.le_trans hw.cap_le hw.max_le
 have FR:=zH (Far.refl w)
 have OW:=zH (Old.now hw)
 obtain ⟨w1,hw_w1,BA,k_w1⟩:=nB w #[.int .i64 H,.int .i64 V,.int .i64 C,.slice A n cap,.int .i64 d.kind,.int .i64 d.a,.int .i64 d.b,.int .i64 d.k,.int .i64 d.s,.int .i64 d.p,.int .i64 d.out,.int .i8 d.za,.int .i8 d.zb,.slice W nw cw,.slice B nb cb,.int .i32 d.qm,.int .i64 d.qs,.int .i8 d.qz,.int .i32 d.rm,.int .i64 d.rs,.int .i8 d.rz,.int .i8 d.lo,.int .i8 d.hi] 167
 replace FR:=zH (FR.out.fut k_w1)
 replace OW:=zH (OW.out.fut k_w1)
 clear k_w1
 obtain ⟨w2,hw_w2,BO,k_w2⟩:=nB w1 #[.int .i8 0,.int .i8 0,.int .i8 0] 183
 replace FR:=zH (FR.out.fut k_w2)
 replace OW:=zH (OW.out.fut k_w2)
 replace BA:=zH (BA.out.fut k_w2)
 clear k_w2
 obtain ⟨w3,hw_w3,BC,k_w3⟩:=nB w2 #[.int .i8 0,.int .i8 0,.int .i8 0] 183
 replace FR:=zH (FR.out.fut k_w3)
 replace OW:=zH (OW.out.fut k_w3)
 replace BA:=zH (BA.out.fut k_w3)
 replace BO:=zH (BO.out.fut k_w3)
 clear k_w3
 have HB:=zH hbnd
 clear hw hbnd hn
 subst hWW
 obtain ⟨wf,hwf⟩:∃ f:Nat → Int,f=fun j=>d.w.getD (((o*3+i)*3+j)*C+c) 0:=⟨_,rfl⟩
 rw [← hwf]
 have HWF:=zH hwf
 clear hwf
 go_enter Tryz.func143,Tryz.ntmps143
 go_wp2_with fail
 have l1:w.heap.size < w1.heap.size:=by rw [← hw_w1];simp
 have l2:w1.heap.size < w2.heap.size:=by rw [← hw_w2];simp
 clear hw_w1 hw_w2 hw_w3
 replace BC:=zH (show Blk w3 w2.heap.size 183 (i3 .i8 (upI wf (fun _=>0) 0)) by rw [upI_zero];exact BC.out)
 obtain ⟨g0,e0⟩:∃ n,w.heap.size=n:=⟨_,rfl⟩
 obtain ⟨g1,e1⟩:∃ n,w1.heap.size=n:=⟨_,rfl⟩
 obtain ⟨g2,e2⟩:∃ n,w2.heap.size=n:=⟨_,rfl⟩
 rw [e0,e1] at l1
 rw [e1,e2] at l2
 rw [e0] at BA
 rw [e1] at BO
 rw [e2] at BC
 rw [e0,e1,e2]
 go_loopw [11] (fun ii wr=>∃ k:Nat,k≤3∧ii=.int .i64 k∧Far w wr∧Old w (tInt .i8) wr (some ⟨bw,ow,none⟩) nw cw d.w∧Blk wr g0 167 #[.int .i64 H,.int .i64 V,.int .i64 C,.slice A n cap,.int .i64 d.kind,.int .i64 d.a,.int .i64 d.b,.int .i64 d.k,.int .i64 d.s,.int .i64 d.p,.int .i64 d.out,.int .i8 d.za,.int .i8 d.zb,.slice (some ⟨bw,ow,none⟩) nw cw,.slice B nb cb,.int .i32 d.qm,.int .i64 d.qs,.int .i8 d.qz,.int .i32 d.rm,.int .i64 d.rs,.int .i8 d.rz,.int .i8 d.lo,.int .i8 d.hi]∧Blk wr g1 183 #[.int .i8 0,.int .i8 0,.int .i8 0]∧Blk wr g2 183 (i3 .i8 (upI wf (fun _=>0) k))) (fun ii _=>3 - (intOf ii).toNat)
 case atStart=>exact ⟨0,Nat.zero_le _,rfl,FR.out,OW.out,BA.out,BO.out,BC.out⟩
 case round =>
  obtain ⟨k,hk,rfl,hf,how,hba,hbo,hbc⟩:=hrel
  clear FR OW BA BO BC
  have FR:=zH hf
  have OW:=zH how
  have BA:=zH hba
  have BO:=zH hbo
  have BC:=zH hbc
  clear hf how hba hbo hbc
  by_cases hlt:k < 3
  ·have p1:(k:Int) < 3:=by omega
   have hb:=HB.out k hlt
   obtain ⟨b',o',e',-,-,cq,-⟩:=OW.out.out.int_at _ hb
   simp only [Option.some.injEq,Addr.mk.injEq,and_true] at e'
   obtain ⟨rfl,rfl⟩:=e'
   rw [show d.w.getD (((o*3+i)*3+k)*C+c) 0=wf k by rw [HWF.out]] at cq
   obtain ⟨q,hq⟩:∃ q,((o*3+i)*3+k)*C=q:=⟨_,rfl⟩
   have hqi:((((o:Int)*3+(i:Int))*3+(k:Int))*(C:Int))=(q:Int):=by rw [← hq];simp
   rw [hq] at cq hb
   clear hq
   have p2:(q:Int)+(c:Int) < nw:=by omega
   have p3:(o:Int)≤1024:=by omega
   have p4:(i:Int) < 3:=by omega
   have c2:=BA.out.cell 2
   have c13:=BA.out.cell 13
   have SS:=zH (up3_set .i8 wf (fun _=>0) k hlt)
   go_wp2_with (refine wpList_store_one rfl 39 (.tmp 34) (.tmp 33) rfl g2 k (.int .i8 (wf k)) rfl rfl rfl rfl _ (i3 .i8 (upI wf (fun _=>0) k)) (i3 .i8 (upI wf (fun _=>0) (k+1))) BC.out (by simp [i3];omega) (by kernel_rfl) (by rw [← SS.out];exact set_list _ _ _ (by simp [i3];omega)) ?_;intro w5 B5 g5)
   exact ⟨⟨k+1,by omega,by go_num,FR.out.away g5 (by omega),OW.out.away g5 (by omega),BA.out.away g5 (.inl (by omega)),BO.out.away g5 (.inl (by omega)),B5⟩,by simp [intOf];omega⟩
  ·obtain rfl:k=3:=by omega
   have BC:=zH (show Blk wr g2 183 (i3 .i8 wf) by rw [← up3_end .i8 wf (fun _=>0)];exact BC.out)
   go_wp2_with (first|(refine wpList_load_blk rfl 183 (.tmp 9) rfl g2 0 rfl _ (i3 .i8 wf) (i3 .i8 wf) _ BC.out Tryz.underlying183 rfl (by show _=some 3;kernel_rfl) rfl ?_)|(refine wpList_store_all rfl 183 (.tmp 8) (.tmp 36) rfl g1 (i3 .i8 wf) rfl rfl _ _ BO.out rfl (by show _=some 3;kernel_rfl) (i3_one _ _) ?_;intro w5 B5 g5))
   refine ret_array rfl B5 rfl Tryz.underlying183 (by show _=some 3;kernel_rfl) rfl ?_
   exact ⟨rfl,by have:=FR.out.away g5 (by omega);exact this.out⟩
end Go.Proofs.YtjkmjpjknmghlaaGreat
namespace Go.Proofs.YtjkmjpjknmghlaaGreat
open Go
theorem wp_scope_fore {P:Program} {a:Act} {w:World} {Q:Exit → Act → World → Prop} {c rest:Code} (l:Nat) (hf:findLabel c l=some rest)
  (first:c.wp P (Exit.jump l (fun a' w'=>rest.wp P (Exit.noGoto Q) a' w') Q) a w):(Code.scope c).wp P Q a w:=by
 refine wp_scope_jumps l _ (fun _ _=>0) hf first fun a' w' h=>?_
 intro b k cs
 obtain ⟨e,a₁,w₁,hq,harr⟩:=h b k cs
 refine ⟨e,a₁,w₁,?_,harr⟩
 cases e with
 | goto l'=>exact hq.elim
 | normal=>exact hq
 | exit id=>exact hq
 | ret=>exact hq
 | panic ch=>exact hq
 | outgrown=>exact hq
end Go.Proofs.YtjkmjpjknmghlaaGreat
namespace Go.Proofs.YtjkmjpjknmghlaaGreat
open Go.RowKit Go.ChangeShapes Go.WideShapes Fx
set_option maxRecDepth 100000
set_option maxHeartbeats 2000000
theorem ei_i16:EI Tryz.prog 170 192 (.int .i16 0) 1 2:=⟨Tryz.underlying170,by kernel_rfl,rfl,by decide⟩
def rowSt (H V C:Nat) (l:List Int) (za:Int) (P:Nat) (y:Int) (c k:Nat):List Int:=(List.range (V+2*P)).map fun j:Nat=>if P≤j∧j < P+k then px H V C l za y ((j:Int) - (P:Int)) c else 0
theorem rowSt_zero (H V C:Nat) (l:List Int) (za:Int) (P:Nat) (y:Int) (c:Nat):rowSt H V C l za P y c 0=List.replicate (V+2*P) 0:=by
 unfold rowSt
 apply List.ext_getElem (by simp)
 intro i h1 h2
 simp only [List.getElem_map,List.getElem_range,List.getElem_replicate]
 rw [if_neg (by omega)]
theorem rowSt_out (H V C:Nat) (l:List Int) (za:Int) (P:Nat) (y:Int) (c:Nat) (h:y < 0 ∨ (H:Int)≤y):rowV H V C l za P y c=List.replicate (V+2*P) 0:=by
 unfold rowV
 apply List.ext_getElem (by simp)
 intro i h1 h2
 simp only [List.getElem_map,List.getElem_range,List.getElem_replicate]
 unfold px
 rw [if_neg (by omega)]
theorem rowSt_end (H V C:Nat) (l:List Int) (za:Int) (P:Nat) (y:Int) (c:Nat):rowSt H V C l za P y c V=rowV H V C l za P y c:=by
 unfold rowSt rowV
 apply List.ext_getElem (by simp)
 intro i h1 h2
 simp only [List.getElem_map,List.getElem_range]
 by_cases h:P≤i∧i < P+V
 ·rw [if_pos h]
 ·rw [if_neg h];unfold px;rw [if_neg (by omega)]
theorem rowSt_set (H V C:Nat) (l:List Int) (za:Int) (P:Nat) (y c k:Nat) (hk:k < V) (hy:y < H) :
  (rowSt H V C l za P y c k).set (k+P) (l.getD ((y*V+k)*C+c) 0 - za)=rowSt H V C l za P y c (k+1):=by
 unfold rowSt
 apply List.ext_getElem (by simp)
 intro i h1 h2
 rw [List.getElem_set]
 simp only [List.getElem_map,List.getElem_range]
 by_cases e:k+P=i
 ·subst e
  rw [if_pos rfl,if_pos (by omega)]
  unfold px
  rw [if_pos (by omega)]
  have:(((k+P:Nat):Int) - (P:Int)).toNat=k:=by omega
  rw [this,Int.toNat_natCast]
 ·rw [if_neg e]
  by_cases h:P≤i∧i < P+k
  ·rw [if_pos h,if_pos (by omega)]
  ·rw [if_neg h,if_neg (by omega)]
theorem wrap_i16 (n:Int):IntKind.i16.wrap n=(n+32768) % 65536 - 32768:=by
 unfold IntKind.wrap
 simp [IntKind.bits,IntKind.signed]
 split <;> omega
theorem idx_lt (y k c H V C:Nat) (hy:y < H) (hk:k < V) (hc:c < C):(y*V+k)*C+c < H*V*C:=by
 have h1:y*V+k < H*V:=by
  have:(y+1)*V≤H*V:=Nat.mul_le_mul_right V hy
  rw [Nat.succ_mul] at this
  omega
 have h2:(y*V+k+1)*C≤(H*V)*C:=Nat.mul_le_mul_right C h1
 rw [Nat.succ_mul] at h2
 omega
theorem row_any (H V C P:Nat) (A:Option Addr) (n cap:Nat) (l:List Int) (d:Node) (W:Option Addr) (nw cw:Nat) (B:Option Addr) (nb cb:Nat) (h:Int) (c:Nat) (w:World)
  (hl:Sl (tInt .i8) w (blo w.heap.size) A n cap l) (hn:n=H*V*C) (hn2:n≤1048576) (hV:V≤1048576) (hC:C≤1048576) (hp:d.p=P) (hP:P≤4) (hz:InK .i8 d.za) (hc:c < C) (hh:-100≤h) (hh2:h≤2000000) (hH:H≤1048576) :
  Calls Tryz.prog 142 #[.agg #[.int .i64 H,.int .i64 V,.int .i64 C,.slice A n cap,.int .i64 d.kind,.int .i64 d.a,.int .i64 d.b,.int .i64 d.k,.int .i64 d.s,.int .i64 d.p,.int .i64 d.out,.int .i8 d.za,.int .i8 d.zb,.slice W nw cw,.slice B nb cb,.int .i32 d.qm,.int .i64 d.qs,.int .i8 d.qz,.int .i32 d.rm,.int .i64 d.rs,.int .i8 d.rz,.int .i8 d.lo,.int .i8 d.hi],.int .i64 h,.int .i64 c] w (RetSl (tInt .i16) w (rowV H V C l d.za P h c)):=by
 have FR:=zH (Far.refl w)
 have OL:=zH (Old.now hl)
 obtain ⟨w1,hw_w1,BA,k_w1⟩:=nB w #[.int .i64 H,.int .i64 V,.int .i64 C,.slice A n cap,.int .i64 d.kind,.int .i64 d.a,.int .i64 d.b,.int .i64 d.k,.int .i64 d.s,.int .i64 d.p,.int .i64 d.out,.int .i8 d.za,.int .i8 d.zb,.slice W nw cw,.slice B nb cb,.int .i32 d.qm,.int .i64 d.qs,.int .i8 d.qz,.int .i32 d.rm,.int .i64 d.rs,.int .i8 d.rz,.int .i8 d.lo,.int .i8 d.hi] 167
 replace FR:=zH (FR.out.fut k_w1)
 replace OL:=zH (OL.out.fut k_w1)
 clear k_w1
 obtain ⟨w2,hw_w2,BS,k_w2⟩:=nB w1 (sN H V C) 24
 replace FR:=zH (FR.out.fut k_w2)
 replace OL:=zH (OL.out.fut k_w2)
 replace BA:=zH (BA.out.fut k_w2)
 clear k_w2
 have c0:w1.cell? ⟨w.heap.size,0,none⟩=some (.int .i64 H):=by rw [← hw_w1];exact (Blk.now _ _ _ _ rfl).cell 0
 have c1:w1.cell? ⟨w.heap.size,1,none⟩=some (.int .i64 V):=by rw [← hw_w1];exact (Blk.now _ _ _ _ rfl).cell 1
 have c2:w1.cell? ⟨w.heap.size,2,none⟩=some (.int .i64 C):=by rw [← hw_w1];exact (Blk.now _ _ _ _ rfl).cell 2
 have c9:=BA.out.cell 9
 have d1:=BS.out.cell 1
 have LL:=zH (show w.heap.size < w2.heap.size∧w1.heap.size < w2.heap.size by rw [← hw_w2,← hw_w1];simp;omega)
 have HN:=zH hn
 have HL:=zH hl
 have HP:=zH hp
 rw [hp] at c9
 clear hn hh hp hl
 have p1:(V:Int)≤1048576:=by omega
 have p2:(P:Int)≤4:=by omega
 by_cases hin:0≤h∧h < (H:Int)
 ·obtain ⟨y,rfl⟩:∃ y:Nat,h=(y:Int):=⟨h.toNat,by omega⟩
  have p3:(y:Int) < (H:Int):=hin.2
  have hyH:y < H:=by omega
  rw [← rowSt_end]
  have t1:decide ((y:Int) < 0)=false:=by simp
  have t2:decide ((H:Int)≤(y:Int))=false:=by simp;omega
  have t3:decide (H≤y)=false:=by simp;omega
  clear hin
  go_enter Tryz.func142,Tryz.ntmps142
  go_wp2_with fail
  go_step3
  go_wp2_with (at_make;go_loud (refine wpList_make (t:=tInt .i16) (S:=fun _=>False) (base:=w.heap.size) rfl _ _ rfl ei_i16 .i64 .i64 _ _ (V+2*P) rfl rfl ?_ ?_ ?_ ?_ ?_ 0 ⟨rfl,by decide⟩ (fun _ h=>h.elim) ?_;rotate_right;intro w3 hown hg;(try rw [hw_w1] at hg);(try rw [hw_w2] at hg);have ON:=zH hown;have kb:Below w2.heap.size w2 w3:=(Below.refl _ _).grown hg (Nat.le_refl _) (by simp);replace FR:=zH (FR.out.fut kb);replace BS:=zH (BS.out.fut kb);replace BA:=zH (BA.out.fut kb);replace OL:=zH (OL.out.fut kb);have e0:=BS.out.cell 0;have e1:=BS.out.cell 1;clear hown hg kb hw_w1 hw_w2 c0 c1 c2 c9 d1))
  rotate_left
  ·omega
  ·omega
  ·omega
  ·unfold maxLen;omega
  ·exact FR.out.size
  have hb0:(y*V+0)*C+c < n ∨ V=0:=by
   by_cases h0:V=0
   ·exact .inr h0
   ·left;rw [HN.out];exact idx_lt y 0 c H V C hyH (by omega) hc
  rw [← rowSt_zero H V C l d.za P y c] at ON
  go_loopw [9] (fun ii wr=>∃ k:Nat,k≤V∧ii=.int .i64 k∧Far w wr∧Old w (tInt .i8) wr A n cap l∧Blk wr w.heap.size 167 #[.int .i64 H,.int .i64 V,.int .i64 C,.slice A n cap,.int .i64 d.kind,.int .i64 d.a,.int .i64 d.b,.int .i64 d.k,.int .i64 d.s,.int .i64 d.p,.int .i64 d.out,.int .i8 d.za,.int .i8 d.zb,.slice W nw cw,.slice B nb cb,.int .i32 d.qm,.int .i64 d.qs,.int .i8 d.qz,.int .i32 d.rm,.int .i64 d.rs,.int .i8 d.rz,.int .i8 d.lo,.int .i8 d.hi]∧Blk wr w1.heap.size 24 (sN H V C) ∧
   Own (tInt .i16) wr (fun _=>False) w.heap.size 192 (.slice (some ⟨w2.heap.size,0,none⟩) (V+2*P) (V+2*P)) (V+2*P) (rowSt H V C l d.za P y c k)) (fun ii _=>V - (intOf ii).toNat)
  case atStart=>exact ⟨0,Nat.zero_le _,rfl,FR.out,OL.out,BA.out,BS.out,ON.out⟩
  case round =>
   obtain ⟨k,hk,rfl,hf,how,hba,hbs,hon⟩:=hrel
   clear FR OL BA BS ON e0 e1
   have FR:=zH hf
   have OL:=zH how
   have BA:=zH hba
   have BS:=zH hbs
   have ON:=zH hon
   clear hf how hba hbs hon
   have s1:=BS.out.cell 1
   by_cases hlt:k < V
   ·have hb:(y*V+k)*C+c < n:=by rw [HN.out];exact idx_lt y k c H V C hyH hlt hc
    have RS:=zH (rowSt_set H V C l d.za P y c k hlt hyH)
    obtain ⟨b',o',rfl,-,-,cq,iq⟩:=OL.out.out.int_at _ hb
    obtain ⟨xd,hxd⟩:∃ x,l.getD ((y*V+k)*C+c) 0=x:=⟨_,rfl⟩
    rw [hxd] at cq iq
    rw [hxd] at RS
    clear hxd
    obtain ⟨z,hzz⟩:∃ z,d.za=z:=⟨_,rfl⟩
    rw [hzz] at RS
    have hz':=hz
    rw [hzz,inK_i8] at hz'
    rw [inK_i8] at iq
    have a0:=BA.out.cell 0
    have c3:=BA.out.cell 3
    have c9:=BA.out.cell 9
    have c11:=BA.out.cell 11
    have s2:=BS.out.cell 2
    simp only [gX] at a0 c3 c9 c11 s1 s2
    rw [HP.out] at c9
    rw [hzz] at c11
    have HZ:=zH hzz
    obtain ⟨q1,h1⟩:∃ q,y*V=q:=⟨_,rfl⟩
    have h1j:(y:Int)*(V:Int)=(q1:Int):=by rw [← h1];simp
    rw [h1] at cq hb
    obtain ⟨q2,h2⟩:∃ q,q1+k=q:=⟨_,rfl⟩
    rw [h2] at cq hb
    obtain ⟨q3,h3⟩:∃ q,q2*C=q:=⟨_,rfl⟩
    have h3j:(q2:Int)*(C:Int)=(q3:Int):=by rw [← h3];simp
    have m1:q2≤q3:=by rw [← h3];exact Nat.le_mul_of_pos_right _ (by omega)
    rw [h3] at cq hb
    obtain ⟨q4,h4⟩:∃ q,q3+c=q:=⟨_,rfl⟩
    rw [h4] at cq hb
    have g1:IntKind.i64.wrap ((y:Int)*(V:Int))=(q1:Int):=by rw [h1j];exact IntWalk.i64_in _ (by omega)
    have g2:IntKind.i64.wrap ((q1:Int)+(k:Int))=(q2:Int):=(IntWalk.i64_in _ (by omega)).trans (by omega)
    have g3:IntKind.i64.wrap ((q2:Int)*(C:Int))=(q3:Int):=by rw [h3j];exact IntWalk.i64_in _ (by omega)
    have g4:IntKind.i64.wrap ((q3:Int)+(c:Int))=(q4:Int):=(IntWalk.i64_in _ (by omega)).trans (by omega)
    have g5:IntKind.i64.wrap ((k:Int)+(P:Int))=((k+P:Nat):Int):=(IntWalk.i64_in _ (by omega)).trans (by omega)
    have g6:IntKind.i16.wrap xd=xd:=by rw [wrap_i16];omega
    have g7:IntKind.i16.wrap z=z:=by rw [wrap_i16];omega
    have g8:IntKind.i16.wrap (xd - z)=xd - z:=by rw [wrap_i16];omega
    have kp:k+P < V+2*P:=by omega
    clear hzz hz h1 h3 h1j h2 h3j h4
    go_wp2_with fail
    go_still_tail 28,(by kernel_rfl)
    change wpList _ _ _ _ _ wr.drew
    have kd:Below wr.heap.size wr wr.drew:=(Below.refl _ _).drew
    have ON2:=ON.out.below kd (Nat.le_refl _) (fun _ h=>h.elim)
    replace FR:=zH (FR.out.fut kd)
    replace OL:=zH (OL.out.fut kd)
    replace BA:=zH (BA.out.fut kd)
    replace BS:=zH (BS.out.fut kd)
    replace ON:=zH ON2
    clear ON2 kd s1 s2 a0 c3 c9 c11 cq
    generalize wr.drew=w5 at *
    obtain ⟨x1,u1,-,-,c5,c6,c7,-⟩:=ON.out.cell rfl (k+P) (by omega)
    go_wp2_with fail
    obtain ⟨o3,g3⟩:=ON.out.set1 rfl (k+P) (.int .i16 (xd - z)) (xd - z) ⟨rfl,by simp only [InK,IntKind.min,IntKind.max,IntKind.signed,IntKind.bits];simp;omega⟩ (fun _ h=>h.elim)
    rw [HZ.out,RS.out] at o3
    have ll1:=LL.out.1
    have ll2:=LL.out.2
    have l3:w.heap.size≤w2.heap.size:=o3.lt _ rfl |>.1
    exact ⟨⟨k+1,by omega,by go_num,FR.out.away g3 l3,OL.out.away g3 l3,BA.out.away g3 (.inl ll1),BS.out.away g3 (.inl ll2),by rw [HZ.out];exact o3⟩,by simp [intOf];omega⟩
   ·obtain rfl:k=V:=by omega
    go_wp2_with fail
    go_step3
    go_wp2_with fail
    rw [Exit.noGoto_ret]
    go_ret
    exact ON.out.ret (by decide) FR.out.out (fun _ h=>h.elim)
 ·have hout:h < 0 ∨ (H:Int)≤h:=by omega
  rw [rowSt_out _ _ _ _ _ _ _ _ hout]
  clear hin
  rcases hout with q1|q1
  ·go_enter Tryz.func142,Tryz.ntmps142
   go_wp2_with fail
   refine wp_scope_fore 0 rfl ?_
   go_wp2_with (at_make;go_loud (refine wpList_make (t:=tInt .i16) (S:=fun _=>False) (base:=w.heap.size) rfl _ _ rfl ei_i16 .i64 .i64 _ _ (V+2*P) rfl rfl ?_ ?_ ?_ ?_ ?_ 0 ⟨rfl,by decide⟩ (fun _ h=>h.elim) ?_;rotate_right;intro w3 hown hg;(try rw [hw_w1] at hg);(try rw [hw_w2] at hg);have ON:=zH hown;have kb:Below w2.heap.size w2 w3:=(Below.refl _ _).grown hg (Nat.le_refl _) (by simp);replace FR:=zH (FR.out.fut kb);replace BS:=zH (BS.out.fut kb);replace BA:=zH (BA.out.fut kb);replace OL:=zH (OL.out.fut kb);have e0:=BS.out.cell 0;have e1:=BS.out.cell 1;clear hown hg kb hw_w1 hw_w2 c0 c1 c2 c9 d1))
   rotate_left
   ·omega
   ·omega
   ·omega
   ·unfold maxLen;omega
   ·exact FR.out.size
   go_step3
   refine ⟨rfl,?_⟩
   go_wp2_with fail
   rw [Exit.noGoto_ret]
   go_ret
   exact ON.out.ret (by decide) FR.out.out (fun _ h=>h.elim)
  ·go_enter Tryz.func142,Tryz.ntmps142
   go_wp2_with fail
   refine wp_scope_fore 0 rfl ?_
   go_wp2_with (at_make;go_loud (refine wpList_make (t:=tInt .i16) (S:=fun _=>False) (base:=w.heap.size) rfl _ _ rfl ei_i16 .i64 .i64 _ _ (V+2*P) rfl rfl ?_ ?_ ?_ ?_ ?_ 0 ⟨rfl,by decide⟩ (fun _ h=>h.elim) ?_;rotate_right;intro w3 hown hg;(try rw [hw_w1] at hg);(try rw [hw_w2] at hg);have ON:=zH hown;have kb:Below w2.heap.size w2 w3:=(Below.refl _ _).grown hg (Nat.le_refl _) (by simp);replace FR:=zH (FR.out.fut kb);replace BS:=zH (BS.out.fut kb);replace BA:=zH (BA.out.fut kb);replace OL:=zH (OL.out.fut kb);have e0:=BS.out.cell 0;have e1:=BS.out.cell 1;clear hown hg kb hw_w1 hw_w2 c0 c1 c2 c9 d1))
   rotate_left
   ·omega
   ·omega
   ·omega
   ·unfold maxLen;omega
   ·exact FR.out.size
   go_step3
   refine ⟨rfl,?_⟩
   go_wp2_with fail
   rw [Exit.noGoto_ret]
   go_ret
   exact ON.out.ret (by decide) FR.out.out (fun _ h=>h.elim)
end Go.Proofs.YtjkmjpjknmghlaaGreat
namespace Go.Proofs.YtjkmjpjknmghlaaGreat
open Go Go.RowKit
theorem fold_putAt (off:Nat):∀ (l:List Value) (k:Nat) (cs:Array Value),(l.zipIdx k).foldl (fun cs (x:Value × Nat)=>cs.setIfInBounds (off+x.2) x.1) cs=putAt cs (off+k) l
 | [],_,_=>rfl
 | v :: r,k,cs=>by
  rw [List.zipIdx_cons,List.foldl_cons,fold_putAt off r (k+1)]
  rfl
theorem fill_one (cells vs:Array Value) (size:Nat) (h1:vs.size=size) (h2:cells.size=size):Instr.fill (fun i=>some (i*size,size)) cells [(0,.agg vs)]=some vs:=by
 have hv:(Value.agg vs).cells=vs:=rfl
 unfold Instr.fill
 simp only [hv,Nat.zero_mul,Nat.zero_add]
 rw [if_neg (by simp;omega)]
 unfold Instr.fill
 have:=fold_putAt 0 vs.toList 0 cells
 simp only [Nat.zero_add] at this
 rw [← Array.foldl_toList,Array.toList_zipIdx,this]
 congr 1
 exact putAt_full (by omega)
theorem run_lit1 {P:Program} {T E:TypeId} {z:Value} {size bytes:Nat} (w:World) (ei:EI P T E z size bytes) (vs:Array Value) (hvs:vs.size=size) (hsm:size≤16777216) :
  (Instr.buildSlice T 1 #[(0,.agg vs)]).run P w=.ok (.slice (some ⟨w.heap.size,0,none⟩) 1 1) (w.alloc (.cells vs E)):=by
 obtain ⟨i,hi,hz0,hz1,hz2⟩:=info_parts ei.hi
 have hp:=ei.hp
 have hsz:(sizeOf E).run P w=.ok size w:=by simp [sizeOf,typeInfo,hi,hz1]
 have hzv:(zeroValue E).run P w=.ok z w:=by simp [zeroValue,typeInfo,hi,hz0]
 have hf:=fill_one ((Array.range (1*size)).map (z.cells[· % z.cells.size]!)) vs size hvs (by simp)
 have hnot:¬ (1*size > 2 ^ 24):=by omega
 have hnz:¬ (1*size=0):=by omega
 unfold Instr.buildSlice
 simp only [Sem.run_bind,run_underlying ei.ht w,Result.andThen_ok,hsz,if_neg hnot,if_neg hnz,hzv,Sem.run_pure,hf,newRow,newObj]
 rfl
section
variable {P:Program} {ops:Array Oper} {rest:List Oper} {o:Oper} {a:Act} {w:World} {Q:Exit → Act → World → Prop} {T E:TypeId} {z:Value} {size bytes:Nat}
theorem wpList_lit1 (hgd:o.guard=none) (x:Operand) (ho:o.op=.buildSlice T 1 #[(0,x)]) (ei:EI P T E z size bytes) (vs:Array Value) (hx:a.eval x=.agg vs) (hvs:vs.size=size) (hsm:size≤16777216)
  (h:wpList P ops Q rest (a.put o.dst (.slice (some ⟨w.heap.size,0,none⟩) 1 1)) (w.alloc (.cells vs E))):wpList P ops Q (o :: rest) a w:=by
 refine wpList_plain hgd fun K hK=>?_
 unfold Oper.wp execOp
 simp only [ho,List.map_toArray,List.map_cons,List.map_nil,hx,Sem.run_bind,run_lit1 w ei vs hvs hsm,Sem.run_pure,Result.andThen_ok]
 exact hK _ _ h
end
end Go.Proofs.YtjkmjpjknmghlaaGreat
namespace Go.Proofs.YtjkmjpjknmghlaaGreat
open Go.RowKit Go.ChangeShapes Go.WideShapes
set_option maxRecDepth 100000
set_option maxHeartbeats 2000000
def inside (H V:Nat) (y x:Int):Prop:=0≤y∧y < H∧0≤x∧x < V
instance (H V:Nat) (y x:Int):Decidable (inside H V y x):=by unfold inside;infer_instance
def placeV (V C:Nat) (y x:Int) (c:Nat):Nat:=(y.toNat*V+x.toNat)*C+c
theorem shapeIndex_any (H V C:Nat) (y x:Int) (c:Nat) (w:World) (h1:1≤H∧H≤16) (v1:1≤V∧V≤16) (c1:1≤C∧C≤1024) (he:decide (0 < elems H V C)=true) (hc:c < C) :
  Calls Tryz.prog 129 #[.agg (sN H V C),.int .i64 y,.int .i64 x,.int .i64 c] w fun e w' =>
   e=.returned (.tuple #[.int .i64 (if inside H V y x then (placeV V C y x c:Int) else 0),.bool (decide (inside H V y x))])∧Below w.heap.size w w':=by
 have SR:=zH (fun w=>shapeRight_any (H:Int) (C:Int) (V:Int) w (by rw [inK_i64];omega) (by rw [inK_i64];omega) (by rw [inK_i64];omega))
 rw [he] at SR
 have FR:=zH (Far.refl w)
 obtain ⟨w1,hw_w1,BS,k_w1⟩:=nB w (sN H V C) 24
 replace FR:=zH (FR.out.fut k_w1)
 clear k_w1
 have d0:=BS.out.cell 0
 have d1:=BS.out.cell 1
 have d2:=BS.out.cell 2
 clear he
 by_cases a1:0≤y
 ·by_cases a2:y < (H:Int)
  ·by_cases a3:0≤x
   ·by_cases a4:x < (V:Int)
    ·obtain ⟨yn,rfl⟩:∃ m:Nat,y=m:=⟨y.toNat,by omega⟩
     obtain ⟨xn,rfl⟩:∃ m:Nat,x=m:=⟨x.toNat,by omega⟩
     rw [if_pos ⟨a1,a2,a3,a4⟩,decide_eq_true (show inside H V yn xn from ⟨a1,a2,a3,a4⟩)]
     unfold placeV
     simp only [Int.toNat_natCast]
     obtain ⟨q1,e1⟩:∃ m,yn*V=m:=⟨_,rfl⟩
     have j1:(yn:Int)*(V:Int)=(q1:Int):=by rw [← e1];simp
     have b1:q1≤256:=by rw [← e1];exact Nat.mul_le_mul (show yn≤16 by omega) v1.2
     rw [e1]
     obtain ⟨q2,e2⟩:∃ m,(q1+xn)*C=m:=⟨_,rfl⟩
     have j2:((q1:Int)+(xn:Int))*(C:Int)=(q2:Int):=by rw [← e2];simp
     have b2:q2≤272*1024:=by rw [← e2];exact Nat.mul_le_mul (by omega) c1.2
     rw [e2,Int.natCast_add]
     clear e1 e2
     have p1:¬ (H:Int)≤(yn:Int):=by omega
     have p2:¬ (V:Int)≤(xn:Int):=by omega
     have p3:¬ (C:Int)≤(c:Int):=by omega
     have p5:¬ H≤yn:=by omega
     have p6:¬ V≤xn:=by omega
     have p7:¬ C≤c:=by omega
     go_enter Tryz.func129,Tryz.ntmps129
     go_wp2_with (go_at_call 24;refine (SR.out _).mono ?_;rintro e w2 ⟨rfl,hb⟩;replace BS:=zH (BS.out.fut hb);replace FR:=zH (FR.out.fut hb);clear hb hw_w1 d0 d1 d2;have d0:=BS.out.cell 0;have d1:=BS.out.cell 1;have d2:=BS.out.cell 2)
     go_ret2
     exact ⟨rfl,FR.out.out⟩

    ·have ni:¬ inside H V y x:=fun h=>absurd h.2.2.2 a4
     rw [if_neg ni,decide_eq_false ni]
     clear ni
     have p1:¬ (H:Int)≤y:=by omega
     have p2:(V:Int)≤x:=by omega
     go_enter Tryz.func129,Tryz.ntmps129
     go_wp2_with (go_at_call 24;refine (SR.out _).mono ?_;rintro e w2 ⟨rfl,hb⟩;replace BS:=zH (BS.out.fut hb);replace FR:=zH (FR.out.fut hb);clear hb hw_w1 d0 d1 d2;have d0:=BS.out.cell 0;have d1:=BS.out.cell 1;have d2:=BS.out.cell 2)
     go_ret2
     exact ⟨rfl,FR.out.out⟩
   ·have ni:¬ inside H V y x:=fun h=>absurd h.2.2.1 a3
    rw [if_neg ni,decide_eq_false ni]
    clear ni
    have p1:¬ (H:Int)≤y:=by omega
    have p2:x < 0:=by omega
    go_enter Tryz.func129,Tryz.ntmps129
    go_wp2_with (go_at_call 24;refine (SR.out _).mono ?_;rintro e w2 ⟨rfl,hb⟩;replace BS:=zH (BS.out.fut hb);replace FR:=zH (FR.out.fut hb);clear hb hw_w1 d0 d1 d2;have d0:=BS.out.cell 0;have d1:=BS.out.cell 1;have d2:=BS.out.cell 2)
    go_ret2
    exact ⟨rfl,FR.out.out⟩
  ·have ni:¬ inside H V y x:=fun h=>absurd h.2.1 a2
   rw [if_neg ni,decide_eq_false ni]
   clear ni
   have p1:(H:Int)≤y:=by omega
   go_enter Tryz.func129,Tryz.ntmps129
   go_wp2_with (go_at_call 24;refine (SR.out _).mono ?_;rintro e w2 ⟨rfl,hb⟩;replace BS:=zH (BS.out.fut hb);replace FR:=zH (FR.out.fut hb);clear hb hw_w1 d0 d1 d2;have d0:=BS.out.cell 0;have d1:=BS.out.cell 1;have d2:=BS.out.cell 2)
   go_ret2
   exact ⟨rfl,FR.out.out⟩
 ·have ni:¬ inside H V y x:=fun h=>absurd h.1 a1
  rw [if_neg ni,decide_eq_false ni]
  clear ni
  have p1:y < 0:=by omega
  go_enter Tryz.func129,Tryz.ntmps129
  go_wp2_with (go_at_call 24;refine (SR.out _).mono ?_;rintro e w2 ⟨rfl,hb⟩;replace BS:=zH (BS.out.fut hb);replace FR:=zH (FR.out.fut hb);clear hb hw_w1 d0 d1 d2;have d0:=BS.out.cell 0;have d1:=BS.out.cell 1;have d2:=BS.out.cell 2)
  go_ret2
  exact ⟨rfl,FR.out.out⟩
def heldV (v lo hi:Int):Int:=if v < lo then lo else if v > hi then hi else v
theorem held_any (v lo hi:Int) (w:World):Calls Tryz.prog 130 (sN v lo hi) w fun e w'=>e=.returned (.int .i64 (heldV v lo hi))∧w=w':=by
 unfold heldV
 by_cases a1:v < lo
 ·rw [if_pos a1]
  go_enter Tryz.func130,Tryz.ntmps130
  go_wp2_with fail
  go_ret
  exact ⟨rfl,rfl⟩
 ·rw [if_neg a1]
  by_cases a2:v > hi
  ·rw [if_pos a2]
   go_enter Tryz.func130,Tryz.ntmps130
   go_wp2_with fail
   go_ret
   exact ⟨rfl,rfl⟩
  ·rw [if_neg a2]
   go_enter Tryz.func130,Tryz.ntmps130
   go_wp2_with fail
   go_ret
   exact ⟨rfl,rfl⟩
theorem rheld_any (v lo hi:Int) (w:World):Calls Tryz.prog 95 (sN v lo hi) w fun e w'=>e=.returned (.int .i64 (heldV v lo hi))∧w=w':=by
 unfold heldV
 by_cases a1:v < lo
 ·rw [if_pos a1]
  go_enter Tryz.func95,Tryz.ntmps95
  go_wp2_with fail
  go_ret
  exact ⟨rfl,rfl⟩
 ·rw [if_neg a1]
  by_cases a2:v > hi
  ·rw [if_pos a2]
   go_enter Tryz.func95,Tryz.ntmps95
   go_wp2_with fail
   go_ret
   exact ⟨rfl,rfl⟩
  ·rw [if_neg a2]
   go_enter Tryz.func95,Tryz.ntmps95
   go_wp2_with fail
   go_ret
   exact ⟨rfl,rfl⟩
def w8 (v:Int):Int:=IntKind.i8.wrap v
theorem w8_eq (n:Int):w8 n=(n+128) % 256 - 128:=by
 unfold w8 IntKind.wrap
 simp [IntKind.bits,IntKind.signed]
 split <;> omega
theorem w8_in (n:Int):InK .i8 (w8 n):=by rw [inK_i8,w8_eq];omega
theorem clamp_any (v lo hi:Int) (w:World) (h0:InK .i8 lo) (h1:InK .i8 hi):Calls Tryz.prog 114 #[.int .i64 v,.int .i8 lo,.int .i8 hi] w fun e w'=>e=.returned (.int .i8 (w8 (heldV v lo hi)))∧w=w':=by
 rw [inK_i8] at h0 h1
 obtain ⟨a1,a2⟩:=h0
 obtain ⟨a3,a4⟩:=h1
 go_enter Tryz.func114,Tryz.ntmps114
 go_wp2_with (go_at_call 130;refine (held_any _ _ _ _).mono ?_;rintro e w2 ⟨rfl,rfl⟩)
 go_ret
 exact ⟨rfl,rfl⟩
theorem rget_any (H V C:Nat) (A:Option Addr) (n cap:Nat) (l:List Int) (y x c:Nat) (w:World) (hs:Sl (tInt .i8) w (blo w.heap.size) A n cap l) (hn:n=H*V*C) (hn2:n≤1024) (hC:C≤1024) (hy:y < H) (hx:x < V) (hc:c < C) :
  Calls Tryz.prog 92 #[.agg (tN H V C A n cap),.int .i64 y,.int .i64 x,.int .i64 c] w fun e w'=>e=.returned (.int .i8 (l.getD ((y*V+x)*C+c) 0))∧Below w.heap.size w w':=by
 have hi:(y*V+x)*C+c < n:=by rw [hn];exact idx_lt y x c H V C hy hx hc
 have FR:=zH (Far.refl w)
 obtain ⟨w1,hw_w1,BT,k_w1⟩:=nB w (tN H V C A n cap) 27
 replace FR:=zH (FR.out.fut k_w1)
 clear k_w1
 obtain ⟨b,o,rfl,_,_,ci,_⟩:=(hs.later FR.out.out (Nat.le_refl _)).int_at _ hi
 have t1:=BT.out.cell 1
 have t2:=BT.out.cell 2
 have t3:=BT.out.cell 3
 obtain ⟨v,hv⟩:∃ v,l.getD ((y*V+x)*C+c) 0=v:=⟨_,rfl⟩
 rw [hv] at ci ⊢
 obtain ⟨q1,e1⟩:∃ m,y*V=m:=⟨_,rfl⟩
 have j1:(y:Int)*(V:Int)=(q1:Int):=by rw [← e1];simp
 rw [e1] at ci hi
 obtain ⟨q2,e2⟩:∃ m,(q1+x)*C=m:=⟨_,rfl⟩
 have j2:((q1:Int)+(x:Int))*(C:Int)=(q2:Int):=by rw [← e2];simp
 have b1:q1+x≤q2:=by rw [← e2];exact Nat.le_mul_of_pos_right _ (by omega)
 rw [e2] at ci hi
 have p1:(q2:Int)+(c:Int) < (n:Int):=by omega
 clear hs hv hn e1 e2
 go_enter Tryz.func92,Tryz.ntmps92
 go_wp2_with fail
 go_ret
 exact ⟨rfl,FR.out.out⟩
end Go.Proofs.YtjkmjpjknmghlaaGreat
