/-
  A step on the way of an input through a bundle that may be (layer 36), as plain lists: all that Net.Step asks; where the way ends; what the table's numbers make in all.
  What the laws WalkEnds, PathAnswers, RoundsEnd stand on: the contracts of the base.
  Conditions: none.
-/
import Derived.Test.YtbecbfpoahhpnaaGreatJ44
import Derived.Test.YtbecbfpoahhpnaaGreatJ47
import Derived.Test.YtbecbfpoahhpnaaGreatJ48
set_option linter.unusedVariables false
set_option linter.unusedSimpArgs false
set_option maxRecDepth 100000
set_option maxHeartbeats 16000000
namespace Go.Proofs.YtbecbfpoahhpnaaGreat
open Go.RowKit Tryz
theorem yQ {t:ae} {d:Hd} {cl:Int} (e:t.ok=true) (a:aU (ag t.h t.v t.c) d.w.length d.bias.length d.need cl=0):(fM t d cl).2=0:=by
 unfold fM;rw [if_neg (by rw [e];decide),if_neg (by rw [a];decide)]
theorem Db {t:ae} (h:t.ok=true):t.data.length≤1024:=by
 simp only [ae.ok,decide_eq_true_eq] at h;have:=(jS t.h t.v t.c).2;omega
structure DF (u:Bun) (x:ae) (i k j:Nat) (m:List aN) (b:aN) (out:ae):Prop where
 hm:u.models[k]?=some m
 hb:m[j]?=some b
 h8:m.length≤8
 k8:k < 8
 right:rightW u k j (cI u i) x (ef u x i)=true
 cost:mD u k j (cI u i) x (ef u x i)=gG u k j
 sum:1≤gG u k j∧gG u k j≤300000000∧0≤cI u i∧cI u i≤6000000000∧cI u (i+1)=cI u i+gG u k j
 val:eL b.nodes (ef u x i)=(out,(b.nodes.length:Int),0)
 few:pW b.nodes
 len:(ef u x i).data.length≤1024
 tin:aw (ef u x i)
 oin:aw out
 look:b.exit=true → (fM out b.head u.cl).2=0
 next:jW k j m.length x out=(((ap u (i+1)).1:Int),((ap u (i+1)).2:Int),ef u x (i+1))
 notEnd:iQ u k j (cI u i) x (ef u x i)=false
theorem Dp {u:Bun} (h:dn u) (E:iw u) {x:ae} (H:x.ok=true) (G:hvc x=(u.h,u.v,u.c)) {i:Nat} (hi:i < bZ u):∃ k j m b out,ap u i=(k,j)∧DF u x i k j m b out:=by
 obtain ⟨a,c⟩:=lY h hi;obtain ⟨z,n,U⟩:=uG h H G i hi;obtain ⟨K,L⟩:=ug h H G hi;have T:=jM h i oM;have V:=mK h;have cb:=yp h a c;obtain ⟨⟨k,j⟩,F⟩:∃ p,ap u i=p:=⟨_,rfl⟩;have D:cI u (i+1)=cI u i+gG u (ap u i).1 (ap u i).2:=rfl;have C:ap u (i+1)=if (ap u i).2+1=dH u (ap u i).1 then ((ap u i).1+1,0) else ((ap u i).1,(ap u i).2+1):=rfl
 have d:ef u x (i+1)=if (ap u i).2+1=dH u (ap u i).1 then x else (eL (nM u (ap u i).1 (ap u i).2).nodes (ef u x i)).1:=rfl
 simp only [F] at a c n U K L cb D C d;obtain ⟨m,o⟩:∃ m,u.models[k]?=some m:=⟨_,List.getElem?_eq_getElem a⟩;have s:=c;rw [jo o] at s;obtain ⟨b,l⟩:∃ b,m[j]?=some b:=⟨_,List.getElem?_eq_getElem s⟩;have R:=h.model o;have B:u.models.getD k []=m:=aX o;have r:m.getD j eA=b:=aX l;have A:=R.blocks j s;rw [B] at n;have M:=A.shapes;rw [r,← n] at M;obtain ⟨out,I,J,S⟩:=kS z M;have O:nM u k j=b:=by unfold nM;rw [B,r]
 rw [O,I] at d;have e:m ∈ u.models:=mG o;have f:b ∈ m:=mG l;have P:=(E.2 m e).1;have Q:=(E.2 m e).2 b f;refine ⟨k,j,m,b,out,F,o,l,P,by have:=h.three;omega,K,L,⟨cb.1,cb.2,T.1,by omega,D⟩,I,Q.1,Db z,pf z,pf J,?_,?_,?_⟩
 ·intro g;refine yQ J ?_;have t:=A.exit;unfold eY at t;rw [r,if_neg (by rw [g];decide)] at t;have y:cQ b (inV m (u.h,u.v,u.c) j)=hvc out:=by rw [← S,← n];rfl
  rw [y] at t;have N:ag (hvc out).1 (hvc out).2.1 (hvc out).2.2=ag out.h out.v out.c:=rfl;rw [N] at t;by_cases q:aU (ag out.h out.v out.c) b.head.w.length b.head.bias.length b.head.need u.cl=0
  ·exact q
  ·rw [if_pos q] at t;exact t
 ·unfold jW;rw [C,d,jo o];by_cases q:j+1=m.length
  ·rw [if_pos q,if_pos q,if_pos q];rfl
  ·rw [if_neg q,if_neg q,if_neg q]
 ·unfold iQ;rw [dF (by rintro ⟨q,-⟩;have:=Int.ofNat.inj q;omega)];rfl
theorem DJ {u:Bun} (h:dn u) {x:ae} (n:x.ok=true) (o:hvc x=(u.h,u.v,u.c)):ap u (bZ u)=(u.models.length,0)∧ef u x (bZ u)=x∧iQ u (u.models.length:Nat) (0:Nat) (cI u (bZ u)) x x=true∧rightW u (u.models.length:Nat) (0:Nat) (cI u (bZ u)) x x=false:=by
 have r:=mK h;have d:=jM h _ (lR (bZ u));have s:ft u (cI u (bZ u)) x=true:=by
  unfold ft;rw [p8 n o,qT oM];rfl
 refine ⟨mO h,?_,?_,?_⟩
 ·obtain ⟨i,hi⟩:∃ i,bZ u=i+1:=⟨bZ u - 1,by omega⟩;have e:=mO h;rw [hi] at e ⊢;have t:ap u (i+1)=if (ap u i).2+1=dH u (ap u i).1 then ((ap u i).1+1,0) else ((ap u i).1,(ap u i).2+1):=rfl
  have a:ef u x (i+1)=if (ap u i).2+1=dH u (ap u i).1 then x else (eL (nM u (ap u i).1 (ap u i).2).nodes (ef u x i)).1:=rfl
  rw [a];by_cases q:(ap u i).2+1=dH u (ap u i).1
  ·rw [if_pos q]
  ·rw [t,if_neg q] at e;have:=congrArg Prod.snd e;simp only at this;omega
 ·unfold iQ;rw [s,qU];simp
 ·unfold rightW gA;rw [dF (by rintro ⟨-,q,-⟩;omega)];rfl
theorem mq {u:Bun} (h:dn u):∀ i,i≤bZ u → cI u i=(((aO u).take (ap u i).1).map List.sum).sum+((((aO u).getD (ap u i).1 []).take (ap u i).2)).sum
 | 0,_=>by show (0:Int)=(((aO u).take 0).map List.sum).sum+((((aO u).getD 0 []).take 0)).sum;simp
 | i+1,hi=>by
  obtain ⟨a,c⟩:=lY h (i:=i) oM;have o:=mq h i oM;have n:cI u (i+1)=cI u i+gG u (ap u i).1 (ap u i).2:=rfl;have e:ap u (i+1)=if (ap u i).2+1=dH u (ap u i).1 then ((ap u i).1+1,0) else ((ap u i).1,(ap u i).2+1):=rfl
  obtain ⟨⟨k,j⟩,y⟩:∃ p,ap u i=p:=⟨_,rfl⟩;simp only [y] at a c o n e;obtain ⟨m,l⟩:∃ m,u.models[k]?=some m:=⟨_,List.getElem?_eq_getElem a⟩;rw [jo l] at c e;have f:=iX l;have t:((aO u).getD k [])=dW m (u.h,u.v,u.c) u.cl:=aX f;have g:(dW m (u.h,u.v,u.c) u.cl).length=m.length:=by unfold dW;simp
  have d:=mQ (s:=(u.h,u.v,u.c)) (cl:=u.cl) c;have cs:gG u k j=(dW m (u.h,u.v,u.c) u.cl).getD j 0:=by unfold gG;rw [t]
  generalize dW m (u.h,u.v,u.c) u.cl=r at *;rw [t] at o;have w:r.take (j+1)=r.take j ++ [r.getD j 0]:=by
   rw [List.take_add_one,d,aX d];rfl
  rw [n,o,e,cs];by_cases q:j+1=m.length
  ·rw [if_pos q];simp only [List.take_zero,List.sum_nil];rw [List.take_add_one,f];have:r=r.take j ++ [r.getD j 0]:=by rw [← w,List.take_of_length_le oM]
   simp only [Option.toList_some,List.map_append,List.map_cons,List.map_nil,List.sum_append,List.sum_cons,List.sum_nil];have b:r.sum=(r.take j).sum+r.getD j 0:=by
    conv=>lhs;rw [this]
    simp
   omega
  ·rw [if_neg q];simp only;rw [t,w];simp only [List.sum_append,List.sum_cons,List.sum_nil];omega
theorem zZ {u:Bun} (h:dn u):cI u (bZ u)=((aO u).map List.sum).sum:=by
 rw [mq h _ (lR _),mO h];simp only [List.take_zero,List.sum_nil,Int.add_zero];rw [List.take_of_length_le (by rw [mS];exact lR _)]
theorem yR (u:Bun):bZ u=eZ u.models:=by
 have e:∀ k,k≤u.models.length → sumW u k=eZ (u.models.take k):=by
  intro k
  induction k with
  | zero=>intro _;rfl
  | succ k ih =>
   intro a;obtain ⟨m,t⟩:∃ m,u.models[k]?=some m:=⟨_,List.getElem?_eq_getElem oM⟩;rw [jT t,← ih oM];show sumW u k+dH u k=_;rw [jo t]
 unfold bZ;rw [e _ (lR _),List.take_length]
theorem Ef {u:Bun} (h:dn u):∀ r ∈ aO u,∀ c ∈ r,0≤c∧c≤300000000:=fun r t c e=>by
 unfold aO at t;obtain ⟨m,o,rfl⟩:=List.mem_map.1 t;obtain ⟨k,a⟩:=List.getElem?_of_mem o;have ok:=h.model a;unfold dW at e;obtain ⟨i,hi,rfl⟩:=List.mem_map.1 e;have:=lL (cl:=u.cl) (ok.blocks i (List.mem_range.1 hi)).shapes;omega
theorem qG {l:List Int} {c:Int} {n:Nat} (o:0≤c) (h:∀ x ∈ l,0≤x∧x≤c) (t:l.length≤n):0≤l.sum∧l.sum≤c*n:=by
 induction l generalizing n with
 | nil=>exact ⟨Int.le_refl _,Int.mul_nonneg o (Int.natCast_nonneg _)⟩
 | cons a l ih =>
  obtain ⟨k,rfl⟩:∃ k,n=k+1:=⟨n - 1,by simp at t;omega⟩;have s:=ih (fun x i=>h x (List.mem_cons_of_mem _ i)) (n:=k) (by simp at t;omega);have r:=h a (List.mem_cons_self ..);rw [List.sum_cons];have e:c*((k+1:Nat):Int)=c*k+c:=by rw [Int.natCast_add,Int.mul_add];simp
  omega
theorem Dc {u:Bun} (h:dn u) (s:iw u) (k:Nat) (r:List Int) (e:r ∈ aO u) (j:Nat):(0≤(((aO u).take k).map List.sum).sum∧(((aO u).take k).map List.sum).sum≤120000000000)∧0≤(r.take j).sum∧(r.take j).sum≤30000000000:=by
 have o:∀ r ∈ aO u,r.length≤100:=uC s;have i:=Ef h;have d:(aO u).length≤4:=by rw [mS];exact s.1
 have a:=qG (l:=((aO u).take k).map List.sum) (c:=30000000000) (n:=4) dM (fun x t=>by
  obtain ⟨r,e,rfl⟩:=List.mem_map.1 t;have e:=List.mem_of_mem_take e;have:=qG (c:=300000000) (n:=100) dM (i r e) (o r e)
  omega) (by rw [List.length_map,List.length_take];omega)
 have b:=qG (l:=r.take j) (c:=300000000) (n:=100) dM (fun x t=>i r e x (List.mem_of_mem_take t)) (by rw [List.length_take];have:=o r e;omega);omega
end Go.Proofs.YtbecbfpoahhpnaaGreat
namespace Go.Proofs.YtbecbfpoahhpnaaGreat
open Tryz
theorem Er:True:=by
 have z:=@Ad;have A:=@lV;have B:=@tQ;have C:=@m7;have D:=@ug;have E:=@mO;have F:=@mK;have G:=@jM;have H:=@kS;have e:=@uj;have t:=@yz;have a:=@vg;have o:=@yW;have i:=@Ab;have n:=@lW;have s:=@yZ;have h:=@tU;have r:=@Bi;have d:=@wj;have l:=@CG;have c:=@ut;have m:=@qk;have f:=@Dp;have w:=@DJ;have y:=@zZ;have p:=@mq;have v:=@yR;have b:=@Dc;have g:=@grT;have k:=@grO;have j:=@grS;have q:=@vK;have x:=@Ay;trivial
end Go.Proofs.YtbecbfpoahhpnaaGreat
