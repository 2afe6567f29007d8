/-
  A step on the way of an input through a bundle that may be (layer 36), as plain lists: all that Net.Step asks; where the way ends; what the table's numbers make in all.
  What the laws WalkEnds, PathAnswers, RoundsEnd stand on: the contracts of the base.
  Conditions: none.
-/
import Derived.Test.YtbecbfpoahhpnaaGreatJ44
import Derived.Test.YtbecbfpoahhpnaaGreatJ47
import Derived.Test.YtbecbfpoahhpnaaGreatJ48
set_option linter.unusedVariables false
set_option linter.unusedSimpArgs false
set_option maxRecDepth 100000
set_option maxHeartbeats 16000000
namespace Go.Proofs.YtbecbfpoahhpnaaGreat
open Go.RowKit Tryz
theorem yQ {t:ae} {d:Hd} {cl:Int} (e:t.ok=true) (a:aU (ag t.h t.v t.c) d.w.length d.bias.length d.need cl=0):(fM t d cl).2=0:=by
 unfold fM;rw [if_neg (by rw [e];decide),if_neg (by rw [a];decide)]
theorem Db {t:ae} (h:t.ok=true):t.data.length≤1024:=by
 simp only [ae.ok,decide_eq_true_eq] at h;have:=(jS t.h t.v t.c).2;omega
structure DF (u:Bun) (x:ae) (i k j:Nat) (m:List aN) (b:aN) (out:ae):Prop where
 hm:u.models[k]?=some m
 hb:m[j]?=some b
 h8:m.length≤8
 k8:k < 8
 right:rightW u k j (cI u i) x (ef u x i)=true
 cost:mD u k j (cI u i) x (ef u x i)=gG u k j
 sum:1≤gG u k j∧gG u k j≤300000000∧0≤cI u i∧cI u i≤6000000000∧cI u (i+1)=cI u i+gG u k j
 val:eL b.nodes (ef u x i)=(out,(b.nodes.length:Int),0)
 few:pW b.nodes
 len:(ef u x i).data.length≤1024
 tin:aw (ef u x i)
 oin:aw out
 look:b.exit=true → (fM out b.head u.cl).2=0
 next:jW k j m.length x out=(((ap u (i+1)).1:Int),((ap u (i+1)).2:Int),ef u x (i+1))
 notEnd:iQ u k j (cI u i) x (ef u x i)=false
theorem Dp {u:Bun} (h:dn u) (E:iw u) {x:ae} (H:x.ok=true) (G:hvc x=(u.h,u.v,u.c)) {i:Nat} (hi:i < bZ u):∃ k j m b out,ap u i=(k,j)∧DF u x i k j m b out:=by
 obtain ⟨a,c⟩:=lY h hi;obtain ⟨z,n,U⟩:=uG h H G i hi;obtain ⟨K,L⟩:=ug h H G hi;have T:=jM h i oM;have V:=mK h;have cb:=yp h a c;obtain ⟨⟨k,j⟩,F⟩:∃ p,ap u i=p:=⟨_,rfl⟩;have D:cI u (i+1)=cI u i+gG u (ap u i).1 (ap u i).2:=rfl;have C:ap u (i+1)=if (ap u i).2+1=dH u (ap u i).1 then ((ap u i).1+1,0) else ((ap u i).1,(ap u i).2+1):=rfl
 have d:ef u x (i+1)=if (ap u i).2+1=dH u (ap u i).1 then x else (eL (nM u (ap u i).1 (ap u i).2).nodes (ef u x i)).1:=rfl
 simp only [F] at a c n U K L cb D C d;obtain ⟨m,o⟩:∃ m,u.models[k]?=some m:=⟨_,List.getElem?_eq_getElem a⟩;have s:=c;rw [jo o] at s;obtain ⟨b,l⟩:∃ b,m[j]?=some b:=⟨_,List.getElem?_eq_getElem s⟩;have R:=h.model o;have B:u.models.getD k []=m:=aX o;have r:m.getD j eA=b:=aX l;have A:=R.blocks j s;rw [B] at n;have M:=A.shapes;rw [r,← n] at M;obtain ⟨out,I,J,S⟩:=kS z M;have O:nM u k j=b:=by unfold nM;rw [B,r]
 rw [O,I] at d;have e:m ∈ u.models:=mG o;have f:b ∈ m:=mG l;have P:=(E.2 m e).1;have Q:=(E.2 m e).2 b f;refine ⟨k,j,m,b,out,F,o,l,P,by have:=h.three;omega,K,L,⟨cb.1,cb.2,T.1,by omega,D⟩,I,Q.1,Db z,pf z,pf J,?_,?_,?_⟩
 ·intro g;refine yQ J ?_;have t:=A.exit;unfold eY at t;rw [r,if_neg (by rw [g];decide)] at t;have y:cQ b (inV m (u.h,u.v,u.c) j)=hvc out:=by rw [← S,← n];rfl
  rw [y] at t;have N:ag (hvc out).1 (hvc out).2.1 (hvc out).2.2=ag out.h out.v out.c:=rfl;rw [N] at t;by_cases q:aU (ag out.h out.v out.c) b.head.w.length b.head.bias.length b.head.need u.cl=0
  ·exact q
  ·rw [if_pos q] at t;exact t
 ·unfold jW;rw [C,d,jo o];by_cases q:j+1=m.length
  ·rw [if_pos q,if_pos q,if_pos q];rfl
  ·rw [if_neg q,if_neg q,if_neg q]
 ·unfold iQ;rw [dF (by rintro ⟨q,-⟩;have:=Int.ofNat.inj q;omega)];rfl
theorem yR (u:Bun):bZ u=eZ u.models:=by
 have e:∀ k,k≤u.models.length → sumW u k=eZ (u.models.take k):=by
  intro k
  induction k with
  | zero=>intro _;rfl
  | succ k ih =>
   intro a;obtain ⟨m,t⟩:∃ m,u.models[k]?=some m:=⟨_,List.getElem?_eq_getElem oM⟩;rw [jT t,← ih oM];show sumW u k+dH u k=_;rw [jo t]
 unfold bZ;rw [e _ (lR _),List.take_length]
end Go.Proofs.YtbecbfpoahhpnaaGreat
namespace Go.Proofs.YtbecbfpoahhpnaaGreat
open Tryz
end Go.Proofs.YtbecbfpoahhpnaaGreat
