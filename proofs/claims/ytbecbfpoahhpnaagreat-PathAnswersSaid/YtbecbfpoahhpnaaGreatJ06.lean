/- The shape that a node makes (layers 18, 25): the document's Shape. -/
import Derived.Deep.DeepCutAuto
import Derived.Deep.CutBlock
import Derived.Test.YtbecbfpoahhpnaaGreatJ02
import Derived.Test.YtbecbfpoahhpnaaGreatJ03
import Derived.Test.YtbecbfpoahhpnaaGreatJ05
set_option linter.unusedVariables false
set_option linter.unusedSimpArgs false
set_option maxRecDepth 100000
set_option maxHeartbeats 16000000
namespace Go.Proofs.YtbecbfpoahhpnaaGreat
open Go.RowKit Go.ChangeShapes Go.WideShapes Tryz
theorem sd (h v c j q k:Int) (d:af) (W:QA) (nw cw:Nat) (B:QA) (nb cb:Nat) (w:World) (i0:InK .i64 h) (i1:InK .i64 v) (i2:InK .i64 c) (G:InK .i64 d.out) (hp:InK .i64 d.p) (Y:nw=d.w.length) (X:nb=d.bias.length) (mw:nw≤1048576) (mb:nb≤1048576) (e:d.kind=6) :
  Calls prog 75 #[.agg (nD d W nw cw B nb cb),.agg (sN h v c),.agg (sN j q k)] w fun e w'=>e=aY (aE h v c j q k d)∧Below w w w':=by
 obtain ⟨r,L⟩:∃ r,aE h v c j q k d=r:=⟨_,rfl⟩;rw [L];unfold aE at L;have VV:=zH L.symm;clear L;have n:=zW w;obtain ⟨w1,w2,w3,w4,z,A,C,D,l1,l2,l3,l4,s,t,a,l,H⟩:=bk4 w (nD d W nw cw B nb cb) 84 (sN h v c) 23 (sN j q k) 23 (sN 0 0 0) 23;replace n:=zF H n;clear H;have b:=s.o.cell 0
 ·skip
  have k1:(d.kind == 1)=false:=by simp [e]
  have k2:(d.kind == 2)=false:=by simp [e]
  have k3:(d.kind == 3)=false:=by simp [e]
  have k4:(d.kind == 4)=false:=by simp [e]
  have k5:(d.kind == 5)=false:=by simp [e]
  have k6:(d.kind == 6)=true:=by simp [e]
  have k8:(d.kind == 8)=false:=by simp [e]
  have k9:(d.kind == 9)=false:=by simp [e]
  have kl:decide (d.kind < 1)=false:=by simp [e]
  have kg:decide (9 < d.kind)=false:=by simp [e]
  obtain ⟨J,I⟩:=zh2 (fun w=>bX h c v w i0 i1 i2) (eX (h:=h) (v:=v) (c:=c));have Z:=(aF h v c).1;have E:=zH (show r=cG d.kind h v c j q k d.p by rw [VV.o];simp [e]);have f:=E.o;unfold cG at f;obtain ⟨m,V⟩:∃ m,ag h v c=m:=⟨_,rfl⟩;obtain ⟨eq,U⟩:∃ x,([h,v,c] == [j,q,k])=x:=⟨_,rfl⟩;have M:=zH (fun w=>ip w h v c j q k);rw [V,U] at f;rw [V] at J I Z;rw [U] at M;replace E:=zH f;clear f V U VV i0 i1 i2 G hp Y X mw mb;by_cases g:m=0
  ·have t1:(m == 0)=true:=by simp [g]
   have R:=zH (show r=noS 5 by rw [E.o,if_pos g]);clear g E Z I e;go_in
   go_wp2_with (first
    | (refine lG t.o ?_))
   clear z A C D b;refine qM (J.o _) fun w5 y=>?_;obtain ⟨n,s,t,a,l⟩:=uz5 y n s t a l;clear y;have b:=s.o.cell 0
   go_upto_region 12 with (fail)
   go_wp2_with (first
    | (refine sG (sN 0 0 0) l.o ?_;intro w7 i F))
   refine rG i ?_;exact ⟨by rw [R.o];rfl,(n.o.away F oM).out⟩
  have t1:(m == 0)=false:=by simpa using g
  have K:=zH (show r=(if d.kind=6∧eq=false then noS 5 else if d.kind=8 then dt h v c d.p else if d.kind=9 then ((1,1,m),0) else ((h,v,c),0)) by rw [E.o,if_neg g]);have eb:=I.o g;clear E g Z I;cases eq
  case false =>
   have R:=zH (show r=noS 5 by rw [K.o];simp [e]);clear K e eb;go_in
   go_wp2_with (first
    | (refine lG t.o ?_))
   clear z A C D b;refine qM (J.o _) fun w5 y=>?_;obtain ⟨n,s,t,a,l⟩:=uz5 y n s t a l;clear y;have b:=s.o.cell 0;have N:=t.o.cell 0;have Q:=a.o.cell 0;have O:=t.o.cell 1;have S:=a.o.cell 1;have P:=t.o.cell 2;have T:=a.o.cell 2
   go_upto_region 12 with (refine dJ 23 _ (.tmp 70) (.tmp 71) rfl _ _ rfl rfl (by rfl) kM _ (M.o _) ?_;try simp only [Bool.not_true,Bool.not_false])
   clear N O P Q S T b
   go_wp2_with (first
    | (refine lG t.o ?_)
    | (refine sG (sN 0 0 0) l.o ?_;intro w7 i F))
   refine rG i ?_;exact ⟨by rw [R.o];rfl,(n.o.away F oM).out⟩
  case true =>
   have R:=zH (show r=((h,v,c),0) by rw [K.o];simp [e]);clear K e eb;go_in
   go_wp2_with (first
    | (refine lG t.o ?_))
   clear z A C D b;refine qM (J.o _) fun w5 y=>?_;obtain ⟨n,s,t,a,l⟩:=uz5 y n s t a l;clear y;have b:=s.o.cell 0;have N:=t.o.cell 0;have Q:=a.o.cell 0;have O:=t.o.cell 1;have S:=a.o.cell 1;have P:=t.o.cell 2;have T:=a.o.cell 2
   go_upto_region 22 with (refine dJ 23 _ (.tmp 70) (.tmp 71) rfl _ _ rfl rfl (by rfl) kM _ (M.o _) ?_;try simp only [Bool.not_true,Bool.not_false])
   clear N O P Q S T b
   go_wp2_with (first
    | (refine lG t.o ?_)
    | (refine sG (sN h v c) l.o ?_;intro w7 i F))
   refine rG i ?_;exact ⟨by rw [R.o];rfl,(n.o.away F oM).out⟩
theorem sf (h v c y b f:Int) (d:af) (W:QA) (nw U:Nat) (B:QA) (nb cb:Nat) (w:World) (V:InK .i64 h) (X:InK .i64 v) (Y:InK .i64 c) (q:InK .i64 d.out) (hp:InK .i64 d.p) (O:nw=d.w.length) (N:nb=d.bias.length) (mw:nw≤1048576) (mb:nb≤1048576) (e:d.kind=7) :
  Calls prog 75 #[.agg (nD d W nw U B nb cb),.agg (sN h v c),.agg (sN y b f)] w fun e w'=>e=aY (aE h v c y b f d)∧Below w w w':=by
 obtain ⟨r,H⟩:∃ r,aE h v c y b f d=r:=⟨_,rfl⟩;rw [H];unfold aE at H;have T:=zH H.symm;clear H;have a:=zW w;obtain ⟨w1,w2,w3,w4,A,C,D,E,l1,l2,l3,l4,n,i,F,g,z⟩:=bk4 w (nD d W nw U B nb cb) 84 (sN h v c) 23 (sN y b f) 23 (sN 0 0 0) 23;replace a:=zF z a;clear z;have I:=n.o.cell 0
 ·skip
  have k1:(d.kind == 1)=false:=by simp [e]
  have k2:(d.kind == 2)=false:=by simp [e]
  have k3:(d.kind == 3)=false:=by simp [e]
  have k4:(d.kind == 4)=false:=by simp [e]
  have k5:(d.kind == 5)=false:=by simp [e]
  have k6:(d.kind == 6)=false:=by simp [e]
  have k8:(d.kind == 8)=false:=by simp [e]
  have k9:(d.kind == 9)=false:=by simp [e]
  have kl:decide (d.kind < 1)=false:=by simp [e]
  have kg:decide (9 < d.kind)=false:=by simp [e]
  obtain ⟨J,G⟩:=zh2 (fun w=>bX h c v w V X Y) (eX (h:=h) (v:=v) (c:=c));have P:=(aF h v c).1;have k:=zH (show r=cG d.kind h v c y b f d.p by rw [T.o];simp [e]);have t:=k.o;unfold cG at t;obtain ⟨m,M⟩:∃ m,ag h v c=m:=⟨_,rfl⟩;obtain ⟨eq,L⟩:∃ x,([h,v,c] == [y,b,f])=x:=⟨_,rfl⟩;have Q:=zH (fun w=>ip w h v c y b f);rw [M,L] at t;rw [M] at J G P;rw [L] at Q;replace k:=zH t;clear t M L T V X Y q hp O N mw mb;by_cases l:m=0
  ·have t1:(m == 0)=true:=by simp [l]
   have R:=zH (show r=noS 5 by rw [k.o,if_pos l]);clear l k P G e;go_in
   go_wp2_with (first
    | (refine lG i.o ?_))
   clear A C D E I;refine qM (J.o _) fun w5 j=>?_;obtain ⟨a,n,i,F,g⟩:=uz5 j a n i F g;clear j;have I:=n.o.cell 0
   go_upto_region 12 with (fail)
   go_wp2_with (first
    | (refine sG (sN 0 0 0) g.o ?_;intro w7 s K))
   refine rG s ?_;exact ⟨by rw [R.o];rfl,(a.o.away K oM).out⟩
  have t1:(m == 0)=false:=by simpa using l
  have S:=zH (show r=(if d.kind=6∧eq=false then noS 5 else if d.kind=8 then dt h v c d.p else if d.kind=9 then ((1,1,m),0) else ((h,v,c),0)) by rw [k.o,if_neg l]);have Z:=G.o l;clear k l P G;have R:=zH (show r=((h,v,c),0) by rw [S.o];simp [e]);clear S e Q Z;go_in
  go_wp2_with (first
   | (refine lG i.o ?_))
  clear A C D E I;refine qM (J.o _) fun w5 j=>?_;obtain ⟨a,n,i,F,g⟩:=uz5 j a n i F g;clear j;have I:=n.o.cell 0
  go_upto_region 22 with (fail)
  go_wp2_with (first
   | (refine lG i.o ?_)
   | (refine sG (sN h v c) g.o ?_;intro w7 s K))
  refine rG s ?_;exact ⟨by rw [R.o];rfl,(a.o.away K oM).out⟩
end Go.Proofs.YtbecbfpoahhpnaaGreat
