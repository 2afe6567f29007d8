/- The shape that a node makes (layers 18, 25): the document's Shape. -/
import Derived.Deep.DeepCutAuto
import Derived.Deep.CutBlock
import Derived.Test.YtbecbfpoahhpnaaGreatJ02
import Derived.Test.YtbecbfpoahhpnaaGreatJ03
import Derived.Test.YtbecbfpoahhpnaaGreatJ05
set_option linter.unusedVariables false
set_option linter.unusedSimpArgs false
set_option maxRecDepth 100000
set_option maxHeartbeats 16000000
namespace Go.Proofs.YtbecbfpoahhpnaaGreat
open Go.RowKit Go.ChangeShapes Go.WideShapes Tryz
theorem sj (h v c K L J:Int) (d:af) (W:QA) (nw cw:Nat) (B:QA) (nb cb:Nat) (w:World) (i0:InK .i64 h) (i1:InK .i64 v) (i2:InK .i64 c) (V:InK .i64 d.out) (hp:InK .i64 d.p) (ah:nw=d.w.length) (an:nb=d.bias.length) (mw:nw≤1048576) (mb:nb≤1048576) (e:d.kind=8) :
  Calls prog 75 #[.agg (nD d W nw cw B nb cb),.agg (sN h v c),.agg (sN K L J)] w fun e w'=>e=aY (aE h v c K L J d)∧Below w w w':=by
 obtain ⟨r,hr⟩:∃ r,aE h v c K L J d=r:=⟨_,rfl⟩;rw [hr];unfold aE at hr;have VV:=zH hr.symm;clear hr;have n:=zW w;obtain ⟨w1,w2,w3,w4,A,C,D,E,l1,l2,l3,l4,s,a,g,i,Y⟩:=bk4 w (nD d W nw cw B nb cb) 84 (sN h v c) 23 (sN K L J) 23 (sN 0 0 0) 23;replace n:=zF Y n;clear Y;have k:=s.o.cell 0
 ·skip
  have k1:(d.kind == 1)=false:=by simp [e]
  have k2:(d.kind == 2)=false:=by simp [e]
  have k3:(d.kind == 3)=false:=by simp [e]
  have k4:(d.kind == 4)=false:=by simp [e]
  have k5:(d.kind == 5)=false:=by simp [e]
  have k6:(d.kind == 6)=false:=by simp [e]
  have k8:(d.kind == 8)=true:=by simp [e]
  have k9:(d.kind == 9)=false:=by simp [e]
  have kl:decide (d.kind < 1)=false:=by simp [e]
  have kg:decide (9 < d.kind)=false:=by simp [e]
  obtain ⟨N,Z⟩:=zh2 (fun w=>bX h c v w i0 i1 i2) (eX (h:=h) (v:=v) (c:=c));have m0:=(aF h v c).1;have O:=zH (show r=cG d.kind h v c K L J d.p by rw [VV.o];simp [e]);have G:=O.o;unfold cG at G;obtain ⟨m,hm⟩:∃ m,ag h v c=m:=⟨_,rfl⟩;obtain ⟨eq,he⟩:∃ x,([h,v,c] == [K,L,J])=x:=⟨_,rfl⟩;have QE:=zH (fun w=>ip w h v c K L J);rw [hm,he] at G;rw [hm] at N Z m0;rw [he] at QE;replace O:=zH G;clear G hm he VV i0 i1 i2 V hp ah an mw mb;by_cases I:m=0
  ·have t1:(m == 0)=true:=by simp [I]
   have R:=zH (show r=noS 5 by rw [O.o,if_pos I]);clear I O m0 Z e;go_in
   go_wp2_with (first
    | (refine lG a.o ?_))
   clear A C D E k;refine qM (N.o _) fun F t=>?_;obtain ⟨n,s,a,g,i⟩:=uz5 t n s a g i;clear t;have k:=s.o.cell 0
   go_upto_region 12 with (fail)
   go_wp2_with (first
    | (refine sG (sN 0 0 0) i.o ?_;intro w7 l H))
   refine rG l ?_;exact ⟨by rw [R.o];rfl,(n.o.away H oM).out⟩
  have t1:(m == 0)=false:=by simpa using I
  have V2:=zH (show r=(if d.kind=6∧eq=false then noS 5 else if d.kind=8 then dt h v c d.p else if d.kind=9 then ((1,1,m),0) else ((h,v,c),0)) by rw [O.o,if_neg I]);have eb:=Z.o I;clear O I m0 Z;have P:=zH (show r=(if d.p < 0 ∨ 4 < d.p then noS 2 else if ag (h+2*d.p) (v+2*d.p) c=0 then noS 5 else ((h+2*d.p,v+2*d.p,c),0)) by rw [V2.o];simp [e,dt]);clear V2 e QE;by_cases q:d.p < 0
  ·have p1:decide (d.p < 0)=true:=qT q;have R:=zH (show r=noS 2 by rw [P.o,if_pos (.inl q)]);clear q P eb;go_in
   go_wp2_with (first
    | (refine lG a.o ?_))
   clear A C D E k;refine qM (N.o _) fun F t=>?_;obtain ⟨n,s,a,g,i⟩:=uz5 t n s a g i;clear t;obtain ⟨k,X⟩:=uc2 s 0 5
   go_upto_region 17 with (fail)
   go_wp2_with (first
    | (refine sG (sN 0 0 0) i.o ?_;intro w7 l H))
   refine rG l ?_;exact ⟨by rw [R.o];rfl,(n.o.away H oM).out⟩
  have p1:decide (d.p < 0)=false:=dF q;have ad:0≤d.p:=oM;clear q;by_cases q:4 < d.p
  ·have p2:decide (4 < d.p)=true:=qT q;have R:=zH (show r=noS 2 by rw [P.o,if_pos (.inr q)]);clear q P eb;go_in
   go_wp2_with (first
    | (refine lG a.o ?_))
   clear A C D E k;refine qM (N.o _) fun F t=>?_;obtain ⟨n,s,a,g,i⟩:=uz5 t n s a g i;clear t;obtain ⟨k,X⟩:=uc2 s 0 5
   go_upto_region 17 with (fail)
   go_wp2_with (first
    | (refine sG (sN 0 0 0) i.o ?_;intro w7 l H))
   refine rG l ?_;exact ⟨by rw [R.o];rfl,(n.o.away H oM).out⟩
  have p2:decide (4 < d.p)=false:=dF q;have al:d.p≤4:=oM;clear q;have R1:=zH (fun w=>bX (h+2*d.p) c (v+2*d.p) w (by rw [ai];omega) (by rw [ai];omega) (by rw [ai];omega));have e1:IntKind.i64.wrap (2*d.p)=2*d.p:=wJ;have e2:IntKind.i64.wrap (h+2*d.p)=h+2*d.p:=wJ;have e3:IntKind.i64.wrap (v+2*d.p)=v+2*d.p:=wJ;have T:=zH (show r=(if ag (h+2*d.p) (v+2*d.p) c=0 then noS 5 else ((h+2*d.p,v+2*d.p,c),0)) by rw [P.o,if_neg oM]);obtain ⟨y,hy⟩:∃ y,ag (h+2*d.p) (v+2*d.p) c=y:=⟨_,rfl⟩;rw [hy] at T R1;clear P hy eb ad al;by_cases Q:y=0
  ·have t3:(y == 0)=true:=by simpa using Q
   have R:=zH (show r=noS 5 by rw [T.o,if_pos Q]);clear T Q;go_in
   go_wp2_with (first
    | (refine lG a.o ?_))
   clear A C D E k;refine qM (N.o _) fun F t=>?_;obtain ⟨n,s,a,g,i⟩:=uz5 t n s a g i;clear t;obtain ⟨k,X⟩:=uc2 s 0 5;obtain ⟨a0,a1,a2⟩:=uc3 a 0 1 2;have l5:w3.heap.size < F.heap.size:=i.o.lt;obtain ⟨w6,M,BT,z⟩:=nB F (sN 0 0 0) 23;obtain ⟨n,s,a,g,i⟩:=uz5 z n s a g i;clear z
   go_upto_region 18 with (fail)
   go_wp2_with (first
    | (refine wpList_store_all rfl 23 (.tmp 8) (.tmp 108) rfl F.heap.size (sN (h+2*d.p) (v+2*d.p) c) rfl rfl _ _ BT.o rfl kM (by simp [Value.oneCell']) ?_;intro w8 j U;have f:=zA U i;have b:=zA U n)
    | (refine lG j ?_))
   clear M a0 a1 a2 k X;refine qM (R1.o _) fun w9 t=>?_;have S:=zH (j.fut t);obtain ⟨f,b⟩:=uz2 t f b;clear t
   go_wp2_with (first
    | (refine sG (sN 0 0 0) f.o ?_;intro w7 l H))
   refine rG l ?_;exact ⟨by rw [R.o];rfl,(b.o.away H oM).out⟩
  have t3:(y == 0)=false:=by simpa using Q
  have R:=zH (show r=((h+2*d.p,v+2*d.p,c),0) by rw [T.o,if_neg Q]);clear T Q;go_in
  go_wp2_with (first
   | (refine lG a.o ?_))
  clear A C D E k;refine qM (N.o _) fun F t=>?_;obtain ⟨n,s,a,g,i⟩:=uz5 t n s a g i;clear t;obtain ⟨k,X⟩:=uc2 s 0 5;obtain ⟨a0,a1,a2⟩:=uc3 a 0 1 2;have l5:w3.heap.size < F.heap.size:=i.o.lt;obtain ⟨w6,M,BT,z⟩:=nB F (sN 0 0 0) 23;obtain ⟨n,s,a,g,i⟩:=uz5 z n s a g i;clear z
  go_upto_region 18 with (fail)
  go_wp2_with (first
   | (refine wpList_store_all rfl 23 (.tmp 8) (.tmp 108) rfl F.heap.size (sN (h+2*d.p) (v+2*d.p) c) rfl rfl _ _ BT.o rfl kM (by simp [Value.oneCell']) ?_;intro w8 j U;have f:=zA U i;have b:=zA U n)
   | (refine lG j ?_))
  clear M a0 a1 a2 k X;refine qM (R1.o _) fun w9 t=>?_;have S:=zH (j.fut t);obtain ⟨f,b⟩:=uz2 t f b;clear t
  go_wp2_with (first
   | (refine lG S.o ?_)
   | (refine wpList_store_all rfl 23 (.tmp 6) (.tmp 113) rfl w3.heap.size (sN (h+2*d.p) (v+2*d.p) c) rfl rfl _ _ f.o rfl kM (by simp [Value.oneCell']) ?_;intro w7 l H))
  refine rG l ?_;exact ⟨by rw [R.o];rfl,(b.o.away H oM).out⟩
end Go.Proofs.YtbecbfpoahhpnaaGreat
