/- The shape that a node makes (layers 10, 17): conv.Shape, depth.Shape, the document's. -/
import Derived.Test.YtbecbfpoahhpnaaGreatJ01
set_option linter.unusedVariables false
set_option linter.unusedSimpArgs false
set_option maxRecDepth 100000
set_option maxHeartbeats 16000000
namespace Go.Proofs.YtbecbfpoahhpnaaGreat
open Go.RowKit Go.ChangeShapes Go.WideShapes Tryz
theorem pu (h v c:Int) (d:af) (W:QA) (nw cw:Nat) (B:QA) (nb cb:Nat) (w:World) (h0:InK .i64 h) (h1:InK .i64 v) (h2:InK .i64 c) (V:InK .i64 d.out) (U:nw=d.w.length) (T:nb=d.bias.length) (mw:nw≤1048576) (mb:nb≤1048576) :
  Calls prog 100 #[.agg (sN h v c),.agg (nD d W nw cw B nb cb)] w fun e w'=>e=aY (bF h v c d)∧Below w w w':=by
 obtain ⟨r,L⟩:∃ r,bF h v c d=r:=⟨_,rfl⟩;rw [L];unfold bF gI at L;rw [← U,← T] at L;obtain ⟨OK,SL⟩:=zh2 (eD (h:=h) (v:=v) (c:=c) (k:=d.k) (s:=d.s) (p:=d.p) (o:=c)) (fun w=>jk h v c d.k d.s d.p c w h0 h1 h2 h2);obtain ⟨⟨⟨H,I,J⟩,xe⟩,hx⟩:∃ x,aH h v c d.k d.s d.p c=x:=⟨_,rfl⟩;rw [hx] at L OK SL;simp only [aY] at SL;have S:=zH L.symm;clear hx L h0 h1 h2 V U T;have j:=zW w;obtain ⟨w1,w2,w3,an,ah,ad,l1,l2,_,y,q,z,Y⟩:=bk3 w (sN h v c) 23 (nD d W nw cw B nb cb) 84 (sN 0 0 0) 23;replace j:=zF Y j;clear Y;have K:=y.o.cell 2;obtain ⟨M,n4,n5,N⟩:=uc4 q 3 4 5 6;go_in
 go_wp2_with (refine lG y.o ?_)
 clear an ah ad K M n4 n5 N;refine qM (SL.o _) fun w4 hb=>?_;obtain ⟨j,y,q,z⟩:=uz4 hb j y q z;clear hb;have l3:w2.heap.size < w4.heap.size:=z.o.lt;obtain ⟨w5,al,Q,Z⟩:=nB w4 (sN 0 0 0) 23;obtain ⟨j,y,q,z⟩:=uz4 Z j y q z;clear Z;clear SL;by_cases E:xe=0;rotate_left
 ·have tx:(xe != 0)=true:=by simpa using E
  have R:=zH (show r=noS xe by rw [S.o,if_pos E]);clear E S OK
  go_wp2_with (first
   | (refine sG (sN H I J) Q.o ?_;intro w6 g t;have K:=(zA t y).o.cell 2;obtain ⟨M,N,n9,F⟩:=uc4 (zA t q) 3 6 9 10;have i:=zA t z;have f:=zA t j)
   | (refine sG (sN 0 0 0) i.o ?_;intro w7 l A))
  refine rG l ?_;exact ⟨by rw [R.o];rfl,(f.o.away A oM).out⟩
 subst E;have tx:((0:Int) != 0)=false:=rfl;have ok:=OK.o rfl;obtain ⟨m1,C⟩:∃ m,c*d.k=m:=⟨_,rfl⟩;have b1:=et (a:=c) (b:=d.k) (m:=1024) (n:=5) oM oM oM oM oM;rw [C] at b1;obtain ⟨X,D⟩:∃ m,m1*d.k=m:=⟨_,rfl⟩;have b2:=et (a:=m1) (b:=d.k) (m:=1024*5) (n:=5) oM oM oM oM oM;rw [D] at b2;have e1:IntKind.i64.wrap (c*d.k)=m1:=by rw [C];exact wJ
 have e2:IntKind.i64.wrap (m1*d.k)=X:=by rw [D];exact wJ
 rw [C,D] at S;clear C D b1 b2 ok OK;have G:=zH (show r=(if ¬ (nw:Int)=X ∨ 16384 < nw ∨ ¬ (nb:Int)=c then noS 9 else ((H,I,J),0)) from S.o);clear S;by_cases O:(nw:Int)=X;rotate_left
 ·have t1:((nw:Int) != X)=true:=by simpa using O
  have R:=zH (show r=noS 9 by rw [G.o,if_pos (.inl O)]);clear G O
  go_wp2_with (first
   | (refine sG (sN H I J) Q.o ?_;intro w6 g t;have K:=(zA t y).o.cell 2;obtain ⟨M,N,n9,F⟩:=uc4 (zA t q) 3 6 9 10;have i:=zA t z;have f:=zA t j)
   | (refine sG (sN 0 0 0) i.o ?_;intro w7 l A))
  refine rG l ?_;exact ⟨by rw [R.o];rfl,(f.o.away A oM).out⟩
 have t1:((nw:Int) != X)=false:=by simpa using O
 have P1:=zH O;clear O;by_cases p2:16384 < nw
 ·have t2:decide (16384 < (nw:Int))=true:=sO;have R:=zH (show r=noS 9 by rw [G.o,if_pos (.inr (.inl p2))]);clear G p2
  go_wp2_with (first
   | (refine sG (sN H I J) Q.o ?_;intro w6 g t;have K:=(zA t y).o.cell 2;obtain ⟨M,N,n9,F⟩:=uc4 (zA t q) 3 6 9 10;have i:=zA t z;have f:=zA t j)
   | (refine sG (sN 0 0 0) i.o ?_;intro w7 l A))
  refine rG l ?_;exact ⟨by rw [R.o];rfl,(f.o.away A oM).out⟩
 have t2:decide (16384 < (nw:Int))=false:=sO;have P2:=zH p2;clear p2;by_cases P:(nb:Int)=c;rotate_left
 ·have t3:((nb:Int) != c)=true:=by simpa using P
  have R:=zH (show r=noS 9 by rw [G.o,if_pos (.inr (.inr P))]);clear G P
  go_wp2_with (first
   | (refine sG (sN H I J) Q.o ?_;intro w6 g t;have K:=(zA t y).o.cell 2;obtain ⟨M,N,n9,F⟩:=uc4 (zA t q) 3 6 9 10;have i:=zA t z;have f:=zA t j)
   | (refine sG (sN 0 0 0) i.o ?_;intro w7 l A))
  refine rG l ?_;exact ⟨by rw [R.o];rfl,(f.o.away A oM).out⟩
 have t3:((nb:Int) != c)=false:=by simpa using P
 have R:=zH (show r=((H,I,J),0) by rw [G.o,if_neg (by rintro (h|h|h);exact h P1.o;exact P2.o h;exact h P)]);clear G P
 go_wp2_with (first
  | (refine sG (sN H I J) Q.o ?_;intro w6 g t;have K:=(zA t y).o.cell 2;obtain ⟨M,N,n9,F⟩:=uc4 (zA t q) 3 6 9 10;have i:=zA t z;have f:=zA t j)
  | (refine lG g ?_)
  | (refine sG (sN H I J) i.o ?_;intro w7 l A))
 refine rG l ?_;exact ⟨by rw [R.o];rfl,(f.o.away A oM).out⟩
end Go.Proofs.YtbecbfpoahhpnaaGreat
