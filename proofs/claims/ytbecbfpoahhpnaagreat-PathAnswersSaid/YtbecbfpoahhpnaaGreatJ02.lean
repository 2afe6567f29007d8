/- The shape that a node makes (layers 10, 17): conv.Shape, depth.Shape, the document's. -/
import Derived.Test.YtbecbfpoahhpnaaGreatJ01
set_option linter.unusedVariables false
set_option linter.unusedSimpArgs false
set_option maxRecDepth 100000
set_option maxHeartbeats 16000000
namespace Go.Proofs.YtbecbfpoahhpnaaGreat
open Go.RowKit Go.ChangeShapes Go.WideShapes Tryz
theorem qi (h v c:Int) (d:af) (W:QA) (nw cw:Nat) (B:QA) (nb cb:Nat) (w:World) (h0:InK .i64 h) (h1:InK .i64 v) (h2:InK .i64 c) (I:InK .i64 d.out) (X:nw=d.w.length) (V:nb=d.bias.length) (mw:nw≤1048576) (mb:nb≤1048576) :
  Calls prog 99 #[.agg (sN h v c),.agg (nD d W nw cw B nb cb)] w fun e w'=>e=aY (bq h v c d)∧Below w w w':=by
 obtain ⟨r,N⟩:∃ r,bq h v c d=r:=⟨_,rfl⟩;rw [N];unfold bq gI at N;rw [← X,← V] at N;obtain ⟨OK,SL⟩:=zh2 (eD (h:=h) (v:=v) (c:=c) (k:=d.k) (s:=d.s) (p:=d.p) (o:=d.out)) (fun w=>jk h v c d.k d.s d.p d.out w h0 h1 h2 I);obtain ⟨⟨⟨J,K,L⟩,xe⟩,hx⟩:∃ x,aH h v c d.k d.s d.p d.out=x:=⟨_,rfl⟩;rw [hx] at N OK SL;simp only [aY] at SL;have U:=zH N.symm;clear hx N h0 h1 h2 I X V;have j:=zW w;obtain ⟨w1,w2,w3,ah,ad,al,l1,l2,_,y,q,z,Z⟩:=bk3 w (sN h v c) 23 (nD d W nw cw B nb cb) 84 (sN 0 0 0) 23;replace j:=zF Z j;clear Z;have M:=y.o.cell 2;obtain ⟨O,n4,n5,P⟩:=uc4 q 3 4 5 6;go_in
 go_wp2_with (refine lG y.o ?_)
 clear ah ad al M O n4 n5 P;refine qM (SL.o _) fun w4 hb=>?_;obtain ⟨j,y,q,z⟩:=uz4 hb j y q z;clear hb;have l3:w2.heap.size < w4.heap.size:=z.o.lt;obtain ⟨w5,ac,T,an⟩:=nB w4 (sN 0 0 0) 23;obtain ⟨j,y,q,z⟩:=uz4 an j y q z;clear an;clear SL;by_cases F:xe=0;rotate_left
 ·have tx:(xe != 0)=true:=by simpa using F
  have R:=zH (show r=noS xe by rw [U.o,if_pos F]);clear F U OK
  go_wp2_with (first
   | (refine sG (sN J K L) T.o ?_;intro w6 g t;have M:=(zA t y).o.cell 2;obtain ⟨O,P,n9,G⟩:=uc4 (zA t q) 3 6 9 10;have i:=zA t z;have f:=zA t j)
   | (refine sG (sN 0 0 0) i.o ?_;intro w7 l A))
  refine rG l ?_;exact ⟨by rw [R.o];rfl,(f.o.away A oM).out⟩
 subst F;have tx:((0:Int) != 0)=false:=rfl;have ok:=OK.o rfl;obtain ⟨m1,C⟩:∃ m,d.out*d.k=m:=⟨_,rfl⟩;have b1:=et (a:=d.out) (b:=d.k) (m:=1024) (n:=5) oM oM oM oM oM;rw [C] at b1;obtain ⟨m2,D⟩:∃ m,m1*d.k=m:=⟨_,rfl⟩;have b2:=et (a:=m1) (b:=d.k) (m:=1024*5) (n:=5) oM oM oM oM oM;rw [D] at b2;obtain ⟨Y,E⟩:∃ m,m2*c=m:=⟨_,rfl⟩;have b3:=et (a:=m2) (b:=c) (m:=1024*5*5) (n:=1024) oM oM oM oM oM;rw [E] at b3;have e1:IntKind.i64.wrap (d.out*d.k)=m1:=by rw [C];exact wJ
 have e2:IntKind.i64.wrap (m1*d.k)=m2:=by rw [D];exact wJ
 have e3:IntKind.i64.wrap (m2*c)=Y:=by rw [E];exact wJ
 rw [C,D,E] at U;clear C D E b1 b2 b3 ok OK;have H:=zH (show r=(if ¬ (nw:Int)=Y ∨ 16384 < nw ∨ ¬ (nb:Int)=d.out then noS 9 else ((J,K,L),0)) from U.o);clear U;by_cases Q:(nw:Int)=Y;rotate_left
 ·have t1:((nw:Int) != Y)=true:=by simpa using Q
  have R:=zH (show r=noS 9 by rw [H.o,if_pos (.inl Q)]);clear H Q
  go_wp2_with (first
   | (refine sG (sN J K L) T.o ?_;intro w6 g t;have M:=(zA t y).o.cell 2;obtain ⟨O,P,n9,G⟩:=uc4 (zA t q) 3 6 9 10;have i:=zA t z;have f:=zA t j)
   | (refine sG (sN 0 0 0) i.o ?_;intro w7 l A))
  refine rG l ?_;exact ⟨by rw [R.o];rfl,(f.o.away A oM).out⟩
 have t1:((nw:Int) != Y)=false:=by simpa using Q
 have P1:=zH Q;clear Q;by_cases p2:16384 < nw
 ·have t2:decide (16384 < (nw:Int))=true:=sO;have R:=zH (show r=noS 9 by rw [H.o,if_pos (.inr (.inl p2))]);clear H p2
  go_wp2_with (first
   | (refine sG (sN J K L) T.o ?_;intro w6 g t;have M:=(zA t y).o.cell 2;obtain ⟨O,P,n9,G⟩:=uc4 (zA t q) 3 6 9 10;have i:=zA t z;have f:=zA t j)
   | (refine sG (sN 0 0 0) i.o ?_;intro w7 l A))
  refine rG l ?_;exact ⟨by rw [R.o];rfl,(f.o.away A oM).out⟩
 have t2:decide (16384 < (nw:Int))=false:=sO;have P2:=zH p2;clear p2;by_cases S:(nb:Int)=d.out;rotate_left
 ·have t3:((nb:Int) != d.out)=true:=by simpa using S
  have R:=zH (show r=noS 9 by rw [H.o,if_pos (.inr (.inr S))]);clear H S
  go_wp2_with (first
   | (refine sG (sN J K L) T.o ?_;intro w6 g t;have M:=(zA t y).o.cell 2;obtain ⟨O,P,n9,G⟩:=uc4 (zA t q) 3 6 9 10;have i:=zA t z;have f:=zA t j)
   | (refine sG (sN 0 0 0) i.o ?_;intro w7 l A))
  refine rG l ?_;exact ⟨by rw [R.o];rfl,(f.o.away A oM).out⟩
 have t3:((nb:Int) != d.out)=false:=by simpa using S
 have R:=zH (show r=((J,K,L),0) by rw [H.o,if_neg (by rintro (h|h|h);exact h P1.o;exact P2.o h;exact h S)]);clear H S
 go_wp2_with (first
  | (refine sG (sN J K L) T.o ?_;intro w6 g t;have M:=(zA t y).o.cell 2;obtain ⟨O,P,n9,G⟩:=uc4 (zA t q) 3 6 9 10;have i:=zA t z;have f:=zA t j)
  | (refine lG g ?_)
  | (refine sG (sN J K L) i.o ?_;intro w7 l A))
 refine rG l ?_;exact ⟨by rw [R.o];rfl,(f.o.away A oM).out⟩
end Go.Proofs.YtbecbfpoahhpnaaGreat
