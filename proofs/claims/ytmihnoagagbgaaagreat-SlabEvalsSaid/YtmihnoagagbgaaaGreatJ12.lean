/-
  The shape that a node makes (layers 10, 17): conv.Shape, depth.Shape, the document's.
-/
import Derived.Test.YtmihnoagagbgaaaGreatJ08
set_option linter.unusedVariables false
set_option linter.unusedSimpArgs false
set_option maxRecDepth 100000
set_option maxHeartbeats 16000000
namespace Go.Proofs.YtmihnoagagbgaaaGreat
open Go.RowKit Go.ChangeShapes Go.WideShapes Tryz
set_option maxRecDepth 100000
set_option maxHeartbeats 16000000
theorem eP (h v c:Int) (d:af) (W:QA) (nw cw:Nat) (B:QA) (nb cb:Nat) (w:World) (h0:InK .i64 h) (h1:InK .i64 v) (h2:InK .i64 c) (hout:InK .i64 d.out) (hnw:nw=d.w.length) (hnb:nb=d.bias.length) (mw:nw≤1048576) (mb:nb≤1048576) :
  Calls prog 57 #[.agg (sN h v c),.agg (nD d W nw cw B nb cb)] w fun e w'=>e=aL (aM h v c d)∧Below w w w':=by
 obtain ⟨r,hr⟩:∃ r,aM h v c d=r:=⟨_,rfl⟩
 rw [hr]
 unfold aM fR at hr
 rw [← hnw,← hnb] at hr
 have OK:=zH (gg (h:=h) (v:=v) (c:=c) (k:=d.k) (s:=d.s) (p:=d.p) (o:=c))
 have SL:=zH (fun w=>dU h v c d.k d.s d.p c w h0 h1 h2 h2)
 obtain ⟨⟨⟨x1,x2,x3⟩,xe⟩,hx⟩:∃ x,aw h v c d.k d.s d.p c=x:=⟨_,rfl⟩
 rw [hx] at hr OK SL
 simp only [aL] at SL
 have VV:=zH hr.symm
 clear hx hr h0 h1 h2 hout hnw hnb
 have FR:=zW w
 obtain ⟨w1,w2,w3,yw1,yw2,yw3,l1,l2,_,BA,BN,BR,yk3⟩:=bk3 w (sN h v c) 24 (nD d W nw cw B nb cb) 42 (sN 0 0 0) 24
 replace FR:=zF yk3 FR
 clear yk3
 have a2:=BA.o.cell 2
 obtain ⟨n3,n4,n5,n6⟩:=uc4 BN 3 4 5 6
 go_in
 go_wp2_with (refine lG BA.o ?_)
 clear yw1 yw2 yw3 a2 n3 n4 n5 n6
 refine qM (SL.o _) fun w4 hb=>?_
 obtain ⟨FR,BA,BN,BR⟩:=uz4 hb FR BA BN BR
 clear hb
 have l3:w2.heap.size < w4.heap.size:=BR.o.lt
 obtain ⟨w5,yw5,BT,yk5⟩:=nB w4 (sN 0 0 0) 24
 obtain ⟨FR,BA,BN,BR⟩:=uz4 yk5 FR BA BN BR
 clear yk5
 clear SL
 by_cases hxe:xe=0
 rotate_left
 ·have tx:(xe != 0)=true:=by simpa using hxe
  have R:=zH (show r=noS xe by rw [VV.o,if_pos hxe])
  clear hxe VV OK
  go_wp2_with (first
   | (refine sG (sN x1 x2 x3) BT.o ?_;intro w6 BT6 g6;have a2:=(zA g6 BA).o.cell 2;obtain ⟨n3,n6,n9,n10⟩:=uc4 (zA g6 BN) 3 6 9 10;have BR6:=zA g6 BR;have FR6:=zA g6 FR)
   | (refine sG (sN 0 0 0) BR6.o ?_;intro w7 BR7 g7))
  refine rG BR7 ?_;exact ⟨by rw [R.o];rfl,(FR6.o.away g7 oM).out⟩
 subst hxe
 have tx:((0:Int) != 0)=false:=rfl
 have ok:=OK.o rfl
 obtain ⟨m1,hm1⟩:∃ m,c*d.k=m:=⟨_,rfl⟩
 have b1:=dd (a:=c) (b:=d.k) (m:=1024) (n:=5) oM oM oM oM oM
 rw [hm1] at b1
 obtain ⟨m2,hm2⟩:∃ m,m1*d.k=m:=⟨_,rfl⟩
 have b2:=dd (a:=m1) (b:=d.k) (m:=1024*5) (n:=5) oM oM oM oM oM
 rw [hm2] at b2
 have e1:IntKind.i64.wrap (c*d.k)=m1:=by rw [hm1];exact wJ
 have e2:IntKind.i64.wrap (m1*d.k)=m2:=by rw [hm2];exact wJ
 rw [hm1,hm2] at VV
 clear hm1 hm2 b1 b2 ok OK
 have V2:=zH (show r=(if ¬ (nw:Int)=m2 ∨ 16384 < nw ∨ ¬ (nb:Int)=c then noS 9 else ((x1,x2,x3),0)) from VV.o)
 clear VV
 by_cases p1:(nw:Int)=m2
 rotate_left
 ·have t1:((nw:Int) != m2)=true:=by simpa using p1
  have R:=zH (show r=noS 9 by rw [V2.o,if_pos (.inl p1)])
  clear V2 p1
  go_wp2_with (first
   | (refine sG (sN x1 x2 x3) BT.o ?_;intro w6 BT6 g6;have a2:=(zA g6 BA).o.cell 2;obtain ⟨n3,n6,n9,n10⟩:=uc4 (zA g6 BN) 3 6 9 10;have BR6:=zA g6 BR;have FR6:=zA g6 FR)
   | (refine sG (sN 0 0 0) BR6.o ?_;intro w7 BR7 g7))
  refine rG BR7 ?_;exact ⟨by rw [R.o];rfl,(FR6.o.away g7 oM).out⟩
 have t1:((nw:Int) != m2)=false:=by simpa using p1
 have P1:=zH p1
 clear p1
 by_cases p2:16384 < nw
 ·have t2:decide (16384 < (nw:Int))=true:=by simp;omega
  have R:=zH (show r=noS 9 by rw [V2.o,if_pos (.inr (.inl p2))])
  clear V2 p2
  go_wp2_with (first
   | (refine sG (sN x1 x2 x3) BT.o ?_;intro w6 BT6 g6;have a2:=(zA g6 BA).o.cell 2;obtain ⟨n3,n6,n9,n10⟩:=uc4 (zA g6 BN) 3 6 9 10;have BR6:=zA g6 BR;have FR6:=zA g6 FR)
   | (refine sG (sN 0 0 0) BR6.o ?_;intro w7 BR7 g7))
  refine rG BR7 ?_;exact ⟨by rw [R.o];rfl,(FR6.o.away g7 oM).out⟩
 have t2:decide (16384 < (nw:Int))=false:=by simp;omega
 have P2:=zH p2
 clear p2
 by_cases p3:(nb:Int)=c
 rotate_left
 ·have t3:((nb:Int) != c)=true:=by simpa using p3
  have R:=zH (show r=noS 9 by rw [V2.o,if_pos (.inr (.inr p3))])
  clear V2 p3
  go_wp2_with (first
   | (refine sG (sN x1 x2 x3) BT.o ?_;intro w6 BT6 g6;have a2:=(zA g6 BA).o.cell 2;obtain ⟨n3,n6,n9,n10⟩:=uc4 (zA g6 BN) 3 6 9 10;have BR6:=zA g6 BR;have FR6:=zA g6 FR)
   | (refine sG (sN 0 0 0) BR6.o ?_;intro w7 BR7 g7))
  refine rG BR7 ?_;exact ⟨by rw [R.o];rfl,(FR6.o.away g7 oM).out⟩
 have t3:((nb:Int) != c)=false:=by simpa using p3
 have R:=zH (show r=((x1,x2,x3),0) by rw [V2.o,if_neg (by rintro (h|h|h);exact h P1.o;exact P2.o h;exact h p3)])
 clear V2 p3
 go_wp2_with (first
  | (refine sG (sN x1 x2 x3) BT.o ?_;intro w6 BT6 g6;have a2:=(zA g6 BA).o.cell 2;obtain ⟨n3,n6,n9,n10⟩:=uc4 (zA g6 BN) 3 6 9 10;have BR6:=zA g6 BR;have FR6:=zA g6 FR)
  | (refine lG BT6 ?_)
  | (refine sG (sN x1 x2 x3) BR6.o ?_;intro w7 BR7 g7))
 refine rG BR7 ?_;exact ⟨by rw [R.o];rfl,(FR6.o.away g7 oM).out⟩
end Go.Proofs.YtmihnoagagbgaaaGreat
