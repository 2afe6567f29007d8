/-
  The shape that a node makes (layers 10, 17): conv.Shape, depth.Shape, the document's.
-/
import Derived.Test.YtppcjcigekoipaaGreatJ08
set_option linter.unusedVariables false
set_option linter.unusedSimpArgs false
namespace Go.Proofs.YtppcjcigekoipaaGreat
open Go.RowKit Go.ChangeShapes Go.WideShapes
set_option maxRecDepth 100000
set_option maxHeartbeats 8000000 in
theorem depthShape_any (h v c:Int) (d:Node) (W:Option Addr) (nw cw:Nat) (B:Option Addr) (nb cb:Nat) (w:World) (h0:InK .i64 h) (h1:InK .i64 v) (h2:InK .i64 c) (hout:InK .i64 d.out) (hnw:nw=d.w.length) (hnb:nb=d.bias.length) (mw:nw≤1048576) (mb:nb≤1048576) :
  Calls Tryz.prog 145 #[.agg (sN h v c),.agg (nN d.kind d.a d.b d.k d.s d.p d.out d.za d.zb W nw cw B nb cb d.qm d.qs d.qz d.rm d.rs d.rz d.lo d.hi)] w fun e w'=>e=retS (depthV h v c d)∧Below w.heap.size w w':=by
 obtain ⟨r,hr⟩:∃ r,depthV h v c d=r:=⟨_,rfl⟩
 rw [hr]
 unfold depthV fitV at hr
 rw [← hnw,← hnb] at hr
 have OK:=zH (slideV_ok (h:=h) (v:=v) (c:=c) (k:=d.k) (s:=d.s) (p:=d.p) (o:=c))
 have SL:=zH (fun w=>slide_any h v c d.k d.s d.p c w h0 h1 h2 h2)
 obtain ⟨⟨⟨x1,x2,x3⟩,xe⟩,hx⟩:∃ x,slideV h v c d.k d.s d.p c=x:=⟨_,rfl⟩
 rw [hx] at hr OK SL
 simp only [retS] at SL
 have VV:=zH hr.symm
 clear hx hr h0 h1 h2 hout hnw hnb
 have FR:=zH (Far.refl w)
 obtain ⟨w1,hw_w1,BA,k_w1⟩:=nB w (sN h v c) 23
 replace FR:=zH (FR.out.fut k_w1)
 clear k_w1
 obtain ⟨w2,hw_w2,BN,k_w2⟩:=nB w1 (nN d.kind d.a d.b d.k d.s d.p d.out d.za d.zb W nw cw B nb cb d.qm d.qs d.qz d.rm d.rs d.rz d.lo d.hi) 87
 replace FR:=zH (FR.out.fut k_w2)
 replace BA:=zH (BA.out.fut k_w2)
 clear k_w2
 obtain ⟨w3,hw_w3,BR,k_w3⟩:=nB w2 (sN 0 0 0) 23
 replace FR:=zH (FR.out.fut k_w3)
 replace BA:=zH (BA.out.fut k_w3)
 replace BN:=zH (BN.out.fut k_w3)
 clear k_w3
 have l1:w.heap.size < w1.heap.size:=by rw [← hw_w1];simp
 have l2:w1.heap.size < w2.heap.size:=by rw [← hw_w2];simp
 have a2:=BA.out.cell 2
 have n3:=BN.out.cell 3
 have n4:=BN.out.cell 4
 have n5:=BN.out.cell 5
 have n6:=BN.out.cell 6
 go_enter Tryz.func145,Tryz.ntmps145
 go_wp2_with (refine lB 23 (.tmp 2) w.heap.size BA.out Tryz.underlying23 ?_)
 clear hw_w1 hw_w2 hw_w3 a2 n3 n4 n5 n6
 refine (SL.out _).mono ?_
 rintro e w4 ⟨rfl,hb⟩
 replace FR:=zH (FR.out.fut hb)
 replace BA:=zH (BA.out.fut hb)
 replace BN:=zH (BN.out.fut hb)
 replace BR:=zH (BR.out.fut hb)
 clear hb
 have l3:w2.heap.size < w4.heap.size:=BR.out.lt
 obtain ⟨w5,hw_w5,BT,k_w5⟩:=nB w4 (sN 0 0 0) 23
 replace FR:=zH (FR.out.fut k_w5)
 replace BA:=zH (BA.out.fut k_w5)
 replace BN:=zH (BN.out.fut k_w5)
 replace BR:=zH (BR.out.fut k_w5)
 clear k_w5
 clear SL
 by_cases hxe:xe=0
 rotate_left
 ·have tx:(xe != 0)=true:=by simpa using hxe
  have R:=zH (show r=noS xe by rw [VV.out,if_pos hxe])
  clear hxe VV OK
  go_wp2_with (first
   | (refine sB 23 (.tmp 6) (.tmp 19) w4.heap.size (sN x1 x2 x3) BT.out ?_;intro w6 BT6 g6;have a2:=(BA.out.away g6 (by omega)).cell 2;have n3:=(BN.out.away g6 (by omega)).cell 3;have n6:=(BN.out.away g6 (by omega)).cell 6;have n9:=(BN.out.away g6 (by omega)).cell 9;have n10:=(BN.out.away g6 (by omega)).cell 10;have BR6:=zH (BR.out.away g6 (by omega));have FR6:=zH (FR.out.away g6 (by omega)))
   | (refine sB 23 (.tmp 4) (.tmp 23) w2.heap.size (sN 0 0 0) BR6.out ?_;intro w7 BR7 g7))
  refine rC BR7 Tryz.underlying23 ?_;exact ⟨by rw [R.out];rfl,(FR6.out.away g7 (by omega)).out⟩
 subst hxe
 have tx:((0:Int) != 0)=false:=rfl
 have ok:=OK.out rfl
 obtain ⟨m1,hm1⟩:∃ m,c*d.k=m:=⟨_,rfl⟩
 have b1:=prod_bd (a:=c) (b:=d.k) (m:=1024) (n:=5) (by omega) (by omega) (by omega) (by omega) (by omega)
 rw [hm1] at b1
 obtain ⟨m2,hm2⟩:∃ m,m1*d.k=m:=⟨_,rfl⟩
 have b2:=prod_bd (a:=m1) (b:=d.k) (m:=1024*5) (n:=5) (by omega) (by omega) (by omega) (by omega) (by omega)
 rw [hm2] at b2
 have e1:IntKind.i64.wrap (c*d.k)=m1:=by rw [hm1];exact IntWalk.i64_in _ (by omega)
 have e2:IntKind.i64.wrap (m1*d.k)=m2:=by rw [hm2];exact IntWalk.i64_in _ (by omega)
 rw [hm1,hm2] at VV
 clear hm1 hm2 b1 b2 ok OK
 have V2:=zH (show r=(if ¬ (nw:Int)=m2 ∨ 16384 < nw ∨ ¬ (nb:Int)=c then noS 9 else ((x1,x2,x3),0)) from VV.out)
 clear VV
 by_cases p1:(nw:Int)=m2
 rotate_left
 ·have t1:((nw:Int) != m2)=true:=by simpa using p1
  have R:=zH (show r=noS 9 by rw [V2.out,if_pos (.inl p1)])
  clear V2 p1
  go_wp2_with (first
   | (refine sB 23 (.tmp 6) (.tmp 19) w4.heap.size (sN x1 x2 x3) BT.out ?_;intro w6 BT6 g6;have a2:=(BA.out.away g6 (by omega)).cell 2;have n3:=(BN.out.away g6 (by omega)).cell 3;have n6:=(BN.out.away g6 (by omega)).cell 6;have n9:=(BN.out.away g6 (by omega)).cell 9;have n10:=(BN.out.away g6 (by omega)).cell 10;have BR6:=zH (BR.out.away g6 (by omega));have FR6:=zH (FR.out.away g6 (by omega)))
   | (refine sB 23 (.tmp 4) (.tmp 51) w2.heap.size (sN 0 0 0) BR6.out ?_;intro w7 BR7 g7))
  refine rC BR7 Tryz.underlying23 ?_;exact ⟨by rw [R.out];rfl,(FR6.out.away g7 (by omega)).out⟩
 have t1:((nw:Int) != m2)=false:=by simpa using p1
 have P1:=zH p1
 clear p1
 by_cases p2:16384 < nw
 ·have t2:decide (16384 < (nw:Int))=true:=by simp;omega
  have R:=zH (show r=noS 9 by rw [V2.out,if_pos (.inr (.inl p2))])
  clear V2 p2
  go_wp2_with (first
   | (refine sB 23 (.tmp 6) (.tmp 19) w4.heap.size (sN x1 x2 x3) BT.out ?_;intro w6 BT6 g6;have a2:=(BA.out.away g6 (by omega)).cell 2;have n3:=(BN.out.away g6 (by omega)).cell 3;have n6:=(BN.out.away g6 (by omega)).cell 6;have n9:=(BN.out.away g6 (by omega)).cell 9;have n10:=(BN.out.away g6 (by omega)).cell 10;have BR6:=zH (BR.out.away g6 (by omega));have FR6:=zH (FR.out.away g6 (by omega)))
   | (refine sB 23 (.tmp 4) (.tmp 51) w2.heap.size (sN 0 0 0) BR6.out ?_;intro w7 BR7 g7))
  refine rC BR7 Tryz.underlying23 ?_;exact ⟨by rw [R.out];rfl,(FR6.out.away g7 (by omega)).out⟩
 have t2:decide (16384 < (nw:Int))=false:=by simp;omega
 have P2:=zH p2
 clear p2
 by_cases p3:(nb:Int)=c
 rotate_left
 ·have t3:((nb:Int) != c)=true:=by simpa using p3
  have R:=zH (show r=noS 9 by rw [V2.out,if_pos (.inr (.inr p3))])
  clear V2 p3
  go_wp2_with (first
   | (refine sB 23 (.tmp 6) (.tmp 19) w4.heap.size (sN x1 x2 x3) BT.out ?_;intro w6 BT6 g6;have a2:=(BA.out.away g6 (by omega)).cell 2;have n3:=(BN.out.away g6 (by omega)).cell 3;have n6:=(BN.out.away g6 (by omega)).cell 6;have n9:=(BN.out.away g6 (by omega)).cell 9;have n10:=(BN.out.away g6 (by omega)).cell 10;have BR6:=zH (BR.out.away g6 (by omega));have FR6:=zH (FR.out.away g6 (by omega)))
   | (refine sB 23 (.tmp 4) (.tmp 51) w2.heap.size (sN 0 0 0) BR6.out ?_;intro w7 BR7 g7))
  refine rC BR7 Tryz.underlying23 ?_;exact ⟨by rw [R.out];rfl,(FR6.out.away g7 (by omega)).out⟩
 have t3:((nb:Int) != c)=false:=by simpa using p3
 have R:=zH (show r=((x1,x2,x3),0) by rw [V2.out,if_neg (by rintro (h|h|h);exact h P1.out;exact P2.out h;exact h p3)])
 clear V2 p3
 go_wp2_with (first
  | (refine sB 23 (.tmp 6) (.tmp 19) w4.heap.size (sN x1 x2 x3) BT.out ?_;intro w6 BT6 g6;have a2:=(BA.out.away g6 (by omega)).cell 2;have n3:=(BN.out.away g6 (by omega)).cell 3;have n6:=(BN.out.away g6 (by omega)).cell 6;have n9:=(BN.out.away g6 (by omega)).cell 9;have n10:=(BN.out.away g6 (by omega)).cell 10;have BR6:=zH (BR.out.away g6 (by omega));have FR6:=zH (FR.out.away g6 (by omega)))
  | (refine lB 23 (.tmp 6) w4.heap.size BT6 Tryz.underlying23 ?_)
  | (refine sB 23 (.tmp 4) (.tmp 52) w2.heap.size (sN x1 x2 x3) BR6.out ?_;intro w7 BR7 g7))
 refine rC BR7 Tryz.underlying23 ?_;exact ⟨by rw [R.out];rfl,(FR6.out.away g7 (by omega)).out⟩
end Go.Proofs.YtppcjcigekoipaaGreat
