/-
  The shape that a node makes (layers 18, 25): kinds.Shape.
-/
import Derived.Test.YtppcjcigekoipaaGreatJ25
import Derived.Test.YtppcjcigekoipaaGreatJ26
import Derived.Test.YtppcjcigekoipaaGreatJ27
import Derived.Test.YtppcjcigekoipaaGreatJ22
set_option linter.unusedVariables false
set_option linter.unusedSimpArgs false
namespace Go.Proofs.YtppcjcigekoipaaGreat
open Go.RowKit Go.ChangeShapes Go.WideShapes
set_option maxRecDepth 100000
set_option maxHeartbeats 16000000 in
theorem kshape_any (h v c h2 v2 c2:Int) (d:Node) (W:Option Addr) (nw cw:Nat) (B:Option Addr) (nb cb:Nat) (w:World) (i0:InK .i64 h) (i1:InK .i64 v) (i2:InK .i64 c) (hout:InK .i64 d.out) (hp:InK .i64 d.p) (hnw:nw=d.w.length) (hnb:nb=d.bias.length) (mw:nw≤1048576) (mb:nb≤1048576) (hk:1≤d.kind∧d.kind≤9) :
  Calls Tryz.prog 107 #[.agg (nN d.kind d.a d.b d.k d.s d.p d.out d.za d.zb W nw cw B nb cb d.qm d.qs d.qz d.rm d.rs d.rz d.lo d.hi),.agg (sN h v c),.agg (sN h2 v2 c2)] w fun e w'=>e=retS (shapeV h v c h2 v2 c2 d)∧Below w.heap.size w w':=by
 obtain ⟨r,hr⟩:∃ r,shapeV h v c h2 v2 c2 d=r:=⟨_,rfl⟩
 rw [hr]
 unfold shapeV at hr
 have VV:=zH hr.symm
 clear hr
 have FR:=zH (Far.refl w)
 obtain ⟨w1,hw_w1,BN,k_w1⟩:=nB w (nN d.kind d.a d.b d.k d.s d.p d.out d.za d.zb W nw cw B nb cb d.qm d.qs d.qz d.rm d.rs d.rz d.lo d.hi) 87
 replace FR:=zH (FR.out.fut k_w1)
 clear k_w1
 obtain ⟨w2,hw_w2,BA,k_w2⟩:=nB w1 (sN h v c) 23
 replace FR:=zH (FR.out.fut k_w2)
 replace BN:=zH (BN.out.fut k_w2)
 clear k_w2
 obtain ⟨w3,hw_w3,BB,k_w3⟩:=nB w2 (sN h2 v2 c2) 23
 replace FR:=zH (FR.out.fut k_w3)
 replace BN:=zH (BN.out.fut k_w3)
 replace BA:=zH (BA.out.fut k_w3)
 clear k_w3
 obtain ⟨w4,hw_w4,BR,k_w4⟩:=nB w3 (sN 0 0 0) 23
 replace FR:=zH (FR.out.fut k_w4)
 replace BN:=zH (BN.out.fut k_w4)
 replace BA:=zH (BA.out.fut k_w4)
 replace BB:=zH (BB.out.fut k_w4)
 clear k_w4
 have l1:w.heap.size < w1.heap.size:=by rw [← hw_w1];simp
 have l2:w1.heap.size < w2.heap.size:=by rw [← hw_w2];simp
 have l3:w2.heap.size < w3.heap.size:=by rw [← hw_w3];simp
 have l4:w3.heap.size < w4.heap.size:=by rw [← hw_w4];simp
 have n0:=BN.out.cell 0
 rcases (show d.kind=1 ∨ d.kind=2 ∨ d.kind=3 ∨ d.kind=4 ∨ d.kind=5 ∨ d.kind=6 ∨ d.kind=7 ∨ d.kind=8 ∨ d.kind=9 by omega) with e|e|e|e|e|e|e|e|e
 ·clear hk
  have k1:(d.kind == 1)=true:=by simp [e]
  have k2:(d.kind == 2)=false:=by simp [e]
  have k3:(d.kind == 3)=false:=by simp [e]
  have k4:(d.kind == 4)=false:=by simp [e]
  have k5:(d.kind == 5)=false:=by simp [e]
  have k6:(d.kind == 6)=false:=by simp [e]
  have k7:(d.kind == 7)=false:=by simp [e]
  have k8:(d.kind == 8)=false:=by simp [e]
  have k9:(d.kind == 9)=false:=by simp [e]
  have CN:=zH (fun w=>convShape_any h v c d W nw cw B nb cb w i0 i1 i2 hout hnw hnb mw mb)
  obtain ⟨⟨⟨x1,x2,x3⟩,xe⟩,hx⟩:∃ x,convV h v c d=x:=⟨_,rfl⟩
  have R:=zH (show r=((x1,x2,x3),xe) by rw [VV.out,← hx];simp [e])
  rw [hx] at CN
  simp only [retS] at CN
  clear VV hx e i0 i1 i2 hout hp hnw hnb mw mb
  go_enter Tryz.func107,Tryz.ntmps107
  go_wp2_with (first
   | (refine lB 23 (.tmp 4) w1.heap.size BA.out Tryz.underlying23 ?_)
   | (refine lB 87 (.tmp 3) w.heap.size BN.out Tryz.underlying87 ?_))
  clear hw_w1 hw_w2 hw_w3 hw_w4 n0
  refine (CN.out _).mono ?_
  rintro e w5 ⟨rfl,hb⟩
  replace FR:=zH (FR.out.fut hb)
  replace BN:=zH (BN.out.fut hb)
  replace BA:=zH (BA.out.fut hb)
  replace BB:=zH (BB.out.fut hb)
  replace BR:=zH (BR.out.fut hb)
  clear hb
  go_wp2_with (first
   | (refine sB 23 (.tmp 6) (.tmp 15) w3.heap.size (sN x1 x2 x3) BR.out ?_;intro w7 BR7 g7))
  refine rC BR7 Tryz.underlying23 ?_;exact ⟨by rw [R.out];rfl,(FR.out.away g7 (by omega)).out⟩
 ·clear hk
  have k1:(d.kind == 1)=false:=by simp [e]
  have k2:(d.kind == 2)=true:=by simp [e]
  have k3:(d.kind == 3)=false:=by simp [e]
  have k4:(d.kind == 4)=false:=by simp [e]
  have k5:(d.kind == 5)=false:=by simp [e]
  have k6:(d.kind == 6)=false:=by simp [e]
  have k7:(d.kind == 7)=false:=by simp [e]
  have k8:(d.kind == 8)=false:=by simp [e]
  have k9:(d.kind == 9)=false:=by simp [e]
  have CN:=zH (fun w=>depthShape_any h v c d W nw cw B nb cb w i0 i1 i2 hout hnw hnb mw mb)
  obtain ⟨⟨⟨x1,x2,x3⟩,xe⟩,hx⟩:∃ x,depthV h v c d=x:=⟨_,rfl⟩
  have R:=zH (show r=((x1,x2,x3),xe) by rw [VV.out,← hx];simp [e])
  rw [hx] at CN
  simp only [retS] at CN
  clear VV hx e i0 i1 i2 hout hp hnw hnb mw mb
  go_enter Tryz.func107,Tryz.ntmps107
  go_wp2_with (first
   | (refine lB 23 (.tmp 4) w1.heap.size BA.out Tryz.underlying23 ?_)
   | (refine lB 87 (.tmp 3) w.heap.size BN.out Tryz.underlying87 ?_))
  clear hw_w1 hw_w2 hw_w3 hw_w4 n0
  refine (CN.out _).mono ?_
  rintro e w5 ⟨rfl,hb⟩
  replace FR:=zH (FR.out.fut hb)
  replace BN:=zH (BN.out.fut hb)
  replace BA:=zH (BA.out.fut hb)
  replace BB:=zH (BB.out.fut hb)
  replace BR:=zH (BR.out.fut hb)
  clear hb
  go_wp2_with (first
   | (refine sB 23 (.tmp 6) (.tmp 22) w3.heap.size (sN x1 x2 x3) BR.out ?_;intro w7 BR7 g7))
  refine rC BR7 Tryz.underlying23 ?_;exact ⟨by rw [R.out];rfl,(FR.out.away g7 (by omega)).out⟩
 ·clear hk
  have k1:(d.kind == 1)=false:=by simp [e]
  have k2:(d.kind == 2)=false:=by simp [e]
  have k3:(d.kind == 3)=true:=by simp [e]
  have k4:(d.kind == 4)=false:=by simp [e]
  have k5:(d.kind == 5)=false:=by simp [e]
  have k6:(d.kind == 6)=false:=by simp [e]
  have k7:(d.kind == 7)=false:=by simp [e]
  have k8:(d.kind == 8)=false:=by simp [e]
  have k9:(d.kind == 9)=false:=by simp [e]
  have CN:=zH (fun w=>dense25_any h v c d W nw cw B nb cb w i0 i1 i2 hout hnw hnb mw mb)
  obtain ⟨⟨⟨x1,x2,x3⟩,xe⟩,hx⟩:∃ x,denseV h v c d=x:=⟨_,rfl⟩
  have R:=zH (show r=((x1,x2,x3),xe) by rw [VV.out,← hx];simp [e])
  rw [hx] at CN
  simp only [retS] at CN
  clear VV hx e i0 i1 i2 hout hp hnw hnb mw mb
  go_enter Tryz.func107,Tryz.ntmps107
  go_wp2_with (first
   | (refine lB 23 (.tmp 4) w1.heap.size BA.out Tryz.underlying23 ?_)
   | (refine lB 87 (.tmp 3) w.heap.size BN.out Tryz.underlying87 ?_))
  clear hw_w1 hw_w2 hw_w3 hw_w4 n0
  refine (CN.out _).mono ?_
  rintro e w5 ⟨rfl,hb⟩
  replace FR:=zH (FR.out.fut hb)
  replace BN:=zH (BN.out.fut hb)
  replace BA:=zH (BA.out.fut hb)
  replace BB:=zH (BB.out.fut hb)
  replace BR:=zH (BR.out.fut hb)
  clear hb
  go_wp2_with (first
   | (refine sB 23 (.tmp 6) (.tmp 29) w3.heap.size (sN x1 x2 x3) BR.out ?_;intro w7 BR7 g7))
  refine rC BR7 Tryz.underlying23 ?_;exact ⟨by rw [R.out];rfl,(FR.out.away g7 (by omega)).out⟩
 ·clear hk
  have k1:(d.kind == 1)=false:=by simp [e]
  have k2:(d.kind == 2)=false:=by simp [e]
  have k3:(d.kind == 3)=false:=by simp [e]
  have k4:(d.kind == 4)=true:=by simp [e]
  have k5:(d.kind == 5)=false:=by simp [e]
  have k6:(d.kind == 6)=false:=by simp [e]
  have k7:(d.kind == 7)=false:=by simp [e]
  have k8:(d.kind == 8)=false:=by simp [e]
  have k9:(d.kind == 9)=false:=by simp [e]
  have CN:=zH (fun w=>slide_any h v c d.k d.s d.p c w i0 i1 i2 i2)
  have n3:=BN.out.cell 3
  have n4:=BN.out.cell 4
  have n5:=BN.out.cell 5
  have a2:=BA.out.cell 2
  obtain ⟨⟨⟨x1,x2,x3⟩,xe⟩,hx⟩:∃ x,slideV h v c d.k d.s d.p c=x:=⟨_,rfl⟩
  have R:=zH (show r=((x1,x2,x3),xe) by rw [VV.out,← hx];simp [e])
  rw [hx] at CN
  simp only [retS] at CN
  clear VV hx e i0 i1 i2 hout hp hnw hnb mw mb
  go_enter Tryz.func107,Tryz.ntmps107
  go_wp2_with (first
   | (refine lB 23 (.tmp 4) w1.heap.size BA.out Tryz.underlying23 ?_))
  clear hw_w1 hw_w2 hw_w3 hw_w4 n0 n3 n4 n5 a2
  refine (CN.out _).mono ?_
  rintro e w5 ⟨rfl,hb⟩
  replace FR:=zH (FR.out.fut hb)
  replace BN:=zH (BN.out.fut hb)
  replace BA:=zH (BA.out.fut hb)
  replace BB:=zH (BB.out.fut hb)
  replace BR:=zH (BR.out.fut hb)
  clear hb
  go_wp2_with (first
   | (refine sB 23 (.tmp 6) (.tmp 44) w3.heap.size (sN x1 x2 x3) BR.out ?_;intro w7 BR7 g7))
  refine rC BR7 Tryz.underlying23 ?_;exact ⟨by rw [R.out];rfl,(FR.out.away g7 (by omega)).out⟩
 ·clear hk
  have k1:(d.kind == 1)=false:=by simp [e]
  have k2:(d.kind == 2)=false:=by simp [e]
  have k3:(d.kind == 3)=false:=by simp [e]
  have k4:(d.kind == 4)=false:=by simp [e]
  have k5:(d.kind == 5)=true:=by simp [e]
  have k6:(d.kind == 6)=false:=by simp [e]
  have k7:(d.kind == 7)=false:=by simp [e]
  have k8:(d.kind == 8)=false:=by simp [e]
  have k9:(d.kind == 9)=false:=by simp [e]
  have CN:=zH (fun w=>slide_any h v c d.k d.s d.p c w i0 i1 i2 i2)
  have n3:=BN.out.cell 3
  have n4:=BN.out.cell 4
  have n5:=BN.out.cell 5
  have a2:=BA.out.cell 2
  obtain ⟨⟨⟨x1,x2,x3⟩,xe⟩,hx⟩:∃ x,slideV h v c d.k d.s d.p c=x:=⟨_,rfl⟩
  have R:=zH (show r=((x1,x2,x3),xe) by rw [VV.out,← hx];simp [e])
  rw [hx] at CN
  simp only [retS] at CN
  clear VV hx e i0 i1 i2 hout hp hnw hnb mw mb
  go_enter Tryz.func107,Tryz.ntmps107
  go_wp2_with (first
   | (refine lB 23 (.tmp 4) w1.heap.size BA.out Tryz.underlying23 ?_))
  clear hw_w1 hw_w2 hw_w3 hw_w4 n0 n3 n4 n5 a2
  refine (CN.out _).mono ?_
  rintro e w5 ⟨rfl,hb⟩
  replace FR:=zH (FR.out.fut hb)
  replace BN:=zH (BN.out.fut hb)
  replace BA:=zH (BA.out.fut hb)
  replace BB:=zH (BB.out.fut hb)
  replace BR:=zH (BR.out.fut hb)
  clear hb
  go_wp2_with (first
   | (refine sB 23 (.tmp 6) (.tmp 44) w3.heap.size (sN x1 x2 x3) BR.out ?_;intro w7 BR7 g7))
  refine rC BR7 Tryz.underlying23 ?_;exact ⟨by rw [R.out];rfl,(FR.out.away g7 (by omega)).out⟩
 ·clear hk
  have k1:(d.kind == 1)=false:=by simp [e]
  have k2:(d.kind == 2)=false:=by simp [e]
  have k3:(d.kind == 3)=false:=by simp [e]
  have k4:(d.kind == 4)=false:=by simp [e]
  have k5:(d.kind == 5)=false:=by simp [e]
  have k6:(d.kind == 6)=true:=by simp [e]
  have k7:(d.kind == 7)=false:=by simp [e]
  have k8:(d.kind == 8)=false:=by simp [e]
  have k9:(d.kind == 9)=false:=by simp [e]
  have CN:=zH (fun w=>plainShape_any h v c h2 v2 c2 d W nw cw B nb cb w i0 i1 i2 hout hp hnw hnb mw mb (by omega))
  obtain ⟨⟨⟨x1,x2,x3⟩,xe⟩,hx⟩:∃ x,plainV d.kind h v c h2 v2 c2 d.p=x:=⟨_,rfl⟩
  have R:=zH (show r=((x1,x2,x3),xe) by rw [VV.out,← hx];simp [e])
  rw [hx] at CN
  simp only [retS] at CN
  clear VV hx e i0 i1 i2 hout hp hnw hnb mw mb
  go_enter Tryz.func107,Tryz.ntmps107
  go_wp2_with (first
   | (refine lB 23 (.tmp 4) w1.heap.size BA.out Tryz.underlying23 ?_)
   | (refine lB 23 (.tmp 5) w2.heap.size BB.out Tryz.underlying23 ?_)
   | (refine lB 87 (.tmp 3) w.heap.size BN.out Tryz.underlying87 ?_))
  clear hw_w1 hw_w2 hw_w3 hw_w4 n0
  refine (CN.out _).mono ?_
  rintro e w5 ⟨rfl,hb⟩
  replace FR:=zH (FR.out.fut hb)
  replace BN:=zH (BN.out.fut hb)
  replace BA:=zH (BA.out.fut hb)
  replace BB:=zH (BB.out.fut hb)
  replace BR:=zH (BR.out.fut hb)
  clear hb
  go_wp2_with (first
   | (refine sB 23 (.tmp 6) (.tmp 55) w3.heap.size (sN x1 x2 x3) BR.out ?_;intro w7 BR7 g7))
  refine rC BR7 Tryz.underlying23 ?_;exact ⟨by rw [R.out];rfl,(FR.out.away g7 (by omega)).out⟩
 ·clear hk
  have k1:(d.kind == 1)=false:=by simp [e]
  have k2:(d.kind == 2)=false:=by simp [e]
  have k3:(d.kind == 3)=false:=by simp [e]
  have k4:(d.kind == 4)=false:=by simp [e]
  have k5:(d.kind == 5)=false:=by simp [e]
  have k6:(d.kind == 6)=false:=by simp [e]
  have k7:(d.kind == 7)=true:=by simp [e]
  have k8:(d.kind == 8)=false:=by simp [e]
  have k9:(d.kind == 9)=false:=by simp [e]
  have CN:=zH (fun w=>plainShape_any h v c h2 v2 c2 d W nw cw B nb cb w i0 i1 i2 hout hp hnw hnb mw mb (by omega))
  obtain ⟨⟨⟨x1,x2,x3⟩,xe⟩,hx⟩:∃ x,plainV d.kind h v c h2 v2 c2 d.p=x:=⟨_,rfl⟩
  have R:=zH (show r=((x1,x2,x3),xe) by rw [VV.out,← hx];simp [e])
  rw [hx] at CN
  simp only [retS] at CN
  clear VV hx e i0 i1 i2 hout hp hnw hnb mw mb
  go_enter Tryz.func107,Tryz.ntmps107
  go_wp2_with (first
   | (refine lB 23 (.tmp 4) w1.heap.size BA.out Tryz.underlying23 ?_)
   | (refine lB 23 (.tmp 5) w2.heap.size BB.out Tryz.underlying23 ?_)
   | (refine lB 87 (.tmp 3) w.heap.size BN.out Tryz.underlying87 ?_))
  clear hw_w1 hw_w2 hw_w3 hw_w4 n0
  refine (CN.out _).mono ?_
  rintro e w5 ⟨rfl,hb⟩
  replace FR:=zH (FR.out.fut hb)
  replace BN:=zH (BN.out.fut hb)
  replace BA:=zH (BA.out.fut hb)
  replace BB:=zH (BB.out.fut hb)
  replace BR:=zH (BR.out.fut hb)
  clear hb
  go_wp2_with (first
   | (refine sB 23 (.tmp 6) (.tmp 55) w3.heap.size (sN x1 x2 x3) BR.out ?_;intro w7 BR7 g7))
  refine rC BR7 Tryz.underlying23 ?_;exact ⟨by rw [R.out];rfl,(FR.out.away g7 (by omega)).out⟩
 ·clear hk
  have k1:(d.kind == 1)=false:=by simp [e]
  have k2:(d.kind == 2)=false:=by simp [e]
  have k3:(d.kind == 3)=false:=by simp [e]
  have k4:(d.kind == 4)=false:=by simp [e]
  have k5:(d.kind == 5)=false:=by simp [e]
  have k6:(d.kind == 6)=false:=by simp [e]
  have k7:(d.kind == 7)=false:=by simp [e]
  have k8:(d.kind == 8)=true:=by simp [e]
  have k9:(d.kind == 9)=false:=by simp [e]
  have CN:=zH (fun w=>plainShape_any h v c h2 v2 c2 d W nw cw B nb cb w i0 i1 i2 hout hp hnw hnb mw mb (by omega))
  obtain ⟨⟨⟨x1,x2,x3⟩,xe⟩,hx⟩:∃ x,plainV d.kind h v c h2 v2 c2 d.p=x:=⟨_,rfl⟩
  have R:=zH (show r=((x1,x2,x3),xe) by rw [VV.out,← hx];simp [e])
  rw [hx] at CN
  simp only [retS] at CN
  clear VV hx e i0 i1 i2 hout hp hnw hnb mw mb
  go_enter Tryz.func107,Tryz.ntmps107
  go_wp2_with (first
   | (refine lB 23 (.tmp 4) w1.heap.size BA.out Tryz.underlying23 ?_)
   | (refine lB 23 (.tmp 5) w2.heap.size BB.out Tryz.underlying23 ?_)
   | (refine lB 87 (.tmp 3) w.heap.size BN.out Tryz.underlying87 ?_))
  clear hw_w1 hw_w2 hw_w3 hw_w4 n0
  refine (CN.out _).mono ?_
  rintro e w5 ⟨rfl,hb⟩
  replace FR:=zH (FR.out.fut hb)
  replace BN:=zH (BN.out.fut hb)
  replace BA:=zH (BA.out.fut hb)
  replace BB:=zH (BB.out.fut hb)
  replace BR:=zH (BR.out.fut hb)
  clear hb
  go_wp2_with (first
   | (refine sB 23 (.tmp 6) (.tmp 55) w3.heap.size (sN x1 x2 x3) BR.out ?_;intro w7 BR7 g7))
  refine rC BR7 Tryz.underlying23 ?_;exact ⟨by rw [R.out];rfl,(FR.out.away g7 (by omega)).out⟩
 ·clear hk
  have k1:(d.kind == 1)=false:=by simp [e]
  have k2:(d.kind == 2)=false:=by simp [e]
  have k3:(d.kind == 3)=false:=by simp [e]
  have k4:(d.kind == 4)=false:=by simp [e]
  have k5:(d.kind == 5)=false:=by simp [e]
  have k6:(d.kind == 6)=false:=by simp [e]
  have k7:(d.kind == 7)=false:=by simp [e]
  have k8:(d.kind == 8)=false:=by simp [e]
  have k9:(d.kind == 9)=true:=by simp [e]
  have CN:=zH (fun w=>plainShape_any h v c h2 v2 c2 d W nw cw B nb cb w i0 i1 i2 hout hp hnw hnb mw mb (by omega))
  obtain ⟨⟨⟨x1,x2,x3⟩,xe⟩,hx⟩:∃ x,plainV d.kind h v c h2 v2 c2 d.p=x:=⟨_,rfl⟩
  have R:=zH (show r=((x1,x2,x3),xe) by rw [VV.out,← hx];simp [e])
  rw [hx] at CN
  simp only [retS] at CN
  clear VV hx e i0 i1 i2 hout hp hnw hnb mw mb
  go_enter Tryz.func107,Tryz.ntmps107
  go_wp2_with (first
   | (refine lB 23 (.tmp 4) w1.heap.size BA.out Tryz.underlying23 ?_)
   | (refine lB 23 (.tmp 5) w2.heap.size BB.out Tryz.underlying23 ?_)
   | (refine lB 87 (.tmp 3) w.heap.size BN.out Tryz.underlying87 ?_))
  clear hw_w1 hw_w2 hw_w3 hw_w4 n0
  refine (CN.out _).mono ?_
  rintro e w5 ⟨rfl,hb⟩
  replace FR:=zH (FR.out.fut hb)
  replace BN:=zH (BN.out.fut hb)
  replace BA:=zH (BA.out.fut hb)
  replace BB:=zH (BB.out.fut hb)
  replace BR:=zH (BR.out.fut hb)
  clear hb
  go_wp2_with (first
   | (refine sB 23 (.tmp 6) (.tmp 55) w3.heap.size (sN x1 x2 x3) BR.out ?_;intro w7 BR7 g7))
  refine rC BR7 Tryz.underlying23 ?_;exact ⟨by rw [R.out];rfl,(FR.out.away g7 (by omega)).out⟩
end Go.Proofs.YtppcjcigekoipaaGreat
