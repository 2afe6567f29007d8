/-
  The shape that a node makes (layers 18, 25): the document's Shape.
-/
import Derived.Deep.DeepCutAuto
import Derived.Deep.CutBlock
import Derived.Test.YtppcjcigekoipaaGreatJ11
import Derived.Test.YtppcjcigekoipaaGreatJ12
import Derived.Test.YtppcjcigekoipaaGreatJ13
set_option linter.unusedVariables false
set_option linter.unusedSimpArgs false
namespace Go.Proofs.YtppcjcigekoipaaGreat
open Go.RowKit Go.ChangeShapes Go.WideShapes
set_option maxRecDepth 100000
set_option maxHeartbeats 16000000 in
theorem rkshape_any_6 (h v c h2 v2 c2:Int) (d:Node) (W:Option Addr) (nw cw:Nat) (B:Option Addr) (nb cb:Nat) (w:World) (i0:InK .i64 h) (i1:InK .i64 v) (i2:InK .i64 c) (hout:InK .i64 d.out) (hp:InK .i64 d.p) (hnw:nw=d.w.length) (hnb:nb=d.bias.length) (mw:nw≤1048576) (mb:nb≤1048576) (e:d.kind=6) :
  Calls Tryz.prog 51 #[.agg (nN d.kind d.a d.b d.k d.s d.p d.out d.za d.zb W nw cw B nb cb d.qm d.qs d.qz d.rm d.rs d.rz d.lo d.hi),.agg (sN h v c),.agg (sN h2 v2 c2)] w fun e w'=>e=retS (shapeV h v c h2 v2 c2 d)∧Below w.heap.size w w':=by
 obtain ⟨r,hr⟩:∃ r,shapeV h v c h2 v2 c2 d=r:=⟨_,rfl⟩
 rw [hr]
 unfold shapeV at hr
 have VV:=zH hr.symm
 clear hr
 have FR:=zH (Far.refl w)
 obtain ⟨w1,hw_w1,BN,k_w1⟩:=nB w (nN d.kind d.a d.b d.k d.s d.p d.out d.za d.zb W nw cw B nb cb d.qm d.qs d.qz d.rm d.rs d.rz d.lo d.hi) 87
 replace FR:=zH (FR.out.fut k_w1)
 clear k_w1
 obtain ⟨w2,hw_w2,BA,k_w2⟩:=nB w1 (sN h v c) 23
 replace FR:=zH (FR.out.fut k_w2)
 replace BN:=zH (BN.out.fut k_w2)
 clear k_w2
 obtain ⟨w3,hw_w3,BB,k_w3⟩:=nB w2 (sN h2 v2 c2) 23
 replace FR:=zH (FR.out.fut k_w3)
 replace BN:=zH (BN.out.fut k_w3)
 replace BA:=zH (BA.out.fut k_w3)
 clear k_w3
 obtain ⟨w4,hw_w4,BR,k_w4⟩:=nB w3 (sN 0 0 0) 23
 replace FR:=zH (FR.out.fut k_w4)
 replace BN:=zH (BN.out.fut k_w4)
 replace BA:=zH (BA.out.fut k_w4)
 replace BB:=zH (BB.out.fut k_w4)
 clear k_w4
 have l1:w.heap.size < w1.heap.size:=by rw [← hw_w1];simp
 have l2:w1.heap.size < w2.heap.size:=by rw [← hw_w2];simp
 have l3:w2.heap.size < w3.heap.size:=by rw [← hw_w3];simp
 have l4:w3.heap.size < w4.heap.size:=by rw [← hw_w4];simp
 have n0:=BN.out.cell 0
 ·skip
  have k1:(d.kind == 1)=false:=by simp [e]
  have k2:(d.kind == 2)=false:=by simp [e]
  have k3:(d.kind == 3)=false:=by simp [e]
  have k4:(d.kind == 4)=false:=by simp [e]
  have k5:(d.kind == 5)=false:=by simp [e]
  have k6:(d.kind == 6)=true:=by simp [e]
  have k8:(d.kind == 8)=false:=by simp [e]
  have k9:(d.kind == 9)=false:=by simp [e]
  have kl:decide (d.kind < 1)=false:=by simp [e]
  have kg:decide (9 < d.kind)=false:=by simp [e]
  have RE:=zH (fun w=>relems_any h c v w i0 i1 i2)
  have EB:=zH (elems_bd (h:=h) (v:=v) (c:=c))
  have m0:=(elems_range h v c).1
  have V1:=zH (show r=plainV d.kind h v c h2 v2 c2 d.p by rw [VV.out];simp [e])
  have V1':=V1.out
  unfold plainV at V1'
  obtain ⟨m,hm⟩:∃ m,elems h v c=m:=⟨_,rfl⟩
  obtain ⟨eq,he⟩:∃ x,([h,v,c] == [h2,v2,c2])=x:=⟨_,rfl⟩
  have QE:=zH (fun w=>eq_shape w h v c h2 v2 c2)
  rw [hm,he] at V1'
  rw [hm] at RE EB m0
  rw [he] at QE
  replace V1:=zH V1'
  clear V1' hm he VV i0 i1 i2 hout hp hnw hnb mw mb
  by_cases c1:m=0
  ·have t1:(m == 0)=true:=by simp [c1]
   have R:=zH (show r=noS 5 by rw [V1.out,if_pos c1])
   clear c1 V1 m0 EB e
   go_enter Tryz.func51,Tryz.ntmps51
   go_wp2_with (first
    | (refine lB 23 (.tmp 4) w1.heap.size BA.out Tryz.underlying23 ?_))
   clear hw_w1 hw_w2 hw_w3 hw_w4 n0
   refine (RE.out _).mono ?_
   rintro e w5 ⟨rfl,hb⟩
   replace FR:=zH (FR.out.fut hb)
   replace BN:=zH (BN.out.fut hb)
   replace BA:=zH (BA.out.fut hb)
   replace BB:=zH (BB.out.fut hb)
   replace BR:=zH (BR.out.fut hb)
   clear hb
   have n0:=BN.out.cell 0
   go_upto_region 12 with (fail)
   go_wp2_with (first
    | (refine sB 23 (.tmp 6) (.tmp 75) w3.heap.size (sN 0 0 0) BR.out ?_;intro w7 BR7 g7))
   refine rC BR7 Tryz.underlying23 ?_;exact ⟨by rw [R.out];rfl,(FR.out.away g7 (by omega)).out⟩
  have t1:(m == 0)=false:=by simpa using c1
  have V2:=zH (show r=(if d.kind=6∧eq=false then noS 5 else if d.kind=8 then aroundV h v c d.p else if d.kind=9 then ((1,1,m),0) else ((h,v,c),0)) by rw [V1.out,if_neg c1])
  have eb:=EB.out c1
  clear V1 c1 m0 EB
  cases eq
  case false =>
   have R:=zH (show r=noS 5 by rw [V2.out];simp [e])
   clear V2 e eb
   go_enter Tryz.func51,Tryz.ntmps51
   go_wp2_with (first
    | (refine lB 23 (.tmp 4) w1.heap.size BA.out Tryz.underlying23 ?_))
   clear hw_w1 hw_w2 hw_w3 hw_w4 n0
   refine (RE.out _).mono ?_
   rintro e w5 ⟨rfl,hb⟩
   replace FR:=zH (FR.out.fut hb)
   replace BN:=zH (BN.out.fut hb)
   replace BA:=zH (BA.out.fut hb)
   replace BB:=zH (BB.out.fut hb)
   replace BR:=zH (BR.out.fut hb)
   clear hb
   have n0:=BN.out.cell 0
   have a0:=BA.out.cell 0
   have b0:=BB.out.cell 0
   have a1:=BA.out.cell 1
   have b1:=BB.out.cell 1
   have a2:=BA.out.cell 2
   have b2:=BB.out.cell 2
   go_upto_region 12 with (refine wpList_neq_agg 23 _ (.tmp 70) (.tmp 71) rfl _ _ rfl rfl (by rfl) (by kernel_rfl) _ (QE.out _) ?_;try simp only [Bool.not_true,Bool.not_false])
   clear a0 a1 a2 b0 b1 b2 n0
   go_wp2_with (first
    | (refine lB 23 (.tmp 4) w1.heap.size BA.out Tryz.underlying23 ?_)
    | (refine sB 23 (.tmp 6) (.tmp 75) w3.heap.size (sN 0 0 0) BR.out ?_;intro w7 BR7 g7))
   refine rC BR7 Tryz.underlying23 ?_;exact ⟨by rw [R.out];rfl,(FR.out.away g7 (by omega)).out⟩
  case true =>
   have R:=zH (show r=((h,v,c),0) by rw [V2.out];simp [e])
   clear V2 e eb
   go_enter Tryz.func51,Tryz.ntmps51
   go_wp2_with (first
    | (refine lB 23 (.tmp 4) w1.heap.size BA.out Tryz.underlying23 ?_))
   clear hw_w1 hw_w2 hw_w3 hw_w4 n0
   refine (RE.out _).mono ?_
   rintro e w5 ⟨rfl,hb⟩
   replace FR:=zH (FR.out.fut hb)
   replace BN:=zH (BN.out.fut hb)
   replace BA:=zH (BA.out.fut hb)
   replace BB:=zH (BB.out.fut hb)
   replace BR:=zH (BR.out.fut hb)
   clear hb
   have n0:=BN.out.cell 0
   have a0:=BA.out.cell 0
   have b0:=BB.out.cell 0
   have a1:=BA.out.cell 1
   have b1:=BB.out.cell 1
   have a2:=BA.out.cell 2
   have b2:=BB.out.cell 2
   go_upto_region 22 with (refine wpList_neq_agg 23 _ (.tmp 70) (.tmp 71) rfl _ _ rfl rfl (by rfl) (by kernel_rfl) _ (QE.out _) ?_;try simp only [Bool.not_true,Bool.not_false])
   clear a0 a1 a2 b0 b1 b2 n0
   go_wp2_with (first
    | (refine lB 23 (.tmp 4) w1.heap.size BA.out Tryz.underlying23 ?_)
    | (refine sB 23 (.tmp 6) (.tmp 114) w3.heap.size (sN h v c) BR.out ?_;intro w7 BR7 g7))
   refine rC BR7 Tryz.underlying23 ?_;exact ⟨by rw [R.out];rfl,(FR.out.away g7 (by omega)).out⟩
set_option maxHeartbeats 16000000 in
theorem rkshape_any_7 (h v c h2 v2 c2:Int) (d:Node) (W:Option Addr) (nw cw:Nat) (B:Option Addr) (nb cb:Nat) (w:World) (i0:InK .i64 h) (i1:InK .i64 v) (i2:InK .i64 c) (hout:InK .i64 d.out) (hp:InK .i64 d.p) (hnw:nw=d.w.length) (hnb:nb=d.bias.length) (mw:nw≤1048576) (mb:nb≤1048576) (e:d.kind=7) :
  Calls Tryz.prog 51 #[.agg (nN d.kind d.a d.b d.k d.s d.p d.out d.za d.zb W nw cw B nb cb d.qm d.qs d.qz d.rm d.rs d.rz d.lo d.hi),.agg (sN h v c),.agg (sN h2 v2 c2)] w fun e w'=>e=retS (shapeV h v c h2 v2 c2 d)∧Below w.heap.size w w':=by
 obtain ⟨r,hr⟩:∃ r,shapeV h v c h2 v2 c2 d=r:=⟨_,rfl⟩
 rw [hr]
 unfold shapeV at hr
 have VV:=zH hr.symm
 clear hr
 have FR:=zH (Far.refl w)
 obtain ⟨w1,hw_w1,BN,k_w1⟩:=nB w (nN d.kind d.a d.b d.k d.s d.p d.out d.za d.zb W nw cw B nb cb d.qm d.qs d.qz d.rm d.rs d.rz d.lo d.hi) 87
 replace FR:=zH (FR.out.fut k_w1)
 clear k_w1
 obtain ⟨w2,hw_w2,BA,k_w2⟩:=nB w1 (sN h v c) 23
 replace FR:=zH (FR.out.fut k_w2)
 replace BN:=zH (BN.out.fut k_w2)
 clear k_w2
 obtain ⟨w3,hw_w3,BB,k_w3⟩:=nB w2 (sN h2 v2 c2) 23
 replace FR:=zH (FR.out.fut k_w3)
 replace BN:=zH (BN.out.fut k_w3)
 replace BA:=zH (BA.out.fut k_w3)
 clear k_w3
 obtain ⟨w4,hw_w4,BR,k_w4⟩:=nB w3 (sN 0 0 0) 23
 replace FR:=zH (FR.out.fut k_w4)
 replace BN:=zH (BN.out.fut k_w4)
 replace BA:=zH (BA.out.fut k_w4)
 replace BB:=zH (BB.out.fut k_w4)
 clear k_w4
 have l1:w.heap.size < w1.heap.size:=by rw [← hw_w1];simp
 have l2:w1.heap.size < w2.heap.size:=by rw [← hw_w2];simp
 have l3:w2.heap.size < w3.heap.size:=by rw [← hw_w3];simp
 have l4:w3.heap.size < w4.heap.size:=by rw [← hw_w4];simp
 have n0:=BN.out.cell 0
 ·skip
  have k1:(d.kind == 1)=false:=by simp [e]
  have k2:(d.kind == 2)=false:=by simp [e]
  have k3:(d.kind == 3)=false:=by simp [e]
  have k4:(d.kind == 4)=false:=by simp [e]
  have k5:(d.kind == 5)=false:=by simp [e]
  have k6:(d.kind == 6)=false:=by simp [e]
  have k8:(d.kind == 8)=false:=by simp [e]
  have k9:(d.kind == 9)=false:=by simp [e]
  have kl:decide (d.kind < 1)=false:=by simp [e]
  have kg:decide (9 < d.kind)=false:=by simp [e]
  have RE:=zH (fun w=>relems_any h c v w i0 i1 i2)
  have EB:=zH (elems_bd (h:=h) (v:=v) (c:=c))
  have m0:=(elems_range h v c).1
  have V1:=zH (show r=plainV d.kind h v c h2 v2 c2 d.p by rw [VV.out];simp [e])
  have V1':=V1.out
  unfold plainV at V1'
  obtain ⟨m,hm⟩:∃ m,elems h v c=m:=⟨_,rfl⟩
  obtain ⟨eq,he⟩:∃ x,([h,v,c] == [h2,v2,c2])=x:=⟨_,rfl⟩
  have QE:=zH (fun w=>eq_shape w h v c h2 v2 c2)
  rw [hm,he] at V1'
  rw [hm] at RE EB m0
  rw [he] at QE
  replace V1:=zH V1'
  clear V1' hm he VV i0 i1 i2 hout hp hnw hnb mw mb
  by_cases c1:m=0
  ·have t1:(m == 0)=true:=by simp [c1]
   have R:=zH (show r=noS 5 by rw [V1.out,if_pos c1])
   clear c1 V1 m0 EB e
   go_enter Tryz.func51,Tryz.ntmps51
   go_wp2_with (first
    | (refine lB 23 (.tmp 4) w1.heap.size BA.out Tryz.underlying23 ?_))
   clear hw_w1 hw_w2 hw_w3 hw_w4 n0
   refine (RE.out _).mono ?_
   rintro e w5 ⟨rfl,hb⟩
   replace FR:=zH (FR.out.fut hb)
   replace BN:=zH (BN.out.fut hb)
   replace BA:=zH (BA.out.fut hb)
   replace BB:=zH (BB.out.fut hb)
   replace BR:=zH (BR.out.fut hb)
   clear hb
   have n0:=BN.out.cell 0
   go_upto_region 12 with (fail)
   go_wp2_with (first
    | (refine sB 23 (.tmp 6) (.tmp 75) w3.heap.size (sN 0 0 0) BR.out ?_;intro w7 BR7 g7))
   refine rC BR7 Tryz.underlying23 ?_;exact ⟨by rw [R.out];rfl,(FR.out.away g7 (by omega)).out⟩
  have t1:(m == 0)=false:=by simpa using c1
  have V2:=zH (show r=(if d.kind=6∧eq=false then noS 5 else if d.kind=8 then aroundV h v c d.p else if d.kind=9 then ((1,1,m),0) else ((h,v,c),0)) by rw [V1.out,if_neg c1])
  have eb:=EB.out c1
  clear V1 c1 m0 EB
  have R:=zH (show r=((h,v,c),0) by rw [V2.out];simp [e])
  clear V2 e QE eb
  go_enter Tryz.func51,Tryz.ntmps51
  go_wp2_with (first
   | (refine lB 23 (.tmp 4) w1.heap.size BA.out Tryz.underlying23 ?_))
  clear hw_w1 hw_w2 hw_w3 hw_w4 n0
  refine (RE.out _).mono ?_
  rintro e w5 ⟨rfl,hb⟩
  replace FR:=zH (FR.out.fut hb)
  replace BN:=zH (BN.out.fut hb)
  replace BA:=zH (BA.out.fut hb)
  replace BB:=zH (BB.out.fut hb)
  replace BR:=zH (BR.out.fut hb)
  clear hb
  have n0:=BN.out.cell 0
  go_upto_region 22 with (fail)
  go_wp2_with (first
   | (refine lB 23 (.tmp 4) w1.heap.size BA.out Tryz.underlying23 ?_)
   | (refine sB 23 (.tmp 6) (.tmp 114) w3.heap.size (sN h v c) BR.out ?_;intro w7 BR7 g7))
  refine rC BR7 Tryz.underlying23 ?_;exact ⟨by rw [R.out];rfl,(FR.out.away g7 (by omega)).out⟩
end Go.Proofs.YtppcjcigekoipaaGreat
