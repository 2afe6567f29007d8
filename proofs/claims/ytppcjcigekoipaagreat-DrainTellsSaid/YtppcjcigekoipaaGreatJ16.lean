/-
  The shape that a node makes (layers 18, 25): the document's Shape.
-/
import Derived.Deep.DeepCutAuto
import Derived.Deep.CutBlock
import Derived.Test.YtppcjcigekoipaaGreatJ11
import Derived.Test.YtppcjcigekoipaaGreatJ12
import Derived.Test.YtppcjcigekoipaaGreatJ13
set_option linter.unusedVariables false
set_option linter.unusedSimpArgs false
namespace Go.Proofs.YtppcjcigekoipaaGreat
open Go.RowKit Go.ChangeShapes Go.WideShapes
set_option maxRecDepth 100000
set_option maxHeartbeats 16000000 in
theorem rkshape_any_8 (h v c h2 v2 c2:Int) (d:Node) (W:Option Addr) (nw cw:Nat) (B:Option Addr) (nb cb:Nat) (w:World) (i0:InK .i64 h) (i1:InK .i64 v) (i2:InK .i64 c) (hout:InK .i64 d.out) (hp:InK .i64 d.p) (hnw:nw=d.w.length) (hnb:nb=d.bias.length) (mw:nw≤1048576) (mb:nb≤1048576) (e:d.kind=8) :
  Calls Tryz.prog 51 #[.agg (nN d.kind d.a d.b d.k d.s d.p d.out d.za d.zb W nw cw B nb cb d.qm d.qs d.qz d.rm d.rs d.rz d.lo d.hi),.agg (sN h v c),.agg (sN h2 v2 c2)] w fun e w'=>e=retS (shapeV h v c h2 v2 c2 d)∧Below w.heap.size w w':=by
 obtain ⟨r,hr⟩:∃ r,shapeV h v c h2 v2 c2 d=r:=⟨_,rfl⟩
 rw [hr]
 unfold shapeV at hr
 have VV:=zH hr.symm
 clear hr
 have FR:=zH (Far.refl w)
 obtain ⟨w1,hw_w1,BN,k_w1⟩:=nB w (nN d.kind d.a d.b d.k d.s d.p d.out d.za d.zb W nw cw B nb cb d.qm d.qs d.qz d.rm d.rs d.rz d.lo d.hi) 87
 replace FR:=zH (FR.out.fut k_w1)
 clear k_w1
 obtain ⟨w2,hw_w2,BA,k_w2⟩:=nB w1 (sN h v c) 23
 replace FR:=zH (FR.out.fut k_w2)
 replace BN:=zH (BN.out.fut k_w2)
 clear k_w2
 obtain ⟨w3,hw_w3,BB,k_w3⟩:=nB w2 (sN h2 v2 c2) 23
 replace FR:=zH (FR.out.fut k_w3)
 replace BN:=zH (BN.out.fut k_w3)
 replace BA:=zH (BA.out.fut k_w3)
 clear k_w3
 obtain ⟨w4,hw_w4,BR,k_w4⟩:=nB w3 (sN 0 0 0) 23
 replace FR:=zH (FR.out.fut k_w4)
 replace BN:=zH (BN.out.fut k_w4)
 replace BA:=zH (BA.out.fut k_w4)
 replace BB:=zH (BB.out.fut k_w4)
 clear k_w4
 have l1:w.heap.size < w1.heap.size:=by rw [← hw_w1];simp
 have l2:w1.heap.size < w2.heap.size:=by rw [← hw_w2];simp
 have l3:w2.heap.size < w3.heap.size:=by rw [← hw_w3];simp
 have l4:w3.heap.size < w4.heap.size:=by rw [← hw_w4];simp
 have n0:=BN.out.cell 0
 ·skip
  have k1:(d.kind == 1)=false:=by simp [e]
  have k2:(d.kind == 2)=false:=by simp [e]
  have k3:(d.kind == 3)=false:=by simp [e]
  have k4:(d.kind == 4)=false:=by simp [e]
  have k5:(d.kind == 5)=false:=by simp [e]
  have k6:(d.kind == 6)=false:=by simp [e]
  have k8:(d.kind == 8)=true:=by simp [e]
  have k9:(d.kind == 9)=false:=by simp [e]
  have kl:decide (d.kind < 1)=false:=by simp [e]
  have kg:decide (9 < d.kind)=false:=by simp [e]
  have RE:=zH (fun w=>relems_any h c v w i0 i1 i2)
  have EB:=zH (elems_bd (h:=h) (v:=v) (c:=c))
  have m0:=(elems_range h v c).1
  have V1:=zH (show r=plainV d.kind h v c h2 v2 c2 d.p by rw [VV.out];simp [e])
  have V1':=V1.out
  unfold plainV at V1'
  obtain ⟨m,hm⟩:∃ m,elems h v c=m:=⟨_,rfl⟩
  obtain ⟨eq,he⟩:∃ x,([h,v,c] == [h2,v2,c2])=x:=⟨_,rfl⟩
  have QE:=zH (fun w=>eq_shape w h v c h2 v2 c2)
  rw [hm,he] at V1'
  rw [hm] at RE EB m0
  rw [he] at QE
  replace V1:=zH V1'
  clear V1' hm he VV i0 i1 i2 hout hp hnw hnb mw mb
  by_cases c1:m=0
  ·have t1:(m == 0)=true:=by simp [c1]
   have R:=zH (show r=noS 5 by rw [V1.out,if_pos c1])
   clear c1 V1 m0 EB e
   go_enter Tryz.func51,Tryz.ntmps51
   go_wp2_with (first
    | (refine lB 23 (.tmp 4) w1.heap.size BA.out Tryz.underlying23 ?_))
   clear hw_w1 hw_w2 hw_w3 hw_w4 n0
   refine (RE.out _).mono ?_
   rintro e w5 ⟨rfl,hb⟩
   replace FR:=zH (FR.out.fut hb)
   replace BN:=zH (BN.out.fut hb)
   replace BA:=zH (BA.out.fut hb)
   replace BB:=zH (BB.out.fut hb)
   replace BR:=zH (BR.out.fut hb)
   clear hb
   have n0:=BN.out.cell 0
   go_upto_region 12 with (fail)
   go_wp2_with (first
    | (refine sB 23 (.tmp 6) (.tmp 75) w3.heap.size (sN 0 0 0) BR.out ?_;intro w7 BR7 g7))
   refine rC BR7 Tryz.underlying23 ?_;exact ⟨by rw [R.out];rfl,(FR.out.away g7 (by omega)).out⟩
  have t1:(m == 0)=false:=by simpa using c1
  have V2:=zH (show r=(if d.kind=6∧eq=false then noS 5 else if d.kind=8 then aroundV h v c d.p else if d.kind=9 then ((1,1,m),0) else ((h,v,c),0)) by rw [V1.out,if_neg c1])
  have eb:=EB.out c1
  clear V1 c1 m0 EB
  have V3:=zH (show r=(if d.p < 0 ∨ 4 < d.p then noS 2 else if elems (h+2*d.p) (v+2*d.p) c=0 then noS 5 else ((h+2*d.p,v+2*d.p,c),0)) by rw [V2.out];simp [e,aroundV])
  clear V2 e QE
  by_cases cp:d.p < 0
  ·have p1:decide (d.p < 0)=true:=decide_eq_true cp
   have R:=zH (show r=noS 2 by rw [V3.out,if_pos (.inl cp)])
   clear cp V3 eb
   go_enter Tryz.func51,Tryz.ntmps51
   go_wp2_with (first
    | (refine lB 23 (.tmp 4) w1.heap.size BA.out Tryz.underlying23 ?_))
   clear hw_w1 hw_w2 hw_w3 hw_w4 n0
   refine (RE.out _).mono ?_
   rintro e w5 ⟨rfl,hb⟩
   replace FR:=zH (FR.out.fut hb)
   replace BN:=zH (BN.out.fut hb)
   replace BA:=zH (BA.out.fut hb)
   replace BB:=zH (BB.out.fut hb)
   replace BR:=zH (BR.out.fut hb)
   clear hb
   have n0:=BN.out.cell 0
   have n5:=BN.out.cell 5
   go_upto_region 17 with (fail)
   go_wp2_with (first
    | (refine sB 23 (.tmp 6) (.tmp 93) w3.heap.size (sN 0 0 0) BR.out ?_;intro w7 BR7 g7))
   refine rC BR7 Tryz.underlying23 ?_;exact ⟨by rw [R.out];rfl,(FR.out.away g7 (by omega)).out⟩
  have p1:decide (d.p < 0)=false:=decide_eq_false cp
  have pp1:0≤d.p:=by omega
  clear cp
  by_cases cp:4 < d.p
  ·have p2:decide (4 < d.p)=true:=decide_eq_true cp
   have R:=zH (show r=noS 2 by rw [V3.out,if_pos (.inr cp)])
   clear cp V3 eb
   go_enter Tryz.func51,Tryz.ntmps51
   go_wp2_with (first
    | (refine lB 23 (.tmp 4) w1.heap.size BA.out Tryz.underlying23 ?_))
   clear hw_w1 hw_w2 hw_w3 hw_w4 n0
   refine (RE.out _).mono ?_
   rintro e w5 ⟨rfl,hb⟩
   replace FR:=zH (FR.out.fut hb)
   replace BN:=zH (BN.out.fut hb)
   replace BA:=zH (BA.out.fut hb)
   replace BB:=zH (BB.out.fut hb)
   replace BR:=zH (BR.out.fut hb)
   clear hb
   have n0:=BN.out.cell 0
   have n5:=BN.out.cell 5
   go_upto_region 17 with (fail)
   go_wp2_with (first
    | (refine sB 23 (.tmp 6) (.tmp 93) w3.heap.size (sN 0 0 0) BR.out ?_;intro w7 BR7 g7))
   refine rC BR7 Tryz.underlying23 ?_;exact ⟨by rw [R.out];rfl,(FR.out.away g7 (by omega)).out⟩
  have p2:decide (4 < d.p)=false:=decide_eq_false cp
  have pp2:d.p≤4:=by omega
  clear cp
  have R1:=zH (fun w=>relems_any (h+2*d.p) c (v+2*d.p) w (by rw [inK_i64];omega) (by rw [inK_i64];omega) (by rw [inK_i64];omega))
  have e1:IntKind.i64.wrap (2*d.p)=2*d.p:=IntWalk.i64_in _ (by omega)
  have e2:IntKind.i64.wrap (h+2*d.p)=h+2*d.p:=IntWalk.i64_in _ (by omega)
  have e3:IntKind.i64.wrap (v+2*d.p)=v+2*d.p:=IntWalk.i64_in _ (by omega)
  have V4:=zH (show r=(if elems (h+2*d.p) (v+2*d.p) c=0 then noS 5 else ((h+2*d.p,v+2*d.p,c),0)) by rw [V3.out,if_neg (by omega)])
  obtain ⟨y,hy⟩:∃ y,elems (h+2*d.p) (v+2*d.p) c=y:=⟨_,rfl⟩
  rw [hy] at V4 R1
  clear V3 hy eb pp1 pp2
  by_cases c3:y=0
  ·have t3:(y == 0)=true:=by simpa using c3
   have R:=zH (show r=noS 5 by rw [V4.out,if_pos c3])
   clear V4 c3
   go_enter Tryz.func51,Tryz.ntmps51
   go_wp2_with (first
    | (refine lB 23 (.tmp 4) w1.heap.size BA.out Tryz.underlying23 ?_))
   clear hw_w1 hw_w2 hw_w3 hw_w4 n0
   refine (RE.out _).mono ?_
   rintro e w5 ⟨rfl,hb⟩
   replace FR:=zH (FR.out.fut hb)
   replace BN:=zH (BN.out.fut hb)
   replace BA:=zH (BA.out.fut hb)
   replace BB:=zH (BB.out.fut hb)
   replace BR:=zH (BR.out.fut hb)
   clear hb
   have n0:=BN.out.cell 0
   have n5:=BN.out.cell 5
   have a0:=BA.out.cell 0
   have a1:=BA.out.cell 1
   have a2:=BA.out.cell 2
   have l5:w3.heap.size < w5.heap.size:=BR.out.lt
   obtain ⟨w6,hw_w6,BT,k_w6⟩:=nB w5 (sN 0 0 0) 23
   replace FR:=zH (FR.out.fut k_w6)
   replace BN:=zH (BN.out.fut k_w6)
   replace BA:=zH (BA.out.fut k_w6)
   replace BB:=zH (BB.out.fut k_w6)
   replace BR:=zH (BR.out.fut k_w6)
   clear k_w6
   go_upto_region 18 with (fail)
   go_wp2_with (first
    | (refine wpList_store_all rfl 23 (.tmp 8) (.tmp 108) rfl w5.heap.size (sN (h+2*d.p) (v+2*d.p) c) rfl rfl _ _ BT.out rfl (by kernel_rfl) (by simp [Value.oneCell']) ?_;intro w8 BT6 g6;have BR6:=zH (BR.out.away g6 (by omega));have FR6:=zH (FR.out.away g6 (by omega)))
    | (refine lB 23 (.tmp 8) w5.heap.size BT6 Tryz.underlying23 ?_))
   clear hw_w6 a0 a1 a2 n0 n5
   refine (R1.out _).mono ?_
   rintro e w9 ⟨rfl,hb⟩
   have BT5:=zH (BT6.fut hb)
   replace BR6:=zH (BR6.out.fut hb)
   replace FR6:=zH (FR6.out.fut hb)
   clear hb
   go_wp2_with (first
    | (refine sB 23 (.tmp 6) (.tmp 112) w3.heap.size (sN 0 0 0) BR6.out ?_;intro w7 BR7 g7))
   refine rC BR7 Tryz.underlying23 ?_;exact ⟨by rw [R.out];rfl,(FR6.out.away g7 (by omega)).out⟩
  have t3:(y == 0)=false:=by simpa using c3
  have R:=zH (show r=((h+2*d.p,v+2*d.p,c),0) by rw [V4.out,if_neg c3])
  clear V4 c3
  go_enter Tryz.func51,Tryz.ntmps51
  go_wp2_with (first
   | (refine lB 23 (.tmp 4) w1.heap.size BA.out Tryz.underlying23 ?_))
  clear hw_w1 hw_w2 hw_w3 hw_w4 n0
  refine (RE.out _).mono ?_
  rintro e w5 ⟨rfl,hb⟩
  replace FR:=zH (FR.out.fut hb)
  replace BN:=zH (BN.out.fut hb)
  replace BA:=zH (BA.out.fut hb)
  replace BB:=zH (BB.out.fut hb)
  replace BR:=zH (BR.out.fut hb)
  clear hb
  have n0:=BN.out.cell 0
  have n5:=BN.out.cell 5
  have a0:=BA.out.cell 0
  have a1:=BA.out.cell 1
  have a2:=BA.out.cell 2
  have l5:w3.heap.size < w5.heap.size:=BR.out.lt
  obtain ⟨w6,hw_w6,BT,k_w6⟩:=nB w5 (sN 0 0 0) 23
  replace FR:=zH (FR.out.fut k_w6)
  replace BN:=zH (BN.out.fut k_w6)
  replace BA:=zH (BA.out.fut k_w6)
  replace BB:=zH (BB.out.fut k_w6)
  replace BR:=zH (BR.out.fut k_w6)
  clear k_w6
  go_upto_region 18 with (fail)
  go_wp2_with (first
   | (refine wpList_store_all rfl 23 (.tmp 8) (.tmp 108) rfl w5.heap.size (sN (h+2*d.p) (v+2*d.p) c) rfl rfl _ _ BT.out rfl (by kernel_rfl) (by simp [Value.oneCell']) ?_;intro w8 BT6 g6;have BR6:=zH (BR.out.away g6 (by omega));have FR6:=zH (FR.out.away g6 (by omega)))
   | (refine lB 23 (.tmp 8) w5.heap.size BT6 Tryz.underlying23 ?_))
  clear hw_w6 a0 a1 a2 n0 n5
  refine (R1.out _).mono ?_
  rintro e w9 ⟨rfl,hb⟩
  have BT5:=zH (BT6.fut hb)
  replace BR6:=zH (BR6.out.fut hb)
  replace FR6:=zH (FR6.out.fut hb)
  clear hb
  go_wp2_with (first
   | (refine lB 23 (.tmp 8) w5.heap.size BT5.out Tryz.underlying23 ?_)
   | (refine wpList_store_all rfl 23 (.tmp 6) (.tmp 113) rfl w3.heap.size (sN (h+2*d.p) (v+2*d.p) c) rfl rfl _ _ BR6.out rfl (by kernel_rfl) (by simp [Value.oneCell']) ?_;intro w7 BR7 g7))
  refine rC BR7 Tryz.underlying23 ?_;exact ⟨by rw [R.out];rfl,(FR6.out.away g7 (by omega)).out⟩
end Go.Proofs.YtppcjcigekoipaaGreat
