/-
  The shape that a node makes (layers 18, 25): kinds.plainShape.
-/
import Derived.Test.YthjmghjfklkmbaaGreatJ08
set_option linter.unusedVariables false
set_option linter.unusedSimpArgs false
namespace Go.Proofs.YthjmghjfklkmbaaGreat
open Go.RowKit Go.ChangeShapes Go.WideShapes
set_option maxRecDepth 100000
set_option maxHeartbeats 8000000 in
theorem plainShape_any (h v c h2 v2 c2:Int) (d:Node) (W:Option Addr) (nw cw:Nat) (B:Option Addr) (nb cb:Nat) (w:World) (i0:InK .i64 h) (i1:InK .i64 v) (i2:InK .i64 c) (hout:InK .i64 d.out) (hp:InK .i64 d.p) (hnw:nw=d.w.length) (hnb:nb=d.bias.length) (mw:nw≤1048576) (mb:nb≤1048576) (hk:6≤d.kind∧d.kind≤9) :
  Calls Tryz.prog 95 #[.agg (nN d.kind d.a d.b d.k d.s d.p d.out d.za d.zb W nw cw B nb cb d.qm d.qs d.qz d.rm d.rs d.rz d.lo d.hi),.agg (sN h v c),.agg (sN h2 v2 c2)] w fun e w'=>e=retS (plainV d.kind h v c h2 v2 c2 d.p)∧Below w.heap.size w w':=by
 obtain ⟨r,hr⟩:∃ r,plainV d.kind h v c h2 v2 c2 d.p=r:=⟨_,rfl⟩
 rw [hr]
 unfold plainV at hr
 have RI:=zH (fun w=>shapeRight_any h c v w i0 i1 i2)
 have RE:=zH (fun w=>elems_any h c v w i0 i1 i2)
 have EB:=zH (elems_bd (h:=h) (v:=v) (c:=c))
 have m0:=(elems_range h v c).1
 obtain ⟨m,hm⟩:∃ m,elems h v c=m:=⟨_,rfl⟩
 obtain ⟨eq,he⟩:∃ x,([h,v,c] == [h2,v2,c2])=x:=⟨_,rfl⟩
 have QE:=zH (fun w=>eq_shape w h v c h2 v2 c2)
 rw [hm,he] at hr
 rw [hm] at RI RE EB m0
 rw [he] at QE
 have VV:=zH hr.symm
 clear hr hm he i0 i1 i2 hout hnw hnb mw mb
 have FR:=zH (Far.refl w)
 obtain ⟨w1,hw_w1,BN,k_w1⟩:=nB w (nN d.kind d.a d.b d.k d.s d.p d.out d.za d.zb W nw cw B nb cb d.qm d.qs d.qz d.rm d.rs d.rz d.lo d.hi) 70
 replace FR:=zH (FR.out.fut k_w1)
 clear k_w1
 obtain ⟨w2,hw_w2,BA,k_w2⟩:=nB w1 (sN h v c) 23
 replace FR:=zH (FR.out.fut k_w2)
 replace BN:=zH (BN.out.fut k_w2)
 clear k_w2
 obtain ⟨w3,hw_w3,BB,k_w3⟩:=nB w2 (sN h2 v2 c2) 23
 replace FR:=zH (FR.out.fut k_w3)
 replace BN:=zH (BN.out.fut k_w3)
 replace BA:=zH (BA.out.fut k_w3)
 clear k_w3
 obtain ⟨w4,hw_w4,BR,k_w4⟩:=nB w3 (sN 0 0 0) 23
 replace FR:=zH (FR.out.fut k_w4)
 replace BN:=zH (BN.out.fut k_w4)
 replace BA:=zH (BA.out.fut k_w4)
 replace BB:=zH (BB.out.fut k_w4)
 clear k_w4
 have l1:w.heap.size < w1.heap.size:=by rw [← hw_w1];simp
 have l2:w1.heap.size < w2.heap.size:=by rw [← hw_w2];simp
 have l3:w2.heap.size < w3.heap.size:=by rw [← hw_w3];simp
 have l4:w3.heap.size < w4.heap.size:=by rw [← hw_w4];simp
 by_cases c1:m=0
 ·have t1:decide (0 < m)=false:=by simp;omega
  have R:=zH (show r=noS 5 by rw [VV.out,if_pos c1])
  clear c1 VV m0 hk hp EB
  go_enter Tryz.func95,Tryz.ntmps95
  go_wp2_with (first
   | (refine lB 23 (.tmp 4) w1.heap.size BA.out Tryz.underlying23 ?_))
  clear hw_w1 hw_w2 hw_w3 hw_w4
  refine (RI.out _).mono ?_
  rintro e w5 ⟨rfl,hb⟩
  replace FR:=zH (FR.out.fut hb)
  replace BN:=zH (BN.out.fut hb)
  replace BA:=zH (BA.out.fut hb)
  replace BB:=zH (BB.out.fut hb)
  replace BR:=zH (BR.out.fut hb)
  clear hb
  go_wp2_with (first
   | (refine sB 23 (.tmp 6) (.tmp 11) w3.heap.size (sN 0 0 0) BR.out ?_;intro w7 BR7 g7))
  refine rC BR7 Tryz.underlying23 ?_;exact ⟨by rw [R.out];rfl,(FR.out.away g7 (by omega)).out⟩
 have t1:decide (0 < m)=true:=by simp;omega
 have V2:=zH (show r=(if d.kind=6∧eq=false then noS 5 else if d.kind=8 then aroundV h v c d.p else if d.kind=9 then ((1,1,m),0) else ((h,v,c),0)) by rw [VV.out,if_neg c1])
 have AR:=zH (fun w=>karound_any h v c d.p w (EB.out c1) hp)
 clear VV c1 m0 hp EB
 rcases (show d.kind=6 ∨ d.kind=7 ∨ d.kind=8 ∨ d.kind=9 by omega) with e|e|e|e
 ·clear hk
  have k6:(d.kind == 6)=true:=by simp [e]
  have k8:(d.kind == 8)=false:=by simp [e]
  have k9:(d.kind == 9)=false:=by simp [e]
  cases eq
  case false =>
   have R:=zH (show r=noS 5 by rw [V2.out];simp [e])
   clear V2 e AR RE
   go_enter Tryz.func95,Tryz.ntmps95
   go_wp2_with (first
    | (refine lB 23 (.tmp 4) w1.heap.size BA.out Tryz.underlying23 ?_))
   clear hw_w1 hw_w2 hw_w3 hw_w4
   refine (RI.out _).mono ?_
   rintro e w5 ⟨rfl,hb⟩
   replace FR:=zH (FR.out.fut hb)
   replace BN:=zH (BN.out.fut hb)
   replace BA:=zH (BA.out.fut hb)
   replace BB:=zH (BB.out.fut hb)
   replace BR:=zH (BR.out.fut hb)
   clear hb
   have n0:=BN.out.cell 0
   go_wp2_with (first
    | (refine lB 23 (.tmp 4) w1.heap.size BA.out Tryz.underlying23 ?_)
    | (refine lB 23 (.tmp 5) w2.heap.size BB.out Tryz.underlying23 ?_)
    | (refine wpList_neq_agg 23 _ (.tmp 16) (.tmp 17) rfl _ _ rfl rfl (by rfl) (by kernel_rfl) _ (QE.out _) ?_;try simp only [Bool.not_true,Bool.not_false])
    | (refine sB 23 (.tmp 6) (.tmp 19) w3.heap.size (sN 0 0 0) BR.out ?_;intro w7 BR7 g7))
   refine rC BR7 Tryz.underlying23 ?_;exact ⟨by rw [R.out];rfl,(FR.out.away g7 (by omega)).out⟩
  case true =>
   have R:=zH (show r=((h,v,c),0) by rw [V2.out];simp [e])
   clear V2 e AR RE
   go_enter Tryz.func95,Tryz.ntmps95
   go_wp2_with (first
    | (refine lB 23 (.tmp 4) w1.heap.size BA.out Tryz.underlying23 ?_))
   clear hw_w1 hw_w2 hw_w3 hw_w4
   refine (RI.out _).mono ?_
   rintro e w5 ⟨rfl,hb⟩
   replace FR:=zH (FR.out.fut hb)
   replace BN:=zH (BN.out.fut hb)
   replace BA:=zH (BA.out.fut hb)
   replace BB:=zH (BB.out.fut hb)
   replace BR:=zH (BR.out.fut hb)
   clear hb
   have n0:=BN.out.cell 0
   go_wp2_with (first
    | (refine lB 23 (.tmp 4) w1.heap.size BA.out Tryz.underlying23 ?_)
    | (refine lB 23 (.tmp 5) w2.heap.size BB.out Tryz.underlying23 ?_)
    | (refine wpList_neq_agg 23 _ (.tmp 16) (.tmp 17) rfl _ _ rfl rfl (by rfl) (by kernel_rfl) _ (QE.out _) ?_;try simp only [Bool.not_true,Bool.not_false])
    | (refine sB 23 (.tmp 6) (.tmp 33) w3.heap.size (sN h v c) BR.out ?_;intro w7 BR7 g7))
   refine rC BR7 Tryz.underlying23 ?_;exact ⟨by rw [R.out];rfl,(FR.out.away g7 (by omega)).out⟩
 ·clear hk
  have k6:(d.kind == 6)=false:=by simp [e]
  have k8:(d.kind == 8)=false:=by simp [e]
  have k9:(d.kind == 9)=false:=by simp [e]
  have R:=zH (show r=((h,v,c),0) by rw [V2.out];simp [e])
  clear V2 e AR RE QE
  go_enter Tryz.func95,Tryz.ntmps95
  go_wp2_with (first
   | (refine lB 23 (.tmp 4) w1.heap.size BA.out Tryz.underlying23 ?_))
  clear hw_w1 hw_w2 hw_w3 hw_w4
  refine (RI.out _).mono ?_
  rintro e w5 ⟨rfl,hb⟩
  replace FR:=zH (FR.out.fut hb)
  replace BN:=zH (BN.out.fut hb)
  replace BA:=zH (BA.out.fut hb)
  replace BB:=zH (BB.out.fut hb)
  replace BR:=zH (BR.out.fut hb)
  clear hb
  have n0:=BN.out.cell 0
  go_wp2_with (first
   | (refine lB 23 (.tmp 4) w1.heap.size BA.out Tryz.underlying23 ?_)
   | (refine sB 23 (.tmp 6) (.tmp 33) w3.heap.size (sN h v c) BR.out ?_;intro w7 BR7 g7))
  refine rC BR7 Tryz.underlying23 ?_;exact ⟨by rw [R.out];rfl,(FR.out.away g7 (by omega)).out⟩
 ·clear hk
  have k6:(d.kind == 6)=false:=by simp [e]
  have k8:(d.kind == 8)=true:=by simp [e]
  have k9:(d.kind == 9)=false:=by simp [e]
  obtain ⟨⟨⟨x1,x2,x3⟩,xe⟩,hx⟩:∃ x,aroundV h v c d.p=x:=⟨_,rfl⟩
  rw [hx] at V2 AR
  simp only [retS] at AR
  have R:=zH (show r=((x1,x2,x3),xe) by rw [V2.out];simp [e])
  clear V2 e RE QE hx
  go_enter Tryz.func95,Tryz.ntmps95
  go_wp2_with (first
   | (refine lB 23 (.tmp 4) w1.heap.size BA.out Tryz.underlying23 ?_))
  clear hw_w1 hw_w2 hw_w3 hw_w4
  refine (RI.out _).mono ?_
  rintro e w5 ⟨rfl,hb⟩
  replace FR:=zH (FR.out.fut hb)
  replace BN:=zH (BN.out.fut hb)
  replace BA:=zH (BA.out.fut hb)
  replace BB:=zH (BB.out.fut hb)
  replace BR:=zH (BR.out.fut hb)
  clear hb
  have n0:=BN.out.cell 0
  have n5:=BN.out.cell 5
  go_wp2_with (first
   | (refine lB 23 (.tmp 4) w1.heap.size BA.out Tryz.underlying23 ?_))
  clear n0 n5
  refine (AR.out _).mono ?_
  rintro e w6 ⟨rfl,hb⟩
  replace FR:=zH (FR.out.fut hb)
  replace BN:=zH (BN.out.fut hb)
  replace BA:=zH (BA.out.fut hb)
  replace BB:=zH (BB.out.fut hb)
  replace BR:=zH (BR.out.fut hb)
  clear hb
  go_wp2_with (first
   | (refine sB 23 (.tmp 6) (.tmp 26) w3.heap.size (sN x1 x2 x3) BR.out ?_;intro w7 BR7 g7))
  refine rC BR7 Tryz.underlying23 ?_;exact ⟨by rw [R.out];rfl,(FR.out.away g7 (by omega)).out⟩
 ·clear hk
  have k6:(d.kind == 6)=false:=by simp [e]
  have k8:(d.kind == 8)=false:=by simp [e]
  have k9:(d.kind == 9)=true:=by simp [e]
  have R:=zH (show r=((1,1,m),0) by rw [V2.out];simp [e])
  clear V2 e AR QE
  go_enter Tryz.func95,Tryz.ntmps95
  go_wp2_with (first
   | (refine lB 23 (.tmp 4) w1.heap.size BA.out Tryz.underlying23 ?_))
  clear hw_w1 hw_w2 hw_w3 hw_w4
  refine (RI.out _).mono ?_
  rintro e w5 ⟨rfl,hb⟩
  replace FR:=zH (FR.out.fut hb)
  replace BN:=zH (BN.out.fut hb)
  replace BA:=zH (BA.out.fut hb)
  replace BB:=zH (BB.out.fut hb)
  replace BR:=zH (BR.out.fut hb)
  clear hb
  have n0:=BN.out.cell 0
  go_wp2_with (first
   | (refine lB 23 (.tmp 4) w1.heap.size BA.out Tryz.underlying23 ?_))
  clear n0
  refine (RE.out _).mono ?_
  rintro e w6 ⟨rfl,hb⟩
  replace FR:=zH (FR.out.fut hb)
  replace BN:=zH (BN.out.fut hb)
  replace BA:=zH (BA.out.fut hb)
  replace BB:=zH (BB.out.fut hb)
  replace BR:=zH (BR.out.fut hb)
  clear hb
  go_wp2_with (first
   | (refine sB 23 (.tmp 6) (.tmp 32) w3.heap.size (sN 1 1 m) BR.out ?_;intro w7 BR7 g7))
  refine rC BR7 Tryz.underlying23 ?_;exact ⟨by rw [R.out];rfl,(FR.out.away g7 (by omega)).out⟩
end Go.Proofs.YthjmghjfklkmbaaGreat
