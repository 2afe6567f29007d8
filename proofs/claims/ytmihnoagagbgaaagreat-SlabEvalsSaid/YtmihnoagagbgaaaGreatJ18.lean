/-
  The shape that a node makes (layers 18, 25): the document's Shape.
  The shape that a node makes (layers 18, 25): the document's Shape.
-/
import Derived.Deep.DeepCutAuto
import Derived.Deep.CutBlock
import Derived.Test.YtmihnoagagbgaaaGreatJ11
import Derived.Test.YtmihnoagagbgaaaGreatJ12
import Derived.Test.YtmihnoagagbgaaaGreatJ16
set_option linter.unusedVariables false
set_option linter.unusedSimpArgs false
set_option maxRecDepth 100000
set_option maxHeartbeats 16000000
namespace Go.Proofs.YtmihnoagagbgaaaGreat
open Go.RowKit Go.ChangeShapes Go.WideShapes Tryz
set_option maxRecDepth 100000
set_option maxHeartbeats 16000000
theorem ld (h v c h2 v2 c2:Int) (d:af) (W:QA) (nw cw:Nat) (B:QA) (nb cb:Nat) (w:World) (i0:InK .i64 h) (i1:InK .i64 v) (i2:InK .i64 c) (hout:InK .i64 d.out) (hp:InK .i64 d.p) (hnw:nw=d.w.length) (hnb:nb=d.bias.length) (mw:nw≤1048576) (mb:nb≤1048576) (e:d.kind=6) :
  Calls prog 28 #[.agg (nD d W nw cw B nb cb),.agg (sN h v c),.agg (sN h2 v2 c2)] w fun e w'=>e=aL (aD h v c h2 v2 c2 d)∧Below w w w':=by
 obtain ⟨r,hr⟩:∃ r,aD h v c h2 v2 c2 d=r:=⟨_,rfl⟩
 rw [hr]
 unfold aD at hr
 have VV:=zH hr.symm
 clear hr
 have FR:=zW w
 obtain ⟨w1,w2,w3,w4,yw1,yw2,yw3,yw4,l1,l2,l3,l4,BN,BA,BB,BR,yk4⟩:=bk4 w (nD d W nw cw B nb cb) 42 (sN h v c) 24 (sN h2 v2 c2) 24 (sN 0 0 0) 24
 replace FR:=zF yk4 FR
 clear yk4
 have n0:=BN.o.cell 0
 ·skip
  have k1:(d.kind == 1)=false:=by simp [e]
  have k2:(d.kind == 2)=false:=by simp [e]
  have k3:(d.kind == 3)=false:=by simp [e]
  have k4:(d.kind == 4)=false:=by simp [e]
  have k5:(d.kind == 5)=false:=by simp [e]
  have k6:(d.kind == 6)=true:=by simp [e]
  have k8:(d.kind == 8)=false:=by simp [e]
  have k9:(d.kind == 9)=false:=by simp [e]
  have kl:decide (d.kind < 1)=false:=by simp [e]
  have kg:decide (9 < d.kind)=false:=by simp [e]
  have RE:=zH (fun w=>aQ h c v w i0 i1 i2)
  have EB:=zH (dL (h:=h) (v:=v) (c:=c))
  have m0:=(aC h v c).1
  have V1:=zH (show r=bJ d.kind h v c h2 v2 c2 d.p by rw [VV.o];simp [e])
  have V1':=V1.o
  unfold bJ at V1'
  obtain ⟨m,hm⟩:∃ m,ab h v c=m:=⟨_,rfl⟩
  obtain ⟨eq,he⟩:∃ x,([h,v,c] == [h2,v2,c2])=x:=⟨_,rfl⟩
  have QE:=zH (fun w=>eo w h v c h2 v2 c2)
  rw [hm,he] at V1'
  rw [hm] at RE EB m0
  rw [he] at QE
  replace V1:=zH V1'
  clear V1' hm he VV i0 i1 i2 hout hp hnw hnb mw mb
  by_cases c1:m=0
  ·have t1:(m == 0)=true:=by simp [c1]
   have R:=zH (show r=noS 5 by rw [V1.o,if_pos c1])
   clear c1 V1 m0 EB e
   go_in
   go_wp2_with (first
    | (refine lG BA.o ?_))
   clear yw1 yw2 yw3 yw4 n0
   refine qM (RE.o _) fun w5 hb=>?_
   obtain ⟨FR,BN,BA,BB,BR⟩:=uz5 hb FR BN BA BB BR
   clear hb
   have n0:=BN.o.cell 0
   go_upto_region 12 with (fail)
   go_wp2_with (first
    | (refine sG (sN 0 0 0) BR.o ?_;intro w7 BR7 g7))
   refine rG BR7 ?_;exact ⟨by rw [R.o];rfl,(FR.o.away g7 oM).out⟩
  have t1:(m == 0)=false:=by simpa using c1
  have V2:=zH (show r=(if d.kind=6∧eq=false then noS 5 else if d.kind=8 then cI h v c d.p else if d.kind=9 then ((1,1,m),0) else ((h,v,c),0)) by rw [V1.o,if_neg c1])
  have eb:=EB.o c1
  clear V1 c1 m0 EB
  cases eq
  case false =>
   have R:=zH (show r=noS 5 by rw [V2.o];simp [e])
   clear V2 e eb
   go_in
   go_wp2_with (first
    | (refine lG BA.o ?_))
   clear yw1 yw2 yw3 yw4 n0
   refine qM (RE.o _) fun w5 hb=>?_
   obtain ⟨FR,BN,BA,BB,BR⟩:=uz5 hb FR BN BA BB BR
   clear hb
   have n0:=BN.o.cell 0
   have a0:=BA.o.cell 0
   have b0:=BB.o.cell 0
   have a1:=BA.o.cell 1
   have b1:=BB.o.cell 1
   have a2:=BA.o.cell 2
   have b2:=BB.o.cell 2
   go_upto_region 12 with (refine bq 24 _ (.tmp 70) (.tmp 71) rfl _ _ rfl rfl (by rfl) kM _ (QE.o _) ?_;try simp only [Bool.not_true,Bool.not_false])
   clear a0 a1 a2 b0 b1 b2 n0
   go_wp2_with (first
    | (refine lG BA.o ?_)
    | (refine sG (sN 0 0 0) BR.o ?_;intro w7 BR7 g7))
   refine rG BR7 ?_;exact ⟨by rw [R.o];rfl,(FR.o.away g7 oM).out⟩
  case true =>
   have R:=zH (show r=((h,v,c),0) by rw [V2.o];simp [e])
   clear V2 e eb
   go_in
   go_wp2_with (first
    | (refine lG BA.o ?_))
   clear yw1 yw2 yw3 yw4 n0
   refine qM (RE.o _) fun w5 hb=>?_
   obtain ⟨FR,BN,BA,BB,BR⟩:=uz5 hb FR BN BA BB BR
   clear hb
   have n0:=BN.o.cell 0
   have a0:=BA.o.cell 0
   have b0:=BB.o.cell 0
   have a1:=BA.o.cell 1
   have b1:=BB.o.cell 1
   have a2:=BA.o.cell 2
   have b2:=BB.o.cell 2
   go_upto_region 22 with (refine bq 24 _ (.tmp 70) (.tmp 71) rfl _ _ rfl rfl (by rfl) kM _ (QE.o _) ?_;try simp only [Bool.not_true,Bool.not_false])
   clear a0 a1 a2 b0 b1 b2 n0
   go_wp2_with (first
    | (refine lG BA.o ?_)
    | (refine sG (sN h v c) BR.o ?_;intro w7 BR7 g7))
   refine rG BR7 ?_;exact ⟨by rw [R.o];rfl,(FR.o.away g7 oM).out⟩
theorem lf (h v c h2 v2 c2:Int) (d:af) (W:QA) (nw cw:Nat) (B:QA) (nb cb:Nat) (w:World) (i0:InK .i64 h) (i1:InK .i64 v) (i2:InK .i64 c) (hout:InK .i64 d.out) (hp:InK .i64 d.p) (hnw:nw=d.w.length) (hnb:nb=d.bias.length) (mw:nw≤1048576) (mb:nb≤1048576) (e:d.kind=7) :
  Calls prog 28 #[.agg (nD d W nw cw B nb cb),.agg (sN h v c),.agg (sN h2 v2 c2)] w fun e w'=>e=aL (aD h v c h2 v2 c2 d)∧Below w w w':=by
 obtain ⟨r,hr⟩:∃ r,aD h v c h2 v2 c2 d=r:=⟨_,rfl⟩
 rw [hr]
 unfold aD at hr
 have VV:=zH hr.symm
 clear hr
 have FR:=zW w
 obtain ⟨w1,w2,w3,w4,yw1,yw2,yw3,yw4,l1,l2,l3,l4,BN,BA,BB,BR,yk4⟩:=bk4 w (nD d W nw cw B nb cb) 42 (sN h v c) 24 (sN h2 v2 c2) 24 (sN 0 0 0) 24
 replace FR:=zF yk4 FR
 clear yk4
 have n0:=BN.o.cell 0
 ·skip
  have k1:(d.kind == 1)=false:=by simp [e]
  have k2:(d.kind == 2)=false:=by simp [e]
  have k3:(d.kind == 3)=false:=by simp [e]
  have k4:(d.kind == 4)=false:=by simp [e]
  have k5:(d.kind == 5)=false:=by simp [e]
  have k6:(d.kind == 6)=false:=by simp [e]
  have k8:(d.kind == 8)=false:=by simp [e]
  have k9:(d.kind == 9)=false:=by simp [e]
  have kl:decide (d.kind < 1)=false:=by simp [e]
  have kg:decide (9 < d.kind)=false:=by simp [e]
  have RE:=zH (fun w=>aQ h c v w i0 i1 i2)
  have EB:=zH (dL (h:=h) (v:=v) (c:=c))
  have m0:=(aC h v c).1
  have V1:=zH (show r=bJ d.kind h v c h2 v2 c2 d.p by rw [VV.o];simp [e])
  have V1':=V1.o
  unfold bJ at V1'
  obtain ⟨m,hm⟩:∃ m,ab h v c=m:=⟨_,rfl⟩
  obtain ⟨eq,he⟩:∃ x,([h,v,c] == [h2,v2,c2])=x:=⟨_,rfl⟩
  have QE:=zH (fun w=>eo w h v c h2 v2 c2)
  rw [hm,he] at V1'
  rw [hm] at RE EB m0
  rw [he] at QE
  replace V1:=zH V1'
  clear V1' hm he VV i0 i1 i2 hout hp hnw hnb mw mb
  by_cases c1:m=0
  ·have t1:(m == 0)=true:=by simp [c1]
   have R:=zH (show r=noS 5 by rw [V1.o,if_pos c1])
   clear c1 V1 m0 EB e
   go_in
   go_wp2_with (first
    | (refine lG BA.o ?_))
   clear yw1 yw2 yw3 yw4 n0
   refine qM (RE.o _) fun w5 hb=>?_
   obtain ⟨FR,BN,BA,BB,BR⟩:=uz5 hb FR BN BA BB BR
   clear hb
   have n0:=BN.o.cell 0
   go_upto_region 12 with (fail)
   go_wp2_with (first
    | (refine sG (sN 0 0 0) BR.o ?_;intro w7 BR7 g7))
   refine rG BR7 ?_;exact ⟨by rw [R.o];rfl,(FR.o.away g7 oM).out⟩
  have t1:(m == 0)=false:=by simpa using c1
  have V2:=zH (show r=(if d.kind=6∧eq=false then noS 5 else if d.kind=8 then cI h v c d.p else if d.kind=9 then ((1,1,m),0) else ((h,v,c),0)) by rw [V1.o,if_neg c1])
  have eb:=EB.o c1
  clear V1 c1 m0 EB
  have R:=zH (show r=((h,v,c),0) by rw [V2.o];simp [e])
  clear V2 e QE eb
  go_in
  go_wp2_with (first
   | (refine lG BA.o ?_))
  clear yw1 yw2 yw3 yw4 n0
  refine qM (RE.o _) fun w5 hb=>?_
  obtain ⟨FR,BN,BA,BB,BR⟩:=uz5 hb FR BN BA BB BR
  clear hb
  have n0:=BN.o.cell 0
  go_upto_region 22 with (fail)
  go_wp2_with (first
   | (refine lG BA.o ?_)
   | (refine sG (sN h v c) BR.o ?_;intro w7 BR7 g7))
  refine rG BR7 ?_;exact ⟨by rw [R.o];rfl,(FR.o.away g7 oM).out⟩
theorem lh (h v c h2 v2 c2:Int) (d:af) (W:QA) (nw cw:Nat) (B:QA) (nb cb:Nat) (w:World) (i0:InK .i64 h) (i1:InK .i64 v) (i2:InK .i64 c) (hout:InK .i64 d.out) (hp:InK .i64 d.p) (hnw:nw=d.w.length) (hnb:nb=d.bias.length) (mw:nw≤1048576) (mb:nb≤1048576) (e:d.kind=8) :
  Calls prog 28 #[.agg (nD d W nw cw B nb cb),.agg (sN h v c),.agg (sN h2 v2 c2)] w fun e w'=>e=aL (aD h v c h2 v2 c2 d)∧Below w w w':=by
 obtain ⟨r,hr⟩:∃ r,aD h v c h2 v2 c2 d=r:=⟨_,rfl⟩
 rw [hr]
 unfold aD at hr
 have VV:=zH hr.symm
 clear hr
 have FR:=zW w
 obtain ⟨w1,w2,w3,w4,yw1,yw2,yw3,yw4,l1,l2,l3,l4,BN,BA,BB,BR,yk4⟩:=bk4 w (nD d W nw cw B nb cb) 42 (sN h v c) 24 (sN h2 v2 c2) 24 (sN 0 0 0) 24
 replace FR:=zF yk4 FR
 clear yk4
 have n0:=BN.o.cell 0
 ·skip
  have k1:(d.kind == 1)=false:=by simp [e]
  have k2:(d.kind == 2)=false:=by simp [e]
  have k3:(d.kind == 3)=false:=by simp [e]
  have k4:(d.kind == 4)=false:=by simp [e]
  have k5:(d.kind == 5)=false:=by simp [e]
  have k6:(d.kind == 6)=false:=by simp [e]
  have k8:(d.kind == 8)=true:=by simp [e]
  have k9:(d.kind == 9)=false:=by simp [e]
  have kl:decide (d.kind < 1)=false:=by simp [e]
  have kg:decide (9 < d.kind)=false:=by simp [e]
  have RE:=zH (fun w=>aQ h c v w i0 i1 i2)
  have EB:=zH (dL (h:=h) (v:=v) (c:=c))
  have m0:=(aC h v c).1
  have V1:=zH (show r=bJ d.kind h v c h2 v2 c2 d.p by rw [VV.o];simp [e])
  have V1':=V1.o
  unfold bJ at V1'
  obtain ⟨m,hm⟩:∃ m,ab h v c=m:=⟨_,rfl⟩
  obtain ⟨eq,he⟩:∃ x,([h,v,c] == [h2,v2,c2])=x:=⟨_,rfl⟩
  have QE:=zH (fun w=>eo w h v c h2 v2 c2)
  rw [hm,he] at V1'
  rw [hm] at RE EB m0
  rw [he] at QE
  replace V1:=zH V1'
  clear V1' hm he VV i0 i1 i2 hout hp hnw hnb mw mb
  by_cases c1:m=0
  ·have t1:(m == 0)=true:=by simp [c1]
   have R:=zH (show r=noS 5 by rw [V1.o,if_pos c1])
   clear c1 V1 m0 EB e
   go_in
   go_wp2_with (first
    | (refine lG BA.o ?_))
   clear yw1 yw2 yw3 yw4 n0
   refine qM (RE.o _) fun w5 hb=>?_
   obtain ⟨FR,BN,BA,BB,BR⟩:=uz5 hb FR BN BA BB BR
   clear hb
   have n0:=BN.o.cell 0
   go_upto_region 12 with (fail)
   go_wp2_with (first
    | (refine sG (sN 0 0 0) BR.o ?_;intro w7 BR7 g7))
   refine rG BR7 ?_;exact ⟨by rw [R.o];rfl,(FR.o.away g7 oM).out⟩
  have t1:(m == 0)=false:=by simpa using c1
  have V2:=zH (show r=(if d.kind=6∧eq=false then noS 5 else if d.kind=8 then cI h v c d.p else if d.kind=9 then ((1,1,m),0) else ((h,v,c),0)) by rw [V1.o,if_neg c1])
  have eb:=EB.o c1
  clear V1 c1 m0 EB
  have V3:=zH (show r=(if d.p < 0 ∨ 4 < d.p then noS 2 else if ab (h+2*d.p) (v+2*d.p) c=0 then noS 5 else ((h+2*d.p,v+2*d.p,c),0)) by rw [V2.o];simp [e,cI])
  clear V2 e QE
  by_cases cp:d.p < 0
  ·have p1:decide (d.p < 0)=true:=qT cp
   have R:=zH (show r=noS 2 by rw [V3.o,if_pos (.inl cp)])
   clear cp V3 eb
   go_in
   go_wp2_with (first
    | (refine lG BA.o ?_))
   clear yw1 yw2 yw3 yw4 n0
   refine qM (RE.o _) fun w5 hb=>?_
   obtain ⟨FR,BN,BA,BB,BR⟩:=uz5 hb FR BN BA BB BR
   clear hb
   obtain ⟨n0,n5⟩:=uc2 BN 0 5
   go_upto_region 17 with (fail)
   go_wp2_with (first
    | (refine sG (sN 0 0 0) BR.o ?_;intro w7 BR7 g7))
   refine rG BR7 ?_;exact ⟨by rw [R.o];rfl,(FR.o.away g7 oM).out⟩
  have p1:decide (d.p < 0)=false:=dF cp
  have pp1:0≤d.p:=oM
  clear cp
  by_cases cp:4 < d.p
  ·have p2:decide (4 < d.p)=true:=qT cp
   have R:=zH (show r=noS 2 by rw [V3.o,if_pos (.inr cp)])
   clear cp V3 eb
   go_in
   go_wp2_with (first
    | (refine lG BA.o ?_))
   clear yw1 yw2 yw3 yw4 n0
   refine qM (RE.o _) fun w5 hb=>?_
   obtain ⟨FR,BN,BA,BB,BR⟩:=uz5 hb FR BN BA BB BR
   clear hb
   obtain ⟨n0,n5⟩:=uc2 BN 0 5
   go_upto_region 17 with (fail)
   go_wp2_with (first
    | (refine sG (sN 0 0 0) BR.o ?_;intro w7 BR7 g7))
   refine rG BR7 ?_;exact ⟨by rw [R.o];rfl,(FR.o.away g7 oM).out⟩
  have p2:decide (4 < d.p)=false:=dF cp
  have pp2:d.p≤4:=oM
  clear cp
  have R1:=zH (fun w=>aQ (h+2*d.p) c (v+2*d.p) w (by rw [ah];omega) (by rw [ah];omega) (by rw [ah];omega))
  have e1:IntKind.i64.wrap (2*d.p)=2*d.p:=wJ
  have e2:IntKind.i64.wrap (h+2*d.p)=h+2*d.p:=wJ
  have e3:IntKind.i64.wrap (v+2*d.p)=v+2*d.p:=wJ
  have V4:=zH (show r=(if ab (h+2*d.p) (v+2*d.p) c=0 then noS 5 else ((h+2*d.p,v+2*d.p,c),0)) by rw [V3.o,if_neg oM])
  obtain ⟨y,hy⟩:∃ y,ab (h+2*d.p) (v+2*d.p) c=y:=⟨_,rfl⟩
  rw [hy] at V4 R1
  clear V3 hy eb pp1 pp2
  by_cases c3:y=0
  ·have t3:(y == 0)=true:=by simpa using c3
   have R:=zH (show r=noS 5 by rw [V4.o,if_pos c3])
   clear V4 c3
   go_in
   go_wp2_with (first
    | (refine lG BA.o ?_))
   clear yw1 yw2 yw3 yw4 n0
   refine qM (RE.o _) fun w5 hb=>?_
   obtain ⟨FR,BN,BA,BB,BR⟩:=uz5 hb FR BN BA BB BR
   clear hb
   obtain ⟨n0,n5⟩:=uc2 BN 0 5
   obtain ⟨a0,a1,a2⟩:=uc3 BA 0 1 2
   have l5:w3.heap.size < w5.heap.size:=BR.o.lt
   obtain ⟨w6,yw6,BT,yk6⟩:=nB w5 (sN 0 0 0) 24
   obtain ⟨FR,BN,BA,BB,BR⟩:=uz5 yk6 FR BN BA BB BR
   clear yk6
   go_upto_region 18 with (fail)
   go_wp2_with (first
    | (refine wpList_store_all rfl 24 (.tmp 8) (.tmp 108) rfl w5.heap.size (sN (h+2*d.p) (v+2*d.p) c) rfl rfl _ _ BT.o rfl kM (by simp [Value.oneCell']) ?_;intro w8 BT6 g6;have BR6:=zA g6 BR;have FR6:=zA g6 FR)
    | (refine lG BT6 ?_))
   clear yw6 a0 a1 a2 n0 n5
   refine qM (R1.o _) fun w9 hb=>?_
   have BT5:=zH (BT6.fut hb)
   obtain ⟨BR6,FR6⟩:=uz2 hb BR6 FR6
   clear hb
   go_wp2_with (first
    | (refine sG (sN 0 0 0) BR6.o ?_;intro w7 BR7 g7))
   refine rG BR7 ?_;exact ⟨by rw [R.o];rfl,(FR6.o.away g7 oM).out⟩
  have t3:(y == 0)=false:=by simpa using c3
  have R:=zH (show r=((h+2*d.p,v+2*d.p,c),0) by rw [V4.o,if_neg c3])
  clear V4 c3
  go_in
  go_wp2_with (first
   | (refine lG BA.o ?_))
  clear yw1 yw2 yw3 yw4 n0
  refine qM (RE.o _) fun w5 hb=>?_
  obtain ⟨FR,BN,BA,BB,BR⟩:=uz5 hb FR BN BA BB BR
  clear hb
  obtain ⟨n0,n5⟩:=uc2 BN 0 5
  obtain ⟨a0,a1,a2⟩:=uc3 BA 0 1 2
  have l5:w3.heap.size < w5.heap.size:=BR.o.lt
  obtain ⟨w6,yw6,BT,yk6⟩:=nB w5 (sN 0 0 0) 24
  obtain ⟨FR,BN,BA,BB,BR⟩:=uz5 yk6 FR BN BA BB BR
  clear yk6
  go_upto_region 18 with (fail)
  go_wp2_with (first
   | (refine wpList_store_all rfl 24 (.tmp 8) (.tmp 108) rfl w5.heap.size (sN (h+2*d.p) (v+2*d.p) c) rfl rfl _ _ BT.o rfl kM (by simp [Value.oneCell']) ?_;intro w8 BT6 g6;have BR6:=zA g6 BR;have FR6:=zA g6 FR)
   | (refine lG BT6 ?_))
  clear yw6 a0 a1 a2 n0 n5
  refine qM (R1.o _) fun w9 hb=>?_
  have BT5:=zH (BT6.fut hb)
  obtain ⟨BR6,FR6⟩:=uz2 hb BR6 FR6
  clear hb
  go_wp2_with (first
   | (refine lG BT5.o ?_)
   | (refine wpList_store_all rfl 24 (.tmp 6) (.tmp 113) rfl w3.heap.size (sN (h+2*d.p) (v+2*d.p) c) rfl rfl _ _ BR6.o rfl kM (by simp [Value.oneCell']) ?_;intro w7 BR7 g7))
  refine rG BR7 ?_;exact ⟨by rw [R.o];rfl,(FR6.o.away g7 oM).out⟩
end Go.Proofs.YtmihnoagagbgaaaGreat
