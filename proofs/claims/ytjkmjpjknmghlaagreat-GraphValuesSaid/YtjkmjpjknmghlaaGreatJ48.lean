/-
  The shape that a node makes (layers 18, 25): the document's Shape.
  The shape that a node makes (layers 18, 25): the document's Shape, put together.
  The shapes of all values (layer 27): the document's Shapes.
  Who takes each value last (layer 27), in numbers.
  Who takes each value last (layer 27): graph.Last, the document's Last; the law's Few and known.
  The document's Last, Few, the fixed call, and the walk of the law GraphShapes (layer 27).
-/
import Derived.Test.YtjkmjpjknmghlaaGreatJ46
set_option linter.unusedVariables false
set_option linter.unusedSimpArgs false
namespace Go.Proofs.YtjkmjpjknmghlaaGreat
open Go.RowKit Go.ChangeShapes Go.WideShapes
set_option maxRecDepth 100000
set_option maxHeartbeats 16000000 in
theorem rkshape_any_8 (h v c h2 v2 c2:Int) (d:Node) (W:Option Addr) (nw cw:Nat) (B:Option Addr) (nb cb:Nat) (w:World) (i0:InK .i64 h) (i1:InK .i64 v) (i2:InK .i64 c) (hout:InK .i64 d.out) (hp:InK .i64 d.p) (hnw:nw=d.w.length) (hnb:nb=d.bias.length) (mw:nw≤1048576) (mb:nb≤1048576) (e:d.kind=8) :
  Calls Tryz.prog 32 #[.agg (nN d.kind d.a d.b d.k d.s d.p d.out d.za d.zb W nw cw B nb cb d.qm d.qs d.qz d.rm d.rs d.rz d.lo d.hi),.agg (sN h v c),.agg (sN h2 v2 c2)] w fun e w'=>e=retS (shapeV h v c h2 v2 c2 d)∧Below w.heap.size w w':=by
 obtain ⟨r,hr⟩:∃ r,shapeV h v c h2 v2 c2 d=r:=⟨_,rfl⟩
 rw [hr]
 unfold shapeV at hr
 have VV:=zH hr.symm
 clear hr
 have FR:=zH (Far.refl w)
 obtain ⟨w1,hw_w1,BN,k_w1⟩:=nB w (nN d.kind d.a d.b d.k d.s d.p d.out d.za d.zb W nw cw B nb cb d.qm d.qs d.qz d.rm d.rs d.rz d.lo d.hi) 44
 replace FR:=zH (FR.out.fut k_w1)
 clear k_w1
 obtain ⟨w2,hw_w2,BA,k_w2⟩:=nB w1 (sN h v c) 24
 replace FR:=zH (FR.out.fut k_w2)
 replace BN:=zH (BN.out.fut k_w2)
 clear k_w2
 obtain ⟨w3,hw_w3,BB,k_w3⟩:=nB w2 (sN h2 v2 c2) 24
 replace FR:=zH (FR.out.fut k_w3)
 replace BN:=zH (BN.out.fut k_w3)
 replace BA:=zH (BA.out.fut k_w3)
 clear k_w3
 obtain ⟨w4,hw_w4,BR,k_w4⟩:=nB w3 (sN 0 0 0) 24
 replace FR:=zH (FR.out.fut k_w4)
 replace BN:=zH (BN.out.fut k_w4)
 replace BA:=zH (BA.out.fut k_w4)
 replace BB:=zH (BB.out.fut k_w4)
 clear k_w4
 have l1:w.heap.size < w1.heap.size:=by rw [← hw_w1];simp
 have l2:w1.heap.size < w2.heap.size:=by rw [← hw_w2];simp
 have l3:w2.heap.size < w3.heap.size:=by rw [← hw_w3];simp
 have l4:w3.heap.size < w4.heap.size:=by rw [← hw_w4];simp
 have n0:=BN.out.cell 0
 ·skip
  have k1:(d.kind == 1)=false:=by simp [e]
  have k2:(d.kind == 2)=false:=by simp [e]
  have k3:(d.kind == 3)=false:=by simp [e]
  have k4:(d.kind == 4)=false:=by simp [e]
  have k5:(d.kind == 5)=false:=by simp [e]
  have k6:(d.kind == 6)=false:=by simp [e]
  have k8:(d.kind == 8)=true:=by simp [e]
  have k9:(d.kind == 9)=false:=by simp [e]
  have kl:decide (d.kind < 1)=false:=by simp [e]
  have kg:decide (9 < d.kind)=false:=by simp [e]
  have RE:=zH (fun w=>relems_any h c v w i0 i1 i2)
  have EB:=zH (elems_bd (h:=h) (v:=v) (c:=c))
  have m0:=(elems_range h v c).1
  have V1:=zH (show r=plainV d.kind h v c h2 v2 c2 d.p by rw [VV.out];simp [e])
  have V1':=V1.out
  unfold plainV at V1'
  obtain ⟨m,hm⟩:∃ m,elems h v c=m:=⟨_,rfl⟩
  obtain ⟨eq,he⟩:∃ x,([h,v,c] == [h2,v2,c2])=x:=⟨_,rfl⟩
  have QE:=zH (fun w=>eq_shape w h v c h2 v2 c2)
  rw [hm,he] at V1'
  rw [hm] at RE EB m0
  rw [he] at QE
  replace V1:=zH V1'
  clear V1' hm he VV i0 i1 i2 hout hp hnw hnb mw mb
  by_cases c1:m=0
  ·have t1:(m == 0)=true:=by simp [c1]
   have R:=zH (show r=noS 5 by rw [V1.out,if_pos c1])
   clear c1 V1 m0 EB e
   go_enter Tryz.func32,Tryz.ntmps32
   go_wp2_with (first
    | (refine lB 24 (.tmp 4) w1.heap.size BA.out Tryz.underlying24 ?_))
   clear hw_w1 hw_w2 hw_w3 hw_w4 n0
   refine (RE.out _).mono ?_
   rintro e w5 ⟨rfl,hb⟩
   replace FR:=zH (FR.out.fut hb)
   replace BN:=zH (BN.out.fut hb)
   replace BA:=zH (BA.out.fut hb)
   replace BB:=zH (BB.out.fut hb)
   replace BR:=zH (BR.out.fut hb)
   clear hb
   have n0:=BN.out.cell 0
   go_upto_region 12 with (fail)
   go_wp2_with (first
    | (refine sB 24 (.tmp 6) (.tmp 75) w3.heap.size (sN 0 0 0) BR.out ?_;intro w7 BR7 g7))
   refine rC BR7 Tryz.underlying24 ?_;exact ⟨by rw [R.out];rfl,(FR.out.away g7 (by omega)).out⟩
  have t1:(m == 0)=false:=by simpa using c1
  have V2:=zH (show r=(if d.kind=6∧eq=false then noS 5 else if d.kind=8 then aroundV h v c d.p else if d.kind=9 then ((1,1,m),0) else ((h,v,c),0)) by rw [V1.out,if_neg c1])
  have eb:=EB.out c1
  clear V1 c1 m0 EB
  have V3:=zH (show r=(if d.p < 0 ∨ 4 < d.p then noS 2 else if elems (h+2*d.p) (v+2*d.p) c=0 then noS 5 else ((h+2*d.p,v+2*d.p,c),0)) by rw [V2.out];simp [e,aroundV])
  clear V2 e QE
  by_cases cp:d.p < 0
  ·have p1:decide (d.p < 0)=true:=decide_eq_true cp
   have R:=zH (show r=noS 2 by rw [V3.out,if_pos (.inl cp)])
   clear cp V3 eb
   go_enter Tryz.func32,Tryz.ntmps32
   go_wp2_with (first
    | (refine lB 24 (.tmp 4) w1.heap.size BA.out Tryz.underlying24 ?_))
   clear hw_w1 hw_w2 hw_w3 hw_w4 n0
   refine (RE.out _).mono ?_
   rintro e w5 ⟨rfl,hb⟩
   replace FR:=zH (FR.out.fut hb)
   replace BN:=zH (BN.out.fut hb)
   replace BA:=zH (BA.out.fut hb)
   replace BB:=zH (BB.out.fut hb)
   replace BR:=zH (BR.out.fut hb)
   clear hb
   have n0:=BN.out.cell 0
   have n5:=BN.out.cell 5
   go_upto_region 17 with (fail)
   go_wp2_with (first
    | (refine sB 24 (.tmp 6) (.tmp 93) w3.heap.size (sN 0 0 0) BR.out ?_;intro w7 BR7 g7))
   refine rC BR7 Tryz.underlying24 ?_;exact ⟨by rw [R.out];rfl,(FR.out.away g7 (by omega)).out⟩
  have p1:decide (d.p < 0)=false:=decide_eq_false cp
  have pp1:0≤d.p:=by omega
  clear cp
  by_cases cp:4 < d.p
  ·have p2:decide (4 < d.p)=true:=decide_eq_true cp
   have R:=zH (show r=noS 2 by rw [V3.out,if_pos (.inr cp)])
   clear cp V3 eb
   go_enter Tryz.func32,Tryz.ntmps32
   go_wp2_with (first
    | (refine lB 24 (.tmp 4) w1.heap.size BA.out Tryz.underlying24 ?_))
   clear hw_w1 hw_w2 hw_w3 hw_w4 n0
   refine (RE.out _).mono ?_
   rintro e w5 ⟨rfl,hb⟩
   replace FR:=zH (FR.out.fut hb)
   replace BN:=zH (BN.out.fut hb)
   replace BA:=zH (BA.out.fut hb)
   replace BB:=zH (BB.out.fut hb)
   replace BR:=zH (BR.out.fut hb)
   clear hb
   have n0:=BN.out.cell 0
   have n5:=BN.out.cell 5
   go_upto_region 17 with (fail)
   go_wp2_with (first
    | (refine sB 24 (.tmp 6) (.tmp 93) w3.heap.size (sN 0 0 0) BR.out ?_;intro w7 BR7 g7))
   refine rC BR7 Tryz.underlying24 ?_;exact ⟨by rw [R.out];rfl,(FR.out.away g7 (by omega)).out⟩
  have p2:decide (4 < d.p)=false:=decide_eq_false cp
  have pp2:d.p≤4:=by omega
  clear cp
  have R1:=zH (fun w=>relems_any (h+2*d.p) c (v+2*d.p) w (by rw [inK_i64];omega) (by rw [inK_i64];omega) (by rw [inK_i64];omega))
  have e1:IntKind.i64.wrap (2*d.p)=2*d.p:=IntWalk.i64_in _ (by omega)
  have e2:IntKind.i64.wrap (h+2*d.p)=h+2*d.p:=IntWalk.i64_in _ (by omega)
  have e3:IntKind.i64.wrap (v+2*d.p)=v+2*d.p:=IntWalk.i64_in _ (by omega)
  have V4:=zH (show r=(if elems (h+2*d.p) (v+2*d.p) c=0 then noS 5 else ((h+2*d.p,v+2*d.p,c),0)) by rw [V3.out,if_neg (by omega)])
  obtain ⟨y,hy⟩:∃ y,elems (h+2*d.p) (v+2*d.p) c=y:=⟨_,rfl⟩
  rw [hy] at V4 R1
  clear V3 hy eb pp1 pp2
  by_cases c3:y=0
  ·have t3:(y == 0)=true:=by simpa using c3
   have R:=zH (show r=noS 5 by rw [V4.out,if_pos c3])
   clear V4 c3
   go_enter Tryz.func32,Tryz.ntmps32
   go_wp2_with (first
    | (refine lB 24 (.tmp 4) w1.heap.size BA.out Tryz.underlying24 ?_))
   clear hw_w1 hw_w2 hw_w3 hw_w4 n0
   refine (RE.out _).mono ?_
   rintro e w5 ⟨rfl,hb⟩
   replace FR:=zH (FR.out.fut hb)
   replace BN:=zH (BN.out.fut hb)
   replace BA:=zH (BA.out.fut hb)
   replace BB:=zH (BB.out.fut hb)
   replace BR:=zH (BR.out.fut hb)
   clear hb
   have n0:=BN.out.cell 0
   have n5:=BN.out.cell 5
   have a0:=BA.out.cell 0
   have a1:=BA.out.cell 1
   have a2:=BA.out.cell 2
   have l5:w3.heap.size < w5.heap.size:=BR.out.lt
   obtain ⟨w6,hw_w6,BT,k_w6⟩:=nB w5 (sN 0 0 0) 24
   replace FR:=zH (FR.out.fut k_w6)
   replace BN:=zH (BN.out.fut k_w6)
   replace BA:=zH (BA.out.fut k_w6)
   replace BB:=zH (BB.out.fut k_w6)
   replace BR:=zH (BR.out.fut k_w6)
   clear k_w6
   go_upto_region 18 with (fail)
   go_wp2_with (first
    | (refine wpList_store_all rfl 24 (.tmp 8) (.tmp 108) rfl w5.heap.size (sN (h+2*d.p) (v+2*d.p) c) rfl rfl _ _ BT.out rfl (by kernel_rfl) (by simp [Value.oneCell']) ?_;intro w8 BT6 g6;have BR6:=zH (BR.out.away g6 (by omega));have FR6:=zH (FR.out.away g6 (by omega)))
    | (refine lB 24 (.tmp 8) w5.heap.size BT6 Tryz.underlying24 ?_))
   clear hw_w6 a0 a1 a2 n0 n5
   refine (R1.out _).mono ?_
   rintro e w9 ⟨rfl,hb⟩
   have BT5:=zH (BT6.fut hb)
   replace BR6:=zH (BR6.out.fut hb)
   replace FR6:=zH (FR6.out.fut hb)
   clear hb
   go_wp2_with (first
    | (refine sB 24 (.tmp 6) (.tmp 112) w3.heap.size (sN 0 0 0) BR6.out ?_;intro w7 BR7 g7))
   refine rC BR7 Tryz.underlying24 ?_;exact ⟨by rw [R.out];rfl,(FR6.out.away g7 (by omega)).out⟩
  have t3:(y == 0)=false:=by simpa using c3
  have R:=zH (show r=((h+2*d.p,v+2*d.p,c),0) by rw [V4.out,if_neg c3])
  clear V4 c3
  go_enter Tryz.func32,Tryz.ntmps32
  go_wp2_with (first
   | (refine lB 24 (.tmp 4) w1.heap.size BA.out Tryz.underlying24 ?_))
  clear hw_w1 hw_w2 hw_w3 hw_w4 n0
  refine (RE.out _).mono ?_
  rintro e w5 ⟨rfl,hb⟩
  replace FR:=zH (FR.out.fut hb)
  replace BN:=zH (BN.out.fut hb)
  replace BA:=zH (BA.out.fut hb)
  replace BB:=zH (BB.out.fut hb)
  replace BR:=zH (BR.out.fut hb)
  clear hb
  have n0:=BN.out.cell 0
  have n5:=BN.out.cell 5
  have a0:=BA.out.cell 0
  have a1:=BA.out.cell 1
  have a2:=BA.out.cell 2
  have l5:w3.heap.size < w5.heap.size:=BR.out.lt
  obtain ⟨w6,hw_w6,BT,k_w6⟩:=nB w5 (sN 0 0 0) 24
  replace FR:=zH (FR.out.fut k_w6)
  replace BN:=zH (BN.out.fut k_w6)
  replace BA:=zH (BA.out.fut k_w6)
  replace BB:=zH (BB.out.fut k_w6)
  replace BR:=zH (BR.out.fut k_w6)
  clear k_w6
  go_upto_region 18 with (fail)
  go_wp2_with (first
   | (refine wpList_store_all rfl 24 (.tmp 8) (.tmp 108) rfl w5.heap.size (sN (h+2*d.p) (v+2*d.p) c) rfl rfl _ _ BT.out rfl (by kernel_rfl) (by simp [Value.oneCell']) ?_;intro w8 BT6 g6;have BR6:=zH (BR.out.away g6 (by omega));have FR6:=zH (FR.out.away g6 (by omega)))
   | (refine lB 24 (.tmp 8) w5.heap.size BT6 Tryz.underlying24 ?_))
  clear hw_w6 a0 a1 a2 n0 n5
  refine (R1.out _).mono ?_
  rintro e w9 ⟨rfl,hb⟩
  have BT5:=zH (BT6.fut hb)
  replace BR6:=zH (BR6.out.fut hb)
  replace FR6:=zH (FR6.out.fut hb)
  clear hb
  go_wp2_with (first
   | (refine lB 24 (.tmp 8) w5.heap.size BT5.out Tryz.underlying24 ?_)
   | (refine wpList_store_all rfl 24 (.tmp 6) (.tmp 113) rfl w3.heap.size (sN (h+2*d.p) (v+2*d.p) c) rfl rfl _ _ BR6.out rfl (by kernel_rfl) (by simp [Value.oneCell']) ?_;intro w7 BR7 g7))
  refine rC BR7 Tryz.underlying24 ?_;exact ⟨by rw [R.out];rfl,(FR6.out.away g7 (by omega)).out⟩
theorem rkshape_any (h v c h2 v2 c2:Int) (d:Node) (W:Option Addr) (nw cw:Nat) (B:Option Addr) (nb cb:Nat) (w:World) (i0:InK .i64 h) (i1:InK .i64 v) (i2:InK .i64 c) (hout:InK .i64 d.out) (hp:InK .i64 d.p) (hnw:nw=d.w.length) (hnb:nb=d.bias.length) (mw:nw≤1048576) (mb:nb≤1048576) (hk:1≤d.kind∧d.kind≤9) :
  Calls Tryz.prog 32 #[.agg (nN d.kind d.a d.b d.k d.s d.p d.out d.za d.zb W nw cw B nb cb d.qm d.qs d.qz d.rm d.rs d.rz d.lo d.hi),.agg (sN h v c),.agg (sN h2 v2 c2)] w fun e w'=>e=retS (shapeV h v c h2 v2 c2 d)∧Below w.heap.size w w':=by
 rcases (show d.kind=1 ∨ d.kind=2 ∨ d.kind=3 ∨ d.kind=4 ∨ d.kind=5 ∨ d.kind=6 ∨ d.kind=7 ∨ d.kind=8 ∨ d.kind=9 by omega) with e|e|e|e|e|e|e|e|e
 ·exact rkshape_any_1 h v c h2 v2 c2 d W nw cw B nb cb w i0 i1 i2 hout hp hnw hnb mw mb e
 ·exact rkshape_any_2 h v c h2 v2 c2 d W nw cw B nb cb w i0 i1 i2 hout hp hnw hnb mw mb e
 ·exact rkshape_any_3 h v c h2 v2 c2 d W nw cw B nb cb w i0 i1 i2 hout hp hnw hnb mw mb e
 ·exact rkshape_any_4 h v c h2 v2 c2 d W nw cw B nb cb w i0 i1 i2 hout hp hnw hnb mw mb e
 ·exact rkshape_any_5 h v c h2 v2 c2 d W nw cw B nb cb w i0 i1 i2 hout hp hnw hnb mw mb e
 ·exact rkshape_any_6 h v c h2 v2 c2 d W nw cw B nb cb w i0 i1 i2 hout hp hnw hnb mw mb e
 ·exact rkshape_any_7 h v c h2 v2 c2 d W nw cw B nb cb w i0 i1 i2 hout hp hnw hnb mw mb e
 ·exact rkshape_any_8 h v c h2 v2 c2 d W nw cw B nb cb w i0 i1 i2 hout hp hnw hnb mw mb e
 ·exact rkshape_any_9 h v c h2 v2 c2 d W nw cw B nb cb w i0 i1 i2 hout hp hnw hnb mw mb e
set_option maxHeartbeats 16000000 in
theorem rshapes_any (A:Option Addr) (n cap:Nat) (l:List Node) (h v c:Int) (w:World) (hs:Sl tNode w (blo w.heap.size) A n cap l) (i0:InK .i64 h) (i1:InK .i64 v) (i2:InK .i64 c) (hf:∀ d ∈ l,d.w.length≤1000∧d.bias.length≤100) :
  Calls Tryz.prog 18 #[.slice A n cap,.agg (sN h v c)] w (RetShapes (shapesV l (h,v,c)) w):=by
 have hn:=hs.n_eq
 obtain ⟨r,hr⟩:∃ r,shapesV l (h,v,c)=r:=⟨_,rfl⟩
 rw [hr]
 unfold shapesV at hr
 simp only [hn] at hr
 have RI:=zH (fun w=>relems_any h c v w i0 i1 i2)
 have m0:=(elems_range h v c).1
 have GS:=zH (GoodS.of (h:=h) (v:=v) (c:=c))
 obtain ⟨m,hm⟩:∃ m,elems h v c=m:=⟨_,rfl⟩
 rw [hm] at hr RI m0 GS
 have VV:=zH hr.symm
 have H:=zH hs
 have HF:=zH hf
 have hmax:n≤9223372036854775807:=Nat.le_trans hs.cap_le hs.max_le
 clear hr hm hs hf i0 i1 i2 hn
 have FR:=zH (Far.refl w)
 obtain ⟨w1,hw_w1,BA,k_w1⟩:=nB w (sN h v c) 24
 replace FR:=zH (FR.out.fut k_w1)
 clear k_w1
 have l1:w.heap.size < w1.heap.size:=by rw [← hw_w1];simp
 by_cases c1:m=0
 ·have t1:(m == 0)=true:=by simp [c1]
  have R:=zH (show r=([],-1,5) by rw [VV.out,if_pos c1])
  clear c1 VV
  go_enter Tryz.func18,Tryz.ntmps18
  go_wp2_with (refine lB 24 (.tmp 3) w.heap.size BA.out Tryz.underlying24 ?_)
  clear hw_w1
  refine (RI.out _).mono ?_
  rintro e w2 ⟨rfl,hb⟩
  replace FR:=zH (FR.out.fut hb)
  replace BA:=zH (BA.out.fut hb)
  clear hb
  go_wp2_with fail
  go_ret3
  rw [R.out]
  exact RetShapes.none FR.out.out
 have t1:(m == 0)=false:=by simpa using c1
 have good:=zH (GS.out c1)
 by_cases c2:n=0
 ·have t2:((n:Int) == 0)=true:=by simp;omega
  have R:=zH (show r=([],-1,12) by rw [VV.out,if_neg c1,if_pos c2])
  clear c1 c2 VV
  go_enter Tryz.func18,Tryz.ntmps18
  go_wp2_with (refine lB 24 (.tmp 3) w.heap.size BA.out Tryz.underlying24 ?_)
  clear hw_w1
  refine (RI.out _).mono ?_
  rintro e w2 ⟨rfl,hb⟩
  replace FR:=zH (FR.out.fut hb)
  replace BA:=zH (BA.out.fut hb)
  clear hb
  go_wp2_with fail
  go_ret3
  rw [R.out]
  exact RetShapes.none FR.out.out
 have t2:((n:Int) == 0)=false:=by simp;omega
 by_cases c3:8 < n
 ·have t3:decide (8 < (n:Int))=true:=by simp;omega
  have R:=zH (show r=([],-1,4) by rw [VV.out,if_neg c1,if_neg c2,if_pos c3])
  clear c1 c2 c3 VV
  go_enter Tryz.func18,Tryz.ntmps18
  go_wp2_with (refine lB 24 (.tmp 3) w.heap.size BA.out Tryz.underlying24 ?_)
  clear hw_w1
  refine (RI.out _).mono ?_
  rintro e w2 ⟨rfl,hb⟩
  replace FR:=zH (FR.out.fut hb)
  replace BA:=zH (BA.out.fut hb)
  clear hb
  go_wp2_with fail
  go_ret3
  rw [R.out]
  exact RetShapes.none FR.out.out
 have t3:decide (8 < (n:Int))=false:=by simp;omega
 have hn8:n≤8:=by omega
 have V2:=zH (show r=endS n (runS l (h,v,c) n) by rw [VV.out,if_neg c1,if_neg c2,if_neg c3])
 clear c1 c2 c3 VV GS
 go_enter Tryz.func18,Tryz.ntmps18
 go_wp2_with (refine lB 24 (.tmp 3) w.heap.size BA.out Tryz.underlying24 ?_)
 clear hw_w1
 refine (RI.out _).mono ?_
 rintro e w2 ⟨rfl,hb⟩
 replace FR:=zH (FR.out.fut hb)
 replace BA:=zH (BA.out.fut hb)
 clear hb
 clear RI
 go_wp2_with (first
  | (refine lB 24 (.tmp 3) w.heap.size BA.out Tryz.underlying24 ?_)
  | (refine wpList_lit1 rfl (.tmp 22) rfl ei_shape (sN h v c) rfl rfl (by decide) ?_))
 have z2:=FR.out.size
 go_loopw [7,8] (fun u i wr=>∃ (k:Nat) (out:List Sh3),k≤n∧i=.int .i64 k∧runS l (h,v,c) k=.on out∧Own tShape wr (fun _=>False) w.heap.size 24 u (k+1) out∧Below w.heap.size w wr) (fun _ i _=>n - (intOf i).toNat)
 case atStart=>exact ⟨0,[(h,v,c)],Nat.zero_le _,rfl,rfl,Own.one z2 good.out.rep,FR.out.out.alloc z2 _⟩
 case round =>
  clear FR BA z2 t1 t2 t3
  obtain ⟨k,out,hk,rfl,hrun,hown,hb⟩:=hrel
  have HB:=zH hb
  have ON:=zH hown
  have HR:=zH hrun
  obtain ⟨A1,c1,rfl,sl⟩:=hown.sl (S':=bin w.heap.size wr.heap.size) (by decide) (fun b h1 h2=>⟨h1,h2⟩) (fun _ h=>h.elim)
  have SL:=zH sl
  clear hb hown hrun sl
  by_cases hlt:k < n
  ·have p1:(k:Int) < (n:Int):=by omega
   obtain ⟨d,b0,off,W,nw,cw,B,nb,cb,hd,rfl,_,_,hin,hw8,hw32,hrg⟩:=(H.out.below HB.out (fun _ h=>h)).node_at k hlt
   have hsz:=HF.out d (List.mem_of_getElem? hd)
   have hnx:=runS_next HR.out hd
   have q8:=hw8.n_eq
   have q32:=hw32.n_eq
   have RG:=zH hrg
   have HIN:=zH hin
   have HW:=zH (hw8.more (blo_more HB.out.size))
   have HW32:=zH (hw32.more (blo_more HB.out.size))
   have NX:=zH hnx
   have HSZ:=zH hsz
   have Q8:=zH q8
   have Q32:=zH q32
   have CK:=zH (fun (w':World) (hb':Below wr.heap.size wr w')=>rcheck_any d W nw cw B nb cb w' (HW.out.later hb' (Nat.le_refl _)) (HW32.out.later hb' (Nat.le_refl _)) (by omega) (by omega))
   have TH:=zH (fun w=>rthere_any d W nw cw B nb cb ((k+1:Nat):Int) w)
   have SE:=zH (fun w=>second_any d W nw cw B nb cb w)
   have KD:=zH (check_kind (d:=d))
   have TB:=zH (there_bd (d:=d) (n:=((k+1:Nat):Int)))
   have hol:=SL.out.n_eq
   have NV:=zH (show nextV d out=_ from rfl)
   have NV':=NV.out
   have NG:=zH (nextV_good (d:=d) (l:=out))
   obtain ⟨nx,hnxx⟩:∃ x,nextV d out=x:=⟨_,rfl⟩
   have NE:=zH hnxx
   unfold nextV at hnxx
   rw [hol] at hnxx
   obtain ⟨ck,hck⟩:∃ x,checkV d=x:=⟨_,rfl⟩
   obtain ⟨th,hth⟩:∃ x,thereV d ((k+1:Nat):Int)=x:=⟨_,rfl⟩
   rw [hck] at CK KD hnxx
   rw [hth] at TH TB hnxx
   have VV:=zH hnxx.symm
   clear hd hin hw8 hw32 hrg hnx hnxx hck hth hsz q8 q32 NV NV' hol
   have zr:=HB.out.size
   have front:True:=trivial
   clear front
   by_cases e1:ck=0
   rotate_left
   ·have t4:(ck != 0)=true:=by simpa using e1
    have RX:=zH (show nx=noS ck by rw [VV.out,if_pos e1])
    have R:=zH (show r=([],(k:Int),ck) by
     have:=NX.out
     rw [NE.out,RX.out,if_pos (by exact e1)] at this
     rw [V2.out,runS_bad this n (by omega)];rfl)
    clear e1 VV V2 NX NE NG RX
    go_wp2_with (first
     | (refine wpList_load_mid rfl 44 (.tmp 32) rfl b0 (off+k*19) rfl _ _ RG.out Tryz.underlying44 rfl (by kernel_rfl) ?_)
     | (refine sB 44 (.tmp 9) (.tmp 33) wr.heap.size (nN d.kind d.a d.b d.k d.s d.p d.out d.za d.zb W nw cw B nb cb d.qm d.qs d.qz d.rm d.rs d.rz d.lo d.hi) (Blk.now _ _ _ _ rfl) ?_;intro w7 B7 g7;have G7:=zH (show Below wr.heap.size wr w7 from ((Below.refl _ _).alloc (Nat.le_refl _) _).grown g7 (by simp) (fun k h=>by have:=Option.some.inj h;omega));have BD:=zH B7;clear B7 g7)
     | (refine lB 44 (.tmp 9) wr.heap.size BD.out Tryz.underlying44 ?_))
    refine (CK.out _ G7.out).mono ?_
    rintro e w8 ⟨rfl,hb⟩
    have G8:=zH (below_later hb G7.out)
    clear hb
    go_wp2_with fail
    go_ret3
    rw [R.out]
    exact RetShapes.none (below_later G8.out HB.out)
   subst e1
   have t4:((0:Int) != 0)=false:=rfl
   cases th with
   | false =>
    have RX:=zH (show nx=noS 8 by rw [VV.out,if_neg (by decide),if_pos rfl])
    have R:=zH (show r=([],(k:Int),8) by
     have:=NX.out
     rw [NE.out,RX.out,if_pos (by decide)] at this
     rw [V2.out,runS_bad this n (by omega)];rfl)
    clear VV V2 NX NE NG RX
    go_wp2_with (first
     | (refine wpList_load_mid rfl 44 (.tmp 32) rfl b0 (off+k*19) rfl _ _ RG.out Tryz.underlying44 rfl (by kernel_rfl) ?_)
     | (refine sB 44 (.tmp 9) (.tmp 33) wr.heap.size (nN d.kind d.a d.b d.k d.s d.p d.out d.za d.zb W nw cw B nb cb d.qm d.qs d.qz d.rm d.rs d.rz d.lo d.hi) (Blk.now _ _ _ _ rfl) ?_;intro w7 B7 g7;have G7:=zH (show Below wr.heap.size wr w7 from ((Below.refl _ _).alloc (Nat.le_refl _) _).grown g7 (by simp) (fun k h=>by have:=Option.some.inj h;omega));have BD:=zH B7;clear B7 g7)
     | (refine lB 44 (.tmp 9) wr.heap.size BD.out Tryz.underlying44 ?_))
    refine (CK.out _ G7.out).mono ?_
    rintro e w8 ⟨rfl,hb⟩
    have G8:=zH (below_later hb G7.out)
    replace BD:=zH (BD.out.fut hb)
    clear hb
    go_wp2_with (refine lB 44 (.tmp 9) wr.heap.size BD.out Tryz.underlying44 ?_)
    refine (TH.out _).mono ?_
    rintro e w9 ⟨rfl,hb⟩
    replace G8:=zH (below_later hb G8.out)
    clear hb
    go_wp2_with fail
    go_ret3
    rw [R.out]
    exact RetShapes.none (below_later G8.out HB.out)
   | true =>
    obtain ⟨u1,u2,u3,u4⟩:=TB.out rfl
    have hk9:=KD.out rfl
    obtain ⟨ia,hia⟩:∃ ia,d.a.toNat=ia:=⟨_,rfl⟩
    obtain ⟨ib,hib⟩:∃ ib,(secondV d).toNat=ib:=⟨_,rfl⟩
    obtain ⟨g0,go0,rfl,_,_,k1,k2,k3,_,q1⟩:=SL.out.shape_at ia (by omega)
    obtain ⟨g0',go0',e0,_,_,k4,k5,k6,_,q2⟩:=SL.out.shape_at ib (by omega)
    obtain ⟨rfl,rfl⟩:g0=g0'∧go0=go0':=by simpa using e0
    have V3:=zH (show nx=shapeV (out.getD ia (0,0,0)).1 (out.getD ia (0,0,0)).2.1 (out.getD ia (0,0,0)).2.2 (out.getD ib (0,0,0)).1 (out.getD ib (0,0,0)).2.1 (out.getD ib (0,0,0)).2.2 d by rw [VV.out,if_neg (by decide),if_neg (by decide),hia,hib])
    obtain ⟨⟨x,y,z⟩,hx⟩:∃ s,out.getD ia (0,0,0)=s:=⟨_,rfl⟩
    obtain ⟨⟨x',y',z'⟩,hx'⟩:∃ s,out.getD ib (0,0,0)=s:=⟨_,rfl⟩
    rw [hx] at q1 k1 k2 k3 V3
    rw [hx'] at q2 k4 k5 k6 V3
    simp only at q1 q2 k1 k2 k3 k4 k5 k6 V3
    have Q1:=zH q1
    have Q2:=zH q2
    obtain ⟨sc,hsc⟩:∃ s,secondV d=s:=⟨_,rfl⟩
    rw [hsc] at u3 u4 SE hib
    have KS:=zH (fun w=>rkshape_any x y z x' y' z' d W nw cw B nb cb w k1 k2 k3 HIN.out.out HIN.out.p Q8.out.symm Q32.out.symm (by have:=HSZ.out;have:=Q8.out;omega) (by have:=HSZ.out;have:=Q32.out;omega) hk9)
    obtain ⟨⟨⟨x1,x2,x3⟩,xe⟩,hxx⟩:∃ s,shapeV x y z x' y' z' d=s:=⟨_,rfl⟩
    rw [hxx] at KS V3
    simp only [retS] at KS
    have NX2:=NX.out
    rw [NE.out] at NG NX2
    rw [V3.out] at NG NX2
    simp only at NX2
    replace NX:=zH NX2
    clear NX2 NE V3 VV hx hx' hxx hsc k1 k2 k3 k4 k5 k6 q1 q2 e0 hk9 KD TB HIN
    have y2:d.a < (k:Int)+1:=by omega
    have y4:sc < (k:Int)+1:=by omega
    clear u2 u4
    go_wp2_with (first
     | (refine wpList_load_mid rfl 44 (.tmp 32) rfl b0 (off+k*19) rfl _ _ RG.out Tryz.underlying44 rfl (by kernel_rfl) ?_)
     | (refine sB 44 (.tmp 9) (.tmp 33) wr.heap.size (nN d.kind d.a d.b d.k d.s d.p d.out d.za d.zb W nw cw B nb cb d.qm d.qs d.qz d.rm d.rs d.rz d.lo d.hi) (Blk.now _ _ _ _ rfl) ?_;intro w7 B7 g7;have G7:=zH (show Below wr.heap.size wr w7 from ((Below.refl _ _).alloc (Nat.le_refl _) _).grown g7 (by simp) (fun k h=>by have:=Option.some.inj h;omega));have BD:=zH B7;clear B7 g7)
     | (refine lB 44 (.tmp 9) wr.heap.size BD.out Tryz.underlying44 ?_))
    refine (CK.out _ G7.out).mono ?_
    rintro e w8 ⟨rfl,hb⟩
    have G8:=zH (below_later hb G7.out)
    replace BD:=zH (BD.out.fut hb)
    clear hb
    go_wp2_with (refine lB 44 (.tmp 9) wr.heap.size BD.out Tryz.underlying44 ?_)
    refine (TH.out _).mono ?_
    rintro e w9 ⟨rfl,hb⟩
    replace G8:=zH (below_later hb G8.out)
    replace BD:=zH (BD.out.fut hb)
    clear hb CK TH
    have zg:=G8.out.size
    go_upto_region 17 with (fail)
    go_cut [11,12] (fun b c wx=>∃ g,b=.pointer (some ⟨g,0,none⟩)∧c=.int .i64 xe∧Blk wx g 24 (sN x1 x2 x3)∧Below wr.heap.size wr wx)
    case first =>
     refine wp_region_held_drew (S:=fun w'=>w'.cell? ⟨wr.heap.size,1,none⟩=some (.int .i64 d.a)∧Blk w' wr.heap.size 44 (nN d.kind d.a d.b d.k d.s d.p d.out d.za d.zb W nw cw B nb cb d.qm d.qs d.qz d.rm d.rs d.rz d.lo d.hi)∧Below wr.heap.size wr w') (by kernel_rfl) ?_ (fun hS=>?_)
     ·exact ⟨BD.out.drew.cell 1,BD.out.drew,G8.out.drew⟩
     refine tkH 0 rfl (yieldsIf_load_blk (by rfl) 44 (.tmp 9) rfl wr.heap.size 0 rfl _ _ (nN d.kind d.a d.b d.k d.s d.p d.out d.za d.zb W nw cw B nb cb d.qm d.qs d.qz d.rm d.rs d.rz d.lo d.hi) _ (fun w hs=>hs.2.1) Tryz.underlying44 rfl (by kernel_rfl) rfl) hS ?_
     try simp only [pX]
     refine kH 1 rfl hS ?_
     try simp only [pX]
     refine kH 2 rfl hS ?_
     try simp only [pX]
     refine kH 3 rfl hS ?_
     try simp only [pX]
     refine kH 4 rfl hS ?_
     try simp only [pX]
     refine tkH 5 rfl (yieldsIf_load_mid (by rfl) 24 (.tmp 51) rfl g0 (go0+ia*3) (by rw [← hia];rfl) _ _ (fun w hs j v hv=>cell_later hs.2.2 (Q1.out j v hv)) Tryz.underlying24 rfl (by kernel_rfl)) hS ?_
     try simp only [pX]
     refine kH 6 rfl hS ?_
     try simp only [pX]
     refine tkH 7 rfl (yieldsIf_load_blk (by rfl) 44 (.tmp 9) rfl wr.heap.size 0 rfl _ _ (nN d.kind d.a d.b d.k d.s d.p d.out d.za d.zb W nw cw B nb cb d.qm d.qs d.qz d.rm d.rs d.rz d.lo d.hi) _ (fun w hs=>hs.2.1) Tryz.underlying44 rfl (by kernel_rfl) rfl) hS ?_
     try simp only [pX]
     refine wpAnyH_ready (rs:=[8,15]) (by kernel_rfl) (by simp) ?_
     refine AllReadyH.cons rfl (fun K hK=>?_) (AllReadyH.cons rfl (fun K hK=>?_) AllReadyH.nil)
     ·go_simp
      refine (SE.out _).mono ?_
      rintro e wa ⟨rfl,hb⟩
      refine hK.out _ _ ?_ (fun hS=>?_)
      ·exact ⟨cell_later hb hS.1,Blk.later hS.2.1 hb,below_later hb hS.2.2⟩
      clear hK K
      try simp only [pX]
      refine kH 9 rfl hS ?_
      try simp only [pX]
      refine tkH 10 rfl (yieldsIf_load_mid (by rfl) 24 (.tmp 56) rfl g0 (go0+ib*3) (by rw [← hib];rfl) _ _ (fun w hs j v hv=>cell_later hs.2.2 (Q2.out j v hv)) Tryz.underlying24 rfl (by kernel_rfl)) hS ?_
      try simp only [pX]
      refine wpAnyH_ready (rs:=[11,15]) (by kernel_rfl) (by simp) ?_
      refine AllReadyH.cons rfl (fun K hK=>?_) (AllReadyH.cons rfl (fun K hK=>?_) AllReadyH.nil)
      ·go_simp
       refine (KS.out _).mono ?_
       rintro e wb ⟨rfl,hb⟩
       refine hK.out _ _ ?_ (fun hS=>?_)
       ·exact ⟨cell_later hb hS.1,Blk.later hS.2.1 hb,below_later hb hS.2.2⟩
       clear hK K
       try simp only [pX]
       refine kH 12 rfl hS ?_
       try simp only [pX]
       refine kH 13 rfl hS ?_
       try simp only [pX]
       refine kH 14 rfl hS ?_
       try simp only [pX]
       refine rH 15 rfl (fun K hK=>?_)
       go_simp
       have zlt:wr.heap.size < wb.heap.size:=hS.2.1.lt
       have hb:Below wb.heap.size wb (wb.alloc (.cells (sN 0 0 0) 24)):=(Below.refl _ _).alloc (Nat.le_refl _) _
       have BZ:=zH (Blk.now wb wb.heap.size 24 (sN 0 0 0) rfl)
       refine hK.out _ _ ?_ (fun hS=>?_)
       ·exact ⟨cell_later hb hS.1,Blk.later hS.2.1 hb,below_later hb hS.2.2⟩
       clear hK K
       try simp only [pX]
       refine rH 16 rfl (fun K hK=>?_)
       rw [if_pos (by rfl)]
       refine oper_store_blk 24 (.tmp 11) (.tmp 59) rfl wb.heap.size 0 (sN x1 x2 x3) rfl rfl _ (sN 0 0 0) (sN x1 x2 x3) BZ.out (by simp) (by kernel_rfl) (by simp [Value.oneCell']) rfl ?_
       intro wc BX gc
       have BDc:=hS.2.1.away gc (by omega)
       refine hK.out _ _ ⟨BDc.cell 1,BDc,hS.2.2.grown gc hS.2.2.size (fun k h=>by have:=Option.some.inj h;omega)⟩ (fun hS=>?_)
       clear hK K
       try simp only [pX]
       refine kH 17 rfl hS ?_
       try simp only [pX]
       refine wpAnyH_done (by kernel_rfl) ?_ _
       have FZ:=hS.2.2
       go_wp2_with fail
       go_meet
       case rel=>exact ⟨_,rfl,rfl,BX,FZ⟩
      ·go_simp
       have zlt:wr.heap.size < wa.heap.size:=hS.2.1.lt
       have hb:Below wa.heap.size wa (wa.alloc (.cells (sN 0 0 0) 24)):=(Below.refl _ _).alloc (Nat.le_refl _) _
       have BZ:=zH (Blk.now wa wa.heap.size 24 (sN 0 0 0) rfl)
       refine hK.out _ _ ?_ (fun hS=>?_)
       ·exact ⟨cell_later hb hS.1,Blk.later hS.2.1 hb,below_later hb hS.2.2⟩
       clear hK K
       try simp only [pX]
       refine rH 11 rfl (fun K hK=>?_)
       go_simp
       refine (KS.out _).mono ?_
       rintro e wb ⟨rfl,hb⟩
       replace BZ:=zH (BZ.out.later hb)
       refine hK.out _ _ ?_ (fun hS=>?_)
       ·exact ⟨cell_later hb hS.1,Blk.later hS.2.1 hb,below_later hb hS.2.2⟩
       clear hK K
       try simp only [pX]
       refine kH 12 rfl hS ?_
       try simp only [pX]
       refine kH 13 rfl hS ?_
       try simp only [pX]
       refine kH 14 rfl hS ?_
       try simp only [pX]
       refine rH 16 rfl (fun K hK=>?_)
       rw [if_pos (by rfl)]
       refine oper_store_blk 24 (.tmp 11) (.tmp 59) rfl wa.heap.size 0 (sN x1 x2 x3) rfl rfl _ (sN 0 0 0) (sN x1 x2 x3) BZ.out (by simp) (by kernel_rfl) (by simp [Value.oneCell']) rfl ?_
       intro wc BX gc
       have BDc:=hS.2.1.away gc (by omega)
       refine hK.out _ _ ⟨BDc.cell 1,BDc,hS.2.2.grown gc hS.2.2.size (fun k h=>by have:=Option.some.inj h;omega)⟩ (fun hS=>?_)
       clear hK K
       try simp only [pX]
       refine kH 17 rfl hS ?_
       try simp only [pX]
       refine wpAnyH_done (by kernel_rfl) ?_ _
       have FZ:=hS.2.2
       go_wp2_with fail
       go_meet
       case rel=>exact ⟨_,rfl,rfl,BX,FZ⟩
     ·go_simp
      have zlt:wr.heap.size < w9.heap.size:=hS.2.1.lt
      have hb:Below w9.drew.heap.size w9.drew (w9.drew.alloc (.cells (sN 0 0 0) 24)):=(Below.refl _ _).alloc (Nat.le_refl _) _
      have BZ:=zH (Blk.now w9.drew w9.heap.size 24 (sN 0 0 0) rfl)
      refine hK.out _ _ ?_ (fun hS=>?_)
      ·exact ⟨cell_later hb hS.1,Blk.later hS.2.1 hb,below_later hb hS.2.2⟩
      clear hK K
      try simp only [pX]
      refine rH 8 rfl (fun K hK=>?_)
      go_simp
      refine (SE.out _).mono ?_
      rintro e wa ⟨rfl,hb⟩
      replace BZ:=zH (BZ.out.later hb)
      refine hK.out _ _ ?_ (fun hS=>?_)
      ·exact ⟨cell_later hb hS.1,Blk.later hS.2.1 hb,below_later hb hS.2.2⟩
      clear hK K
      try simp only [pX]
      refine kH 9 rfl hS ?_
      try simp only [pX]
      refine tkH 10 rfl (yieldsIf_load_mid (by rfl) 24 (.tmp 56) rfl g0 (go0+ib*3) (by rw [← hib];rfl) _ _ (fun w hs j v hv=>cell_later hs.2.2 (Q2.out j v hv)) Tryz.underlying24 rfl (by kernel_rfl)) hS ?_
      try simp only [pX]
      refine rH 11 rfl (fun K hK=>?_)
      go_simp
      refine (KS.out _).mono ?_
      rintro e wb ⟨rfl,hb⟩
      replace BZ:=zH (BZ.out.later hb)
      refine hK.out _ _ ?_ (fun hS=>?_)
      ·exact ⟨cell_later hb hS.1,Blk.later hS.2.1 hb,below_later hb hS.2.2⟩
      clear hK K
      try simp only [pX]
      refine kH 12 rfl hS ?_
      try simp only [pX]
      refine kH 13 rfl hS ?_
      try simp only [pX]
      refine kH 14 rfl hS ?_
      try simp only [pX]
      refine rH 16 rfl (fun K hK=>?_)
      rw [if_pos (by rfl)]
      refine oper_store_blk 24 (.tmp 11) (.tmp 59) rfl w9.heap.size 0 (sN x1 x2 x3) rfl rfl _ (sN 0 0 0) (sN x1 x2 x3) BZ.out (by simp) (by kernel_rfl) (by simp [Value.oneCell']) rfl ?_
      intro wc BX gc
      have BDc:=hS.2.1.away gc (by omega)
      refine hK.out _ _ ⟨BDc.cell 1,BDc,hS.2.2.grown gc hS.2.2.size (fun k h=>by have:=Option.some.inj h;omega)⟩ (fun hS=>?_)
      clear hK K
      try simp only [pX]
      refine kH 17 rfl hS ?_
      try simp only [pX]
      refine wpAnyH_done (by kernel_rfl) ?_ _
      have FZ:=hS.2.2
      go_wp2_with fail
      go_meet
      case rel=>exact ⟨_,rfl,rfl,BX,FZ⟩
    case rest =>
     obtain ⟨wb,rfl,rfl,BX,hbx⟩:=hcut
     have G9:=zH hbx
     have BXX:=zH BX
     have OC:=zH (ON.out.below G9.out (Nat.le_refl _) (fun _ h=>h.elim))
     clear BX hbx BD G8 SE KS
     by_cases hxe:xe=0
     ·subst hxe
      have gx:=zH (NG.out rfl)
      rw [if_neg (by decide)] at NX
      clear NG
      go_wp2_with (first
       | (refine lB 24 (.tmp 11) wb BXX.out Tryz.underlying24 ?_)
       | (refine wpList_lit1 rfl (.tmp 66) rfl ei_shape (sN x1 x2 x3) rfl rfl (by decide) ?_)
       | (at_builtin;refine wpList_push (W:=wc) (cs:=(sN x1 x2 x3)) (E:=24) (t:=tShape) (S:=fun _=>False) (base:=w.heap.size) rfl (.tmp 65) (.tmp 67) rfl ei_shape rfl OC.out 1 rfl (x1,x2,x3) gx.out.rep (by unfold maxLen;omega) (by omega) (Nat.le_trans zr G9.out.size) (fun _ h=>h.elim) ?_;intro v' wz ownz gz atz))
      have bz:=(below_later G9.out HB.out).grown gz (Nat.le_trans zr G9.out.size) (fun j hj=>(OC.out.lt j hj).1)
      exact ⟨⟨k+1,out ++ [(x1,x2,x3)],by omega,by go_num,NX.out,ownz,bz⟩,by simp [intOf];omega⟩
     ·have t5:(xe != 0)=true:=by simpa using hxe
      rw [if_pos hxe] at NX
      have R:=zH (show r=([],(k:Int),xe) by rw [V2.out,runS_bad NX.out n (by omega)];rfl)
      clear hxe NG NX V2
      go_wp2_with fail
      go_ret3
      rw [R.out]
      exact RetShapes.none (below_later G9.out HB.out)
  ·obtain rfl:k=n:=by omega
   have R:=zH (show r=(out,(k:Int),0) by rw [V2.out,HR.out];rfl)
   clear hlt hk V2
   go_wp2_with fail
   go_ret3
   rw [R.out]
   exact ⟨A1,_,c1,rfl,SL.out,HB.out⟩
def takesB (d:Node) (k:Nat) (v:Int):Bool:=thereV d ((k:Int)+1) && (decide (d.a=v) || decide (secondV d=v))
def lastTo (l:List Node) (v:Int):Nat → Int
 | 0=>0
 | k+1=>if takesB (l.getD k noNode) k v then (k:Int)+1 else lastTo l v k
def lastV (l:List Node) (v:Int):Int:=if v=l.length then (l.length:Int)+1 else lastTo l v l.length
def lastRow (l:List Node) (n k:Nat):List Int:=(List.range (n+1)).map fun (v:Nat)=>lastTo l (v:Int) k
theorem lastRow_length (l:List Node) (n k:Nat):(lastRow l n k).length=n+1:=by simp [lastRow]
theorem lastRow_get (l:List Node) (n k v:Nat) (h:v≤n):(lastRow l n k)[v]?=some (lastTo l (v:Int) k):=by
 unfold lastRow
 rw [List.getElem?_map,List.getElem?_range (by omega)]
 rfl
theorem lastRow_skip {l:List Node} {n k:Nat} {d:Node} (hd:l[k]?=some d) (h:thereV d ((k:Int)+1)=false):lastRow l n (k+1)=lastRow l n k:=by
 have e:l.getD k noNode=d:=by rw [List.getD_eq_getElem?_getD,hd];rfl
 unfold lastRow
 apply List.map_congr_left
 intro v _
 show (if takesB (l.getD k noNode) k v then _ else _)=_
 rw [e]
 unfold takesB
 rw [h]
 rfl
theorem lastRow_put {l:List Node} {n k:Nat} {d:Node} (hd:l[k]?=some d) (h:thereV d ((k:Int)+1)=true) (hk:k < n) :
  lastRow l n (k+1)=((lastRow l n k).set d.a.toNat ((k:Int)+1)).set (secondV d).toNat ((k:Int)+1):=by
 have e:l.getD k noNode=d:=by rw [List.getD_eq_getElem?_getD,hd];rfl
 obtain ⟨b1,b2,b3,b4⟩:=there_bd h
 apply List.ext_getElem?
 intro v
 rw [List.getElem?_set,List.getElem?_set]
 simp only [List.length_set,lastRow_length]
 by_cases hv:v≤n
 ·rw [lastRow_get _ _ _ _ hv,lastRow_get _ _ _ _ hv]
  have:lastTo l (v:Int) (k+1)=if takesB d k v then (k:Int)+1 else lastTo l (v:Int) k:=by
   show (if takesB (l.getD k noNode) k v then _ else _)=_
   rw [e]
  rw [this]
  unfold takesB
  rw [h]
  by_cases q1:(secondV d).toNat=v
  ·rw [if_pos q1]
   have:secondV d=(v:Int):=by omega
   simp [this];omega
  ·rw [if_neg q1]
   have n1:¬ secondV d=(v:Int):=by omega
   by_cases q2:d.a.toNat=v
   ·rw [if_pos q2]
    have:d.a=(v:Int):=by omega
    simp [this];omega
   ·rw [if_neg q2]
    have n2:¬ d.a=(v:Int):=by omega
    simp [n1,n2]
 ·rw [List.getElem?_eq_none (by rw [lastRow_length];omega),List.getElem?_eq_none (by rw [lastRow_length];omega)]
  by_cases q1:(secondV d).toNat=v
  ·omega
  ·rw [if_neg q1]
   by_cases q2:d.a.toNat=v
   ·omega
   ·rw [if_neg q2]
theorem takes_in {d:Node} {m:Int} (h:thereV d m=true) (j:Nat) (hj:j < (takesV d).length):0≤(takesV d).getD j 0∧(takesV d).getD j 0 < m:=by
 unfold thereV at h
 simp only [Bool.and_eq_true,Bool.or_eq_true,decide_eq_true_eq] at h
 unfold takesV at *
 by_cases k6:d.kind=6
 ·rw [if_pos k6] at hj ⊢
  match j,hj with
  | 0,_=>exact h.1
  | 1,_=>exact h.2.elim (fun q=>absurd k6 q) id
 ·rw [if_neg k6] at hj ⊢
  match j,hj with
  | 0,_=>exact h.1
def putSome (r:List Int) (t:List Int) (x:Int):Nat → List Int
 | 0=>r
 | j+1=>(putSome r t x j).set (t.getD j 0).toNat x
theorem lastRow_takes {l:List Node} {n k:Nat} {d:Node} (hd:l[k]?=some d) (h:thereV d ((k:Int)+1)=true) (hk:k < n) :
  putSome (lastRow l n k) (takesV d) ((k:Int)+1) (takesV d).length=lastRow l n (k+1):=by
 rw [lastRow_put hd h hk]
 unfold takesV secondV
 by_cases k6:d.kind=6
 ·rw [if_pos k6,if_pos k6];rfl
 ·rw [if_neg k6,if_neg k6,List.set_set];rfl
def lastsV (l:List Node):List Int:=(List.range (l.length+1)).map fun (v:Nat)=>lastV l (v:Int)
theorem lastsV_length (l:List Node):(lastsV l).length=l.length+1:=by simp [lastsV]
theorem lastRow_end (l:List Node):(lastRow l l.length l.length).set l.length ((l.length:Int)+1)=lastsV l:=by
 apply List.ext_getElem?
 intro v
 rw [List.getElem?_set,lastRow_length]
 by_cases hv:v≤l.length
 ·unfold lastsV
  rw [List.getElem?_map,List.getElem?_range (by omega),lastRow_get _ _ _ _ hv]
  show _=some (lastV l (v:Int))
  unfold lastV
  by_cases q:l.length=v
  ·rw [if_pos q,if_pos (by omega),if_pos (by omega)]
  ·rw [if_neg q,if_neg (by omega)]
 ·rw [if_neg (by omega),List.getElem?_eq_none (by rw [lastRow_length];omega),List.getElem?_eq_none (by rw [lastsV_length];omega)]
theorem lastRow_zero (l:List Node) (n:Nat):lastRow l n 0=List.replicate (n+1) 0:=by
 apply List.ext_getElem?
 intro v
 by_cases hv:v≤n
 ·rw [lastRow_get _ _ _ _ hv,List.getElem?_replicate,if_pos (by omega)];rfl
 ·rw [List.getElem?_eq_none (by rw [lastRow_length];omega),List.getElem?_eq_none (by simp;omega)]
set_option maxHeartbeats 8000000 in
theorem last_any (A:Option Addr) (n cap:Nat) (l:List Node) (w:World) (hs:Sl tNode w (blo w.heap.size) A n cap l) (h12:n≤12) :
  Calls Tryz.prog 12 #[.slice A n cap] w (RetSl (tInt .i64) w (lastsV l)):=by
 have hn:=hs.n_eq
 have LE:=zH (lastRow_end l)
 rw [hn] at LE
 obtain ⟨r,hr⟩:∃ r,lastsV l=r:=⟨_,rfl⟩
 rw [hr] at LE ⊢
 have HN:=zH hn
 have H:=zH hs
 clear hs hr hn
 go_enter Tryz.func12,Tryz.ntmps12
 go_wp2_with (at_make;refine wpList_make (t:=tInt .i64) (S:=fun _=>False) (base:=w.heap.size) rfl _ _ rfl ei_int .i64 .i64 _ _ (n+1) rfl rfl (by simp) (by simp) ?_ ?_ ?_ 0 ⟨rfl,by decide⟩ (fun _ h=>h.elim) ?_;rotate_right;intro w1 hown hg)
 rotate_left
 ·omega
 ·unfold maxLen;omega
 ·simp
 have HO:=zH hown
 have B1:=zH ((Below.refl w.heap.size w).grown hg (Nat.le_refl _) (by simp))
 clear hown hg
 go_loopw [14] (fun i wr=>∃ k:Nat,k≤n∧i=.int .i64 k∧Below w.heap.size w wr ∧
   Own (tInt .i64) wr (fun _=>False) w.heap.size 3 (.slice (some ⟨w.heap.size,0,none⟩) (n+1) (n+1)) (n+1) (lastRow l n k)) (fun i _=>n - (intOf i).toNat)
 case atStart=>exact ⟨0,Nat.zero_le _,rfl,B1.out,by rw [lastRow_zero];exact HO.out⟩
 case round =>
  obtain ⟨k,hk,rfl,hb,hown⟩:=hrel
  have HB:=zH hb
  have ON:=zH hown
  clear hb hown B1 HO
  by_cases hlt:k < n
  ·have p1:(k:Int) < (n:Int):=by omega
   obtain ⟨d,b0,off,W,nw,cw,B,nb,cb,hd,rfl,_,_,hin,hw8,hw32,hrg⟩:=(H.out.below HB.out (fun _ h=>h)).node_at k hlt
   have ia:=hin.a
   have ib:=hin.b
   have RG:=zH hrg
   have TI:=zH (fun h=>takes_in (d:=d) (m:=(k:Int)+1) h)
   have TR:=zH (fun w=>takes_any d W nw cw B nb cb w ia ib)
   have TH:=zH (fun w=>there_any d W nw cw B nb cb ((k:Int)+1) w ia ib)
   have LS:=zH (fun h=>lastRow_skip (l:=l) (n:=n) hd h)
   have LT:=zH (fun h=>lastRow_takes (l:=l) (n:=n) hd h hlt)
   clear hd hin hw8 hw32 hrg ia ib
   obtain ⟨th,hth⟩:∃ x,thereV d ((k:Int)+1)=x:=⟨_,rfl⟩
   rw [hth] at TI TH LS LT
   clear hth
   go_wp2_with (first
    | (refine wpList_load_mid rfl 44 (.tmp 17) rfl b0 (off+k*19) rfl _ _ RG.out Tryz.underlying44 rfl (by kernel_rfl) ?_)
    | (refine sB 44 (.tmp 5) (.tmp 18) wr.heap.size (nN d.kind d.a d.b d.k d.s d.p d.out d.za d.zb W nw cw B nb cb d.qm d.qs d.qz d.rm d.rs d.rz d.lo d.hi) (Blk.now _ _ _ _ rfl) ?_;intro w7 B7 g7;have G7:=zH (show Below wr.heap.size wr w7 from ((Below.refl _ _).alloc (Nat.le_refl _) _).grown g7 (by simp) (fun k h=>by have:=Option.some.inj h;omega));have BD:=zH B7;clear B7 g7)
    | (refine lB 44 (.tmp 5) wr.heap.size BD.out Tryz.underlying44 ?_))
   refine (TH.out _).mono ?_
   rintro e w8 ⟨rfl,hb⟩
   have G8:=zH (below_later hb (below_later G7.out HB.out))
   have O8:=zH ((ON.out.below G7.out (Nat.le_refl _) (fun _ h=>h.elim)).below hb (Nat.le_refl _) (fun _ h=>h.elim))
   replace BD:=zH (BD.out.fut hb)
   clear hb TH ON
   cases th with
   | false =>
    have E:=zH (LS.out rfl)
    clear LS LT TI TR
    go_wp2_with fail
    exact ⟨⟨k+1,by omega,by go_num,G8.out,by rw [E.out];exact O8.out⟩,by simp [intOf];omega⟩
   | true =>
    have E:=zH (LT.out rfl)
    have TJ:=zH (TI.out rfl)
    clear LS LT TI
    obtain ⟨t,ht⟩:∃ t,takesV d=t:=⟨_,rfl⟩
    rw [ht] at E TJ TR
    clear ht
    go_wp2_with (refine lB 44 (.tmp 5) wr.heap.size BD.out Tryz.underlying44 ?_)
    refine (TR.out _).mono ?_
    rintro e w9 ⟨A2,m,c2,rfl,hs2,hb⟩
    have hm:=hs2.n_eq
    have HM:=zH hm
    have hm2:=hs2.cap_le
    have hm3:=hs2.max_le
    have hm4:m≤9223372036854775807:=Nat.le_trans hm2 hm3
    have H2:=zH hs2
    have G9:=zH (below_later hb G8.out)
    have O9:=zH (O8.out.below hb (Nat.le_refl _) (fun _ h=>h.elim))
    have z8:=G8.out.size
    have lt8:=(O8.out.lt _ rfl).2
    have z9:=hb.size
    clear hb hs2 hm TR O8 BD hm2 hm3
    rw [HM.out] at E
    go_wp2_with fail
    go_loopw [27] (fun i wx=>∃ j:Nat,j≤m∧i=.int .i64 j∧Below w.heap.size w wx∧wx.heap.size=w9.heap.size∧Sl (tInt .i64) wx (bin w8.heap.size w9.heap.size) A2 m c2 t ∧
     Own (tInt .i64) wx (fun _=>False) w.heap.size 3 (.slice (some ⟨w.heap.size,0,none⟩) (n+1) (n+1)) (n+1) (putSome (lastRow l n k) t ((k:Int)+1) j)) (fun i _=>m - (intOf i).toNat)
    case atStart=>exact ⟨0,Nat.zero_le _,rfl,G9.out,rfl,H2.out,O9.out⟩
    case round =>
     obtain ⟨j,hj,rfl,hbx,hsz,hsl,hownx⟩:=hrel
     have HBX:=zH hbx
     have HSL:=zH hsl
     have HOX:=zH hownx
     have HSZ:=zH hsz
     clear hbx hsl hownx hsz
     by_cases hjm:j < m
     ·have p2:(j:Int) < (m:Int):=by omega
      obtain ⟨b2,off2,rfl,_,_,cj,_⟩:=HSL.out.int_at j hjm
      have hv:=TJ.out j (by rw [HM.out];exact hjm)
      obtain ⟨v,hvn⟩:∃ v:Nat,t.getD j 0=(v:Int):=⟨(t.getD j 0).toNat,by omega⟩
      rw [hvn] at cj hv
      have hvk:v < n+1:=by omega
      have p3:(v:Int) < (n:Int)+1:=by omega
      obtain ⟨x0,u0,_,_,c5,c6,c7,_⟩:=HOX.out.cell rfl v hvk
      have HV:=zH hvn
      clear hvn hv
      go_wp2_with fail
      obtain ⟨o3,g3⟩:=HOX.out.set1 rfl v (.int .i64 ((k:Int)+1)) ((k:Int)+1) ⟨rfl,by rw [inK_i64];omega⟩ (fun _ h=>h.elim)
      refine ⟨⟨j+1,by omega,by go_num,HBX.out.setCell (by simp) _,by simp [HSZ.out],HSL.out.keep fun b hb=>?_,?_⟩,by simp [intOf];omega⟩
      ·exact Below.heap_setCell _ _ _ _ (by have:=hb.1;show b ≠ w.heap.size;omega)
      ·show Own _ _ _ _ _ _ _ ((putSome (lastRow l n k) t ((k:Int)+1) j).set (t.getD j 0).toNat ((k:Int)+1))
       rw [HV.out]
       exact o3
     ·obtain rfl:j=m:=by omega
      clear hjm hj
      go_wp2_with fail
      exact ⟨⟨k+1,by omega,by go_num,HBX.out,by rw [← E.out];exact HOX.out⟩,by simp [intOf];omega⟩
  ·obtain rfl:k=n:=by omega
   obtain ⟨x0,u0,_,_,c5,c6,c7,_⟩:=ON.out.cell rfl k (by omega)
   clear hlt hk
   go_wp2_with fail
   obtain ⟨o3,g3⟩:=ON.out.set1 rfl k (.int .i64 ((k:Int)+1)) ((k:Int)+1) ⟨rfl,by rw [inK_i64];omega⟩ (fun _ h=>h.elim)
   go_ret
   rw [LE.out] at o3
   exact o3.ret (by decide) (HB.out.setCell (Nat.le_refl _) _) (fun _ h=>h.elim)
def fewN (l:List Node):Prop:=l.length≤12∧∀ d ∈ l,d.w.length≤1000∧d.bias.length≤100
set_option maxHeartbeats 8000000 in
theorem few27_any (A:Option Addr) (n cap:Nat) (l:List Node) (h v c:Int) (D:Option Addr) (m cm:Nat) (w:World) (hs:Sl tNode w (blo w.heap.size) A n cap l) :
  Calls Tryz.prog 5 #[.slice A n cap,.agg (tN h v c D m cm)] w fun e w'=>∃ b:Bool,e=.returned (.bool b)∧(b=true → fewN l∧m≤300)∧Below w.heap.size w w':=by
 have hn:=hs.n_eq
 have hmax:n≤9223372036854775807:=Nat.le_trans hs.cap_le hs.max_le
 have FR:=zH (Far.refl w)
 obtain ⟨w1,hw_w1,BA,k_w1⟩:=nB w (tN h v c D m cm) 27
 replace FR:=zH (FR.out.fut k_w1)
 clear k_w1
 have c3:=BA.out.cell 3
 have l1:w.heap.size < w1.heap.size:=by rw [← hw_w1];simp
 have H:=zH (hs.later FR.out.out (Nat.le_refl _))
 have HN:=zH hn
 clear hs hn
 by_cases c1:12 < n
 ·have t1:decide (12 < (n:Int))=true:=by simp;omega
  go_enter Tryz.func5,Tryz.ntmps5
  go_wp2_with fail
  go_ret
  exact ⟨false,rfl,(fun h=>by cases h),FR.out.out⟩
 have t1:decide (12 < (n:Int))=false:=by simp;omega
 by_cases c2:300 < m
 ·have t2:decide (300 < (m:Int))=true:=by simp;omega
  go_enter Tryz.func5,Tryz.ntmps5
  go_wp2_with fail
  go_ret
  exact ⟨false,rfl,(fun h=>by cases h),FR.out.out⟩
 have t2:decide (300 < (m:Int))=false:=by simp;omega
 go_enter Tryz.func5,Tryz.ntmps5
 go_wp2_with fail
 clear c3 t1 t2 hw_w1
 go_loopw [5] (fun i wr=>∃ k:Nat,k≤n∧i=.int .i64 k∧Below w1.heap.size w1 wr∧∀ j d,j < k → l[j]?=some d → d.w.length≤1000∧d.bias.length≤100) (fun i _=>n - (intOf i).toNat)
 case atStart=>exact ⟨0,Nat.zero_le _,rfl,Below.refl _ _,fun j d hj=>absurd hj (Nat.not_lt_zero _)⟩
 case round =>
  obtain ⟨k,hk,rfl,hb,hq⟩:=hrel
  have HB:=zH hb
  have HQ:=zH hq
  clear hb hq
  by_cases hlt:k < n
  ·have p1:(k:Int) < (n:Int):=by omega
   obtain ⟨d,b0,off,W,nw,cw,B,nb,cb,hd,rfl,_,_,hin,hw8,hw32,hrg⟩:=(H.out.below HB.out (fun _ h=>h)).node_at k hlt
   have c9:=hrg 9 _ rfl
   have c10:=hrg 10 _ rfl
   have q8:=hw8.n_eq
   have q32:=hw32.n_eq
   have m8:=Nat.le_trans hw8.cap_le hw8.max_le
   have m32:=Nat.le_trans hw32.cap_le hw32.max_le
   have HD:=zH hd
   clear hd hin hw8 hw32 hrg
   by_cases g1:1000 < nw
   ·have t3:decide (1000 < (nw:Int))=true:=by simp;omega
    clear q8 q32
    go_wp2_with fail
    go_ret
    exact ⟨false,rfl,(fun h=>by cases h),below_later HB.out FR.out.out⟩
   have t3:decide (1000 < (nw:Int))=false:=by simp;omega
   by_cases g2:100 < nb
   ·have t4:decide (100 < (nb:Int))=true:=by simp;omega
    clear q8 q32
    go_wp2_with fail
    go_ret
    exact ⟨false,rfl,(fun h=>by cases h),below_later HB.out FR.out.out⟩
   have t4:decide (100 < (nb:Int))=false:=by simp;omega
   have Q:=zH (show d.w.length≤1000∧d.bias.length≤100 by omega)
   clear q8 q32
   go_wp2_with fail
   refine ⟨⟨k+1,by omega,by go_num,HB.out,fun j d' hj hd'=>?_⟩,by simp [intOf];omega⟩
   by_cases hjk:j < k
   ·exact HQ.out j d' hjk hd'
   ·obtain rfl:j=k:=by omega
    rw [HD.out] at hd'
    cases hd'
    exact Q.out
  ·obtain rfl:k=n:=by omega
   have FN:=zH (show fewN l from ⟨by rw [HN.out];omega,fun d hd=>by
    obtain ⟨j,hj⟩:=List.getElem?_of_mem hd
    exact HQ.out j d (by have:=(List.getElem?_eq_some_iff.1 hj).1;rw [HN.out] at this;exact this) hj⟩)
   have MM:=zH (show m≤300 by omega)
   clear hlt hk
   go_wp2_with fail
   go_ret
   exact ⟨true,rfl,fun _=>⟨FN.out,MM.out⟩,below_later HB.out FR.out.out⟩
def flatN:Node:=⟨9,0,0,0,0,0,0,0,0,[],[],0,0,0,0,0,0,0,0⟩
theorem ei_node:EI Tryz.prog 22 44 (.agg (nN 0 0 0 0 0 0 0 0 0 none 0 0 none 0 0 0 0 0 0 0 0 0 0)) 19 168:=⟨Tryz.underlying22,by kernel_rfl,rfl,by decide⟩
theorem flatN_rep (w:World) (S:Nat → Prop):tNode.rep w S [.int .i64 9,.int .i64 0,.int .i64 0,.int .i64 0,.int .i64 0,.int .i64 0,.int .i64 0,.int .i8 0,.int .i8 0,.slice none 0 0,.slice none 0 0,.int .i32 0,.int .i64 0,.int .i8 0,.int .i32 0,.int .i64 0,.int .i8 0,.int .i8 0,.int .i8 0] flatN :=
 ⟨(9,0,0,0,0,0,0,0,0,[],[],(0,0,0),(0,0,0),0,0),rfl,
  _,_,rfl,⟨rfl,by decide⟩,_,_,rfl,⟨rfl,by decide⟩,_,_,rfl,⟨rfl,by decide⟩,_,_,rfl,⟨rfl,by decide⟩,_,_,rfl,⟨rfl,by decide⟩,_,_,rfl,⟨rfl,by decide⟩,_,_,rfl,⟨rfl,by decide⟩,_,_,rfl,⟨rfl,by decide⟩,_,_,rfl,⟨rfl,by decide⟩,
  _,_,rfl,(Sl.nil _ _ _).rep,_,_,rfl,(Sl.nil _ _ _).rep,_,_,rfl,⟨_,_,rfl,⟨rfl,by decide⟩,_,_,rfl,⟨rfl,by decide⟩,rfl,by decide⟩,_,_,rfl,⟨_,_,rfl,⟨rfl,by decide⟩,_,_,rfl,⟨rfl,by decide⟩,rfl,by decide⟩,_,_,rfl,⟨rfl,by decide⟩,rfl,by decide⟩
set_option maxHeartbeats 8000000 in
theorem known27_any (w:World):Calls Tryz.prog 6 #[] w fun e w'=>e=.returned (.bool true)∧Below w.heap.size w w':=by
 go_enter Tryz.func6,Tryz.ntmps6
 go_wp2_with (refine wpList_lit2 rfl (.tmp 1) (.tmp 2) rfl ei_node (.agg (nN 9 0 0 0 0 0 0 0 0 none 0 0 none 0 0 0 0 0 0 0 0 0 0)) (.agg (nN 9 0 0 0 0 0 0 0 0 none 0 0 none 0 0 0 0 0 0 0 0 0 0)) rfl rfl #[.int .i64 9,.int .i64 0,.int .i64 0,.int .i64 0,.int .i64 0,.int .i64 0,.int .i64 0,.int .i8 0,.int .i8 0,.slice none 0 0,.slice none 0 0,.int .i32 0,.int .i64 0,.int .i8 0,.int .i32 0,.int .i64 0,.int .i8 0,.int .i8 0,.int .i8 0,.int .i64 9,.int .i64 0,.int .i64 0,.int .i64 0,.int .i64 0,.int .i64 0,.int .i64 0,.int .i8 0,.int .i8 0,.slice none 0 0,.slice none 0 0,.int .i32 0,.int .i64 0,.int .i8 0,.int .i32 0,.int .i64 0,.int .i8 0,.int .i8 0,.int .i8 0] (by decide) (by decide) (by kernel_rfl) ?_)
 have b1:Below w.heap.size w (w.alloc (.cells #[.int .i64 9,.int .i64 0,.int .i64 0,.int .i64 0,.int .i64 0,.int .i64 0,.int .i64 0,.int .i8 0,.int .i8 0,.slice none 0 0,.slice none 0 0,.int .i32 0,.int .i64 0,.int .i8 0,.int .i32 0,.int .i64 0,.int .i8 0,.int .i8 0,.int .i8 0,.int .i64 9,.int .i64 0,.int .i64 0,.int .i64 0,.int .i64 0,.int .i64 0,.int .i64 0,.int .i8 0,.int .i8 0,.slice none 0 0,.slice none 0 0,.int .i32 0,.int .i64 0,.int .i8 0,.int .i32 0,.int .i64 0,.int .i8 0,.int .i8 0,.int .i8 0] 44)):=(Below.refl _ _).alloc (Nat.le_refl _) _
 refine (last_any _ _ _ [flatN,flatN] _ (Sl.of_block (heap_now _ _ _ rfl) (show blo _ _ by simp [blo]) (Nat.le_refl _) (by unfold maxLen;decide) rfl ((RowsOf.one (flatN_rep _ _)).snoc (us:=[.int .i64 9,.int .i64 0,.int .i64 0,.int .i64 0,.int .i64 0,.int .i64 0,.int .i64 0,.int .i8 0,.int .i8 0,.slice none 0 0,.slice none 0 0,.int .i32 0,.int .i64 0,.int .i8 0,.int .i32 0,.int .i64 0,.int .i8 0,.int .i8 0,.int .i8 0]) (flatN_rep _ _))) (by decide)).mono ?_
 rintro e w2 ⟨A,n,cap,rfl,hs,hb⟩
 rw [show lastsV [flatN,flatN]=[2,0,3] by decide] at hs
 have FR:=zH (below_later hb b1)
 have HS:=zH hs
 clear hs hb b1
 go_wp2_with fail
 refine (samei_eq _ _ _ _ _ _ [2,0,3] _ (HS.out.old.fut ((Below.refl _ _).alloc (Nat.le_refl _) _)) (Sl.lit [2,0,3] (heap_now _ _ _ rfl) rfl (by intro x hx;simp at hx;rcases hx with rfl|rfl|rfl <;> decide) (show blo _ _ by simp [blo]) rfl rfl (by simp [maxLen]))).mono ?_
 rintro e w3 ⟨rfl,hb⟩
 have G:=zH (below_later hb (FR.out.alloc FR.out.size _))
 clear hb HS
 go_wp2_with fail
 go_ret
 exact ⟨rfl,G.out⟩
theorem opens_nodes:Opens Tryz.prog 22 (tSlice tNode):=opens_slice Tryz.underlying22 (by kernel_rfl) (by decide) opens_node
end Go.Proofs.YtjkmjpjknmghlaaGreat
