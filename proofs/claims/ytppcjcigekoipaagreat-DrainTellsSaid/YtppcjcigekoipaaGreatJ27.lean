/-
  The shape that a node makes (layers 18, 25): dense.Shape.
-/
import Derived.Test.YtppcjcigekoipaaGreatJ08
set_option linter.unusedVariables false
set_option linter.unusedSimpArgs false
namespace Go.Proofs.YtppcjcigekoipaaGreat
open Go.RowKit Go.ChangeShapes Go.WideShapes
set_option maxRecDepth 100000
set_option maxHeartbeats 8000000 in
theorem dense25_any (h v c:Int) (d:Node) (W:Option Addr) (nw cw:Nat) (B:Option Addr) (nb cb:Nat) (w:World) (h0:InK .i64 h) (h1:InK .i64 v) (h2:InK .i64 c) (hout:InK .i64 d.out) (hnw:nw=d.w.length) (hnb:nb=d.bias.length) (mw:nw≤1048576) (mb:nb≤1048576) :
  Calls Tryz.prog 146 #[.agg (sN h v c),.agg (nN d.kind d.a d.b d.k d.s d.p d.out d.za d.zb W nw cw B nb cb d.qm d.qs d.qz d.rm d.rs d.rz d.lo d.hi)] w fun e w'=>e=retS (denseV h v c d)∧Below w.heap.size w w':=by
 obtain ⟨r,hr⟩:∃ r,denseV h v c d=r:=⟨_,rfl⟩
 rw [hr]
 unfold denseV at hr
 rw [← hnw,← hnb] at hr
 have VV:=zH hr.symm
 have RI:=zH (fun w=>shapeRight_any h c v w h0 h1 h2)
 have RT:=zH (fun w=>shapeRight_any 1 d.out 1 w (by decide) (by decide) hout)
 have RE:=zH (fun w=>elems_any h c v w h0 h1 h2)
 have m0:=elems_range h v c
 have q0:=elems_range 1 1 d.out
 have qb:=zH (elems_bd (h:=1) (v:=1) (c:=d.out))
 obtain ⟨m,hm⟩:∃ m,elems h v c=m:=⟨_,rfl⟩
 obtain ⟨q,hq⟩:∃ q,elems 1 1 d.out=q:=⟨_,rfl⟩
 rw [hm] at VV RI RE m0
 rw [hq] at VV RT q0 qb
 clear hr h0 h1 h2 hout hnw hnb hm hq
 have FR:=zH (Far.refl w)
 obtain ⟨w1,hw_w1,BA,k_w1⟩:=nB w (sN h v c) 23
 replace FR:=zH (FR.out.fut k_w1)
 clear k_w1
 obtain ⟨w2,hw_w2,BN,k_w2⟩:=nB w1 (nN d.kind d.a d.b d.k d.s d.p d.out d.za d.zb W nw cw B nb cb d.qm d.qs d.qz d.rm d.rs d.rz d.lo d.hi) 87
 replace FR:=zH (FR.out.fut k_w2)
 replace BA:=zH (BA.out.fut k_w2)
 clear k_w2
 obtain ⟨w3,hw_w3,BR,k_w3⟩:=nB w2 (sN 0 0 0) 23
 replace FR:=zH (FR.out.fut k_w3)
 replace BA:=zH (BA.out.fut k_w3)
 replace BN:=zH (BN.out.fut k_w3)
 clear k_w3
 have l1:w.heap.size < w1.heap.size:=by rw [← hw_w1];simp
 have l2:w1.heap.size < w2.heap.size:=by rw [← hw_w2];simp
 have l3:w2.heap.size < w3.heap.size:=by rw [← hw_w3];simp
 have n6:=BN.out.cell 6
 obtain ⟨w4,hw_w4,BT,k_w4⟩:=nB w3 (sN 0 0 0) 23
 replace FR:=zH (FR.out.fut k_w4)
 replace BA:=zH (BA.out.fut k_w4)
 replace BN:=zH (BN.out.fut k_w4)
 replace BR:=zH (BR.out.fut k_w4)
 clear k_w4
 by_cases c1:m=0
 ·have m_:decide (0 < m)=false:=by simp;omega
  have R:=zH (show r=noS 5 by rw [VV.out,if_pos (.inl c1)])
  clear c1 VV m0 q0 qb
  go_enter Tryz.func146,Tryz.ntmps146
  go_wp2_with (first
   | (refine sB 23 (.tmp 6) (.tmp 9) w3.heap.size (sN 1 1 d.out) BT.out ?_;intro w5 BT6 g6;have BA5:=zH (BA.out.away g6 (by omega));have BN5:=zH (BN.out.away g6 (by omega));have BR5:=zH (BR.out.away g6 (by omega));have FR5:=zH (FR.out.away g6 (by omega));have BT5:=zH BT6)
   | (refine lB 23 (.tmp 2) w.heap.size BA5.out Tryz.underlying23 ?_))
  clear hw_w1 hw_w2 hw_w3 hw_w4 n6 g6 BT6 FR BA BN BR BT
  refine (RI.out _).mono ?_
  rintro e w6 ⟨rfl,hb⟩
  replace FR5:=zH (FR5.out.fut hb)
  replace BA5:=zH (BA5.out.fut hb)
  replace BN5:=zH (BN5.out.fut hb)
  replace BR5:=zH (BR5.out.fut hb)
  replace BT5:=zH (BT5.out.fut hb)
  clear hb
  go_wp2_with (first
   | (refine sB 23 (.tmp 4) (.tmp 18) w2.heap.size (sN 0 0 0) BR5.out ?_;intro w7 BR7 g7))
  refine rC BR7 Tryz.underlying23 ?_;exact ⟨by rw [R.out];rfl,(FR5.out.away g7 (by omega)).out⟩
 have m_:decide (0 < m)=true:=by simp;omega
 by_cases c2:q=0
 ·have q_:decide (0 < q)=false:=by simp;omega
  have R:=zH (show r=noS 5 by rw [VV.out,if_pos (.inr c2)])
  clear c1 c2 VV m0 q0 qb
  go_enter Tryz.func146,Tryz.ntmps146
  go_wp2_with (first
   | (refine sB 23 (.tmp 6) (.tmp 9) w3.heap.size (sN 1 1 d.out) BT.out ?_;intro w5 BT6 g6;have BA5:=zH (BA.out.away g6 (by omega));have BN5:=zH (BN.out.away g6 (by omega));have BR5:=zH (BR.out.away g6 (by omega));have FR5:=zH (FR.out.away g6 (by omega));have BT5:=zH BT6)
   | (refine lB 23 (.tmp 2) w.heap.size BA5.out Tryz.underlying23 ?_))
  clear hw_w1 hw_w2 hw_w3 hw_w4 n6 g6 BT6 FR BA BN BR BT
  refine (RI.out _).mono ?_
  rintro e w6 ⟨rfl,hb⟩
  replace FR5:=zH (FR5.out.fut hb)
  replace BA5:=zH (BA5.out.fut hb)
  replace BN5:=zH (BN5.out.fut hb)
  replace BR5:=zH (BR5.out.fut hb)
  replace BT5:=zH (BT5.out.fut hb)
  clear hb
  have u0:=BT5.out.cell 0
  have u1:=BT5.out.cell 1
  have u2:=BT5.out.cell 2
  go_wp2_with fail
  clear u0 u1 u2
  refine (RT.out _).mono ?_
  rintro e w8 ⟨rfl,hb⟩
  replace FR5:=zH (FR5.out.fut hb)
  replace BA5:=zH (BA5.out.fut hb)
  replace BN5:=zH (BN5.out.fut hb)
  replace BR5:=zH (BR5.out.fut hb)
  replace BT5:=zH (BT5.out.fut hb)
  clear hb
  go_wp2_with (first
   | (refine sB 23 (.tmp 4) (.tmp 18) w2.heap.size (sN 0 0 0) BR5.out ?_;intro w7 BR7 g7))
  refine rC BR7 Tryz.underlying23 ?_;exact ⟨by rw [R.out];rfl,(FR5.out.away g7 (by omega)).out⟩
 have q_:decide (0 < q)=true:=by simp;omega
 have ob:=qb.out c2
 obtain ⟨m1,hm1⟩:∃ x,d.out*m=x:=⟨_,rfl⟩
 have b1:=prod_bd (a:=d.out) (b:=m) (m:=1024) (n:=1024) (by omega) (by omega) (by omega) (by omega) (by omega)
 have e1:IntKind.i64.wrap (d.out*m)=m1:=by rw [← hm1];exact IntWalk.i64_in _ (by omega)
 have V2:=zH (show r=(if ¬ (nw:Int)=m1 ∨ 16384 < nw ∨ ¬ (nb:Int)=d.out then noS 9 else ((1,1,d.out),0)) by rw [VV.out,if_neg (by omega),hm1])
 clear VV c1 c2 m0 q0 qb ob b1 hm1
 by_cases p1:(nw:Int)=m1
 rotate_left
 ·have t1:((nw:Int) != m1)=true:=by simpa using p1
  have R:=zH (show r=noS 9 by rw [V2.out,if_pos (.inl p1)])
  clear V2 p1
  go_enter Tryz.func146,Tryz.ntmps146
  go_wp2_with (first
   | (refine sB 23 (.tmp 6) (.tmp 9) w3.heap.size (sN 1 1 d.out) BT.out ?_;intro w5 BT6 g6;have BA5:=zH (BA.out.away g6 (by omega));have BN5:=zH (BN.out.away g6 (by omega));have BR5:=zH (BR.out.away g6 (by omega));have FR5:=zH (FR.out.away g6 (by omega));have BT5:=zH BT6)
   | (refine lB 23 (.tmp 2) w.heap.size BA5.out Tryz.underlying23 ?_))
  clear hw_w1 hw_w2 hw_w3 hw_w4 n6 g6 BT6 FR BA BN BR BT
  refine (RI.out _).mono ?_
  rintro e w6 ⟨rfl,hb⟩
  replace FR5:=zH (FR5.out.fut hb)
  replace BA5:=zH (BA5.out.fut hb)
  replace BN5:=zH (BN5.out.fut hb)
  replace BR5:=zH (BR5.out.fut hb)
  replace BT5:=zH (BT5.out.fut hb)
  clear hb
  have u0:=BT5.out.cell 0
  have u1:=BT5.out.cell 1
  have u2:=BT5.out.cell 2
  go_wp2_with fail
  clear u0 u1 u2
  refine (RT.out _).mono ?_
  rintro e w8 ⟨rfl,hb⟩
  replace FR5:=zH (FR5.out.fut hb)
  replace BA5:=zH (BA5.out.fut hb)
  replace BN5:=zH (BN5.out.fut hb)
  replace BR5:=zH (BR5.out.fut hb)
  replace BT5:=zH (BT5.out.fut hb)
  clear hb
  go_wp2_with fail
  have y2:=fun (x:Ext w8)=>(BA5.out.ext x).cell 2
  have y0:=fun (x:Ext w8)=>(BA5.out.ext x).cell 0
  have y1:=fun (x:Ext w8)=>(BA5.out.ext x).cell 1
  have z6:=fun (x:Ext w8)=>(BN5.out.ext x).cell 6
  have z9:=fun (x:Ext w8)=>(BN5.out.ext x).cell 9
  have z10:=fun (x:Ext w8)=>(BN5.out.ext x).cell 10
  have E1:=zH (fun x:Ext w8=>calls_ext x (RE.out x.1))
  refine wp_region_ext w8 (by kernel_rfl) (by kernel_rfl) (Below.refl _ _) ?_
  repeat (go_big_quiet_step (exact E1.out _))
  refine wpQuiet_nil ?_
  rintro w9 ⟨x,hx⟩
  have hb:Below w8.heap.size w8 w9:=by rw [hx];exact x.2
  clear y0 y1 y2 z6 z9 z10 E1 hx x
  replace FR5:=zH (FR5.out.fut hb)
  replace BA5:=zH (BA5.out.fut hb)
  replace BN5:=zH (BN5.out.fut hb)
  replace BR5:=zH (BR5.out.fut hb)
  replace BT5:=zH (BT5.out.fut hb)
  clear hb
  try dsimp only
  go_wp2_with (first
   | (refine sB 23 (.tmp 4) (.tmp 42) w2.heap.size (sN 0 0 0) BR5.out ?_;intro w7 BR7 g7))
  refine rC BR7 Tryz.underlying23 ?_;exact ⟨by rw [R.out];rfl,(FR5.out.away g7 (by omega)).out⟩
 have t1:((nw:Int) != m1)=false:=by simpa using p1
 have P1:=zH p1
 clear p1
 by_cases p2:16384 < nw
 ·have t2:decide (16384 < (nw:Int))=true:=by simp;omega
  have R:=zH (show r=noS 9 by rw [V2.out,if_pos (.inr (.inl p2))])
  clear V2 p2
  go_enter Tryz.func146,Tryz.ntmps146
  go_wp2_with (first
   | (refine sB 23 (.tmp 6) (.tmp 9) w3.heap.size (sN 1 1 d.out) BT.out ?_;intro w5 BT6 g6;have BA5:=zH (BA.out.away g6 (by omega));have BN5:=zH (BN.out.away g6 (by omega));have BR5:=zH (BR.out.away g6 (by omega));have FR5:=zH (FR.out.away g6 (by omega));have BT5:=zH BT6)
   | (refine lB 23 (.tmp 2) w.heap.size BA5.out Tryz.underlying23 ?_))
  clear hw_w1 hw_w2 hw_w3 hw_w4 n6 g6 BT6 FR BA BN BR BT
  refine (RI.out _).mono ?_
  rintro e w6 ⟨rfl,hb⟩
  replace FR5:=zH (FR5.out.fut hb)
  replace BA5:=zH (BA5.out.fut hb)
  replace BN5:=zH (BN5.out.fut hb)
  replace BR5:=zH (BR5.out.fut hb)
  replace BT5:=zH (BT5.out.fut hb)
  clear hb
  have u0:=BT5.out.cell 0
  have u1:=BT5.out.cell 1
  have u2:=BT5.out.cell 2
  go_wp2_with fail
  clear u0 u1 u2
  refine (RT.out _).mono ?_
  rintro e w8 ⟨rfl,hb⟩
  replace FR5:=zH (FR5.out.fut hb)
  replace BA5:=zH (BA5.out.fut hb)
  replace BN5:=zH (BN5.out.fut hb)
  replace BR5:=zH (BR5.out.fut hb)
  replace BT5:=zH (BT5.out.fut hb)
  clear hb
  go_wp2_with fail
  have y2:=fun (x:Ext w8)=>(BA5.out.ext x).cell 2
  have y0:=fun (x:Ext w8)=>(BA5.out.ext x).cell 0
  have y1:=fun (x:Ext w8)=>(BA5.out.ext x).cell 1
  have z6:=fun (x:Ext w8)=>(BN5.out.ext x).cell 6
  have z9:=fun (x:Ext w8)=>(BN5.out.ext x).cell 9
  have z10:=fun (x:Ext w8)=>(BN5.out.ext x).cell 10
  have E1:=zH (fun x:Ext w8=>calls_ext x (RE.out x.1))
  refine wp_region_ext w8 (by kernel_rfl) (by kernel_rfl) (Below.refl _ _) ?_
  repeat (go_big_quiet_step (exact E1.out _))
  refine wpQuiet_nil ?_
  rintro w9 ⟨x,hx⟩
  have hb:Below w8.heap.size w8 w9:=by rw [hx];exact x.2
  clear y0 y1 y2 z6 z9 z10 E1 hx x
  replace FR5:=zH (FR5.out.fut hb)
  replace BA5:=zH (BA5.out.fut hb)
  replace BN5:=zH (BN5.out.fut hb)
  replace BR5:=zH (BR5.out.fut hb)
  replace BT5:=zH (BT5.out.fut hb)
  clear hb
  try dsimp only
  go_wp2_with (first
   | (refine sB 23 (.tmp 4) (.tmp 42) w2.heap.size (sN 0 0 0) BR5.out ?_;intro w7 BR7 g7))
  refine rC BR7 Tryz.underlying23 ?_;exact ⟨by rw [R.out];rfl,(FR5.out.away g7 (by omega)).out⟩
 have t2:decide (16384 < (nw:Int))=false:=by simp;omega
 have P2:=zH p2
 clear p2
 by_cases p3:(nb:Int)=d.out
 rotate_left
 ·have t3:((nb:Int) != d.out)=true:=by simpa using p3
  have R:=zH (show r=noS 9 by rw [V2.out,if_pos (.inr (.inr p3))])
  clear V2 p3
  go_enter Tryz.func146,Tryz.ntmps146
  go_wp2_with (first
   | (refine sB 23 (.tmp 6) (.tmp 9) w3.heap.size (sN 1 1 d.out) BT.out ?_;intro w5 BT6 g6;have BA5:=zH (BA.out.away g6 (by omega));have BN5:=zH (BN.out.away g6 (by omega));have BR5:=zH (BR.out.away g6 (by omega));have FR5:=zH (FR.out.away g6 (by omega));have BT5:=zH BT6)
   | (refine lB 23 (.tmp 2) w.heap.size BA5.out Tryz.underlying23 ?_))
  clear hw_w1 hw_w2 hw_w3 hw_w4 n6 g6 BT6 FR BA BN BR BT
  refine (RI.out _).mono ?_
  rintro e w6 ⟨rfl,hb⟩
  replace FR5:=zH (FR5.out.fut hb)
  replace BA5:=zH (BA5.out.fut hb)
  replace BN5:=zH (BN5.out.fut hb)
  replace BR5:=zH (BR5.out.fut hb)
  replace BT5:=zH (BT5.out.fut hb)
  clear hb
  have u0:=BT5.out.cell 0
  have u1:=BT5.out.cell 1
  have u2:=BT5.out.cell 2
  go_wp2_with fail
  clear u0 u1 u2
  refine (RT.out _).mono ?_
  rintro e w8 ⟨rfl,hb⟩
  replace FR5:=zH (FR5.out.fut hb)
  replace BA5:=zH (BA5.out.fut hb)
  replace BN5:=zH (BN5.out.fut hb)
  replace BR5:=zH (BR5.out.fut hb)
  replace BT5:=zH (BT5.out.fut hb)
  clear hb
  go_wp2_with fail
  have y2:=fun (x:Ext w8)=>(BA5.out.ext x).cell 2
  have y0:=fun (x:Ext w8)=>(BA5.out.ext x).cell 0
  have y1:=fun (x:Ext w8)=>(BA5.out.ext x).cell 1
  have z6:=fun (x:Ext w8)=>(BN5.out.ext x).cell 6
  have z9:=fun (x:Ext w8)=>(BN5.out.ext x).cell 9
  have z10:=fun (x:Ext w8)=>(BN5.out.ext x).cell 10
  have E1:=zH (fun x:Ext w8=>calls_ext x (RE.out x.1))
  refine wp_region_ext w8 (by kernel_rfl) (by kernel_rfl) (Below.refl _ _) ?_
  repeat (go_big_quiet_step (exact E1.out _))
  refine wpQuiet_nil ?_
  rintro w9 ⟨x,hx⟩
  have hb:Below w8.heap.size w8 w9:=by rw [hx];exact x.2
  clear y0 y1 y2 z6 z9 z10 E1 hx x
  replace FR5:=zH (FR5.out.fut hb)
  replace BA5:=zH (BA5.out.fut hb)
  replace BN5:=zH (BN5.out.fut hb)
  replace BR5:=zH (BR5.out.fut hb)
  replace BT5:=zH (BT5.out.fut hb)
  clear hb
  try dsimp only
  go_wp2_with (first
   | (refine sB 23 (.tmp 4) (.tmp 42) w2.heap.size (sN 0 0 0) BR5.out ?_;intro w7 BR7 g7))
  refine rC BR7 Tryz.underlying23 ?_;exact ⟨by rw [R.out];rfl,(FR5.out.away g7 (by omega)).out⟩
 have t3:((nb:Int) != d.out)=false:=by simpa using p3
 have R:=zH (show r=((1,1,d.out),0) by rw [V2.out,if_neg (by rintro (h|h|h);exact h P1.out;exact P2.out h;exact h p3)])
 clear V2 p3
 go_enter Tryz.func146,Tryz.ntmps146
 go_wp2_with (first
  | (refine sB 23 (.tmp 6) (.tmp 9) w3.heap.size (sN 1 1 d.out) BT.out ?_;intro w5 BT6 g6;have BA5:=zH (BA.out.away g6 (by omega));have BN5:=zH (BN.out.away g6 (by omega));have BR5:=zH (BR.out.away g6 (by omega));have FR5:=zH (FR.out.away g6 (by omega));have BT5:=zH BT6)
  | (refine lB 23 (.tmp 2) w.heap.size BA5.out Tryz.underlying23 ?_))
 clear hw_w1 hw_w2 hw_w3 hw_w4 n6 g6 BT6 FR BA BN BR BT
 refine (RI.out _).mono ?_
 rintro e w6 ⟨rfl,hb⟩
 replace FR5:=zH (FR5.out.fut hb)
 replace BA5:=zH (BA5.out.fut hb)
 replace BN5:=zH (BN5.out.fut hb)
 replace BR5:=zH (BR5.out.fut hb)
 replace BT5:=zH (BT5.out.fut hb)
 clear hb
 have u0:=BT5.out.cell 0
 have u1:=BT5.out.cell 1
 have u2:=BT5.out.cell 2
 go_wp2_with fail
 clear u0 u1 u2
 refine (RT.out _).mono ?_
 rintro e w8 ⟨rfl,hb⟩
 replace FR5:=zH (FR5.out.fut hb)
 replace BA5:=zH (BA5.out.fut hb)
 replace BN5:=zH (BN5.out.fut hb)
 replace BR5:=zH (BR5.out.fut hb)
 replace BT5:=zH (BT5.out.fut hb)
 clear hb
 go_wp2_with fail
 have y2:=fun (x:Ext w8)=>(BA5.out.ext x).cell 2
 have y0:=fun (x:Ext w8)=>(BA5.out.ext x).cell 0
 have y1:=fun (x:Ext w8)=>(BA5.out.ext x).cell 1
 have z6:=fun (x:Ext w8)=>(BN5.out.ext x).cell 6
 have z9:=fun (x:Ext w8)=>(BN5.out.ext x).cell 9
 have z10:=fun (x:Ext w8)=>(BN5.out.ext x).cell 10
 have E1:=zH (fun x:Ext w8=>calls_ext x (RE.out x.1))
 refine wp_region_ext w8 (by kernel_rfl) (by kernel_rfl) (Below.refl _ _) ?_
 repeat (go_big_quiet_step (exact E1.out _))
 refine wpQuiet_nil ?_
 rintro w9 ⟨x,hx⟩
 have hb:Below w8.heap.size w8 w9:=by rw [hx];exact x.2
 clear y0 y1 y2 z6 z9 z10 E1 hx x
 replace FR5:=zH (FR5.out.fut hb)
 replace BA5:=zH (BA5.out.fut hb)
 replace BN5:=zH (BN5.out.fut hb)
 replace BR5:=zH (BR5.out.fut hb)
 replace BT5:=zH (BT5.out.fut hb)
 clear hb
 try dsimp only
 go_wp2_with (first
  | (refine lB 23 (.tmp 6) w3.heap.size BT5.out Tryz.underlying23 ?_)
  | (refine sB 23 (.tmp 4) (.tmp 43) w2.heap.size (sN 1 1 d.out) BR5.out ?_;intro w7 BR7 g7))
 refine rC BR7 Tryz.underlying23 ?_;exact ⟨by rw [R.out];rfl,(FR5.out.away g7 (by omega)).out⟩
end Go.Proofs.YtppcjcigekoipaaGreat
