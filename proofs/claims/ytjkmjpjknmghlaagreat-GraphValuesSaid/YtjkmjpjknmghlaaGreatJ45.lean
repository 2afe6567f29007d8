/-
  The shape that a node makes (layers 18, 25): dense.Shape.
  The shape that a node makes (layers 18, 25): kinds.around.
  The shape that a node makes (layers 18, 25): kinds.plainShape.
  The shape that a node makes (layers 18, 25): kinds.Shape.
  The shape that a node makes (layers 18, 25): the document's Shape.
  The shape that a node makes (layers 18, 25): the document's Shape.
-/
import Derived.Test.YtjkmjpjknmghlaaGreatJ11
import Derived.Test.YtjkmjpjknmghlaaGreatJ14
import Derived.Test.YtjkmjpjknmghlaaGreatJ12
import Derived.Test.YtjkmjpjknmghlaaGreatJ13
import Derived.Test.YtjkmjpjknmghlaaGreatJ32
set_option linter.unusedVariables false
set_option linter.unusedSimpArgs false
namespace Go.Proofs.YtjkmjpjknmghlaaGreat
open Go.RowKit Go.ChangeShapes Go.WideShapes
set_option maxRecDepth 100000
set_option maxHeartbeats 8000000 in
theorem dense25_any (h v c:Int) (d:Node) (W:Option Addr) (nw cw:Nat) (B:Option Addr) (nb cb:Nat) (w:World) (h0:InK .i64 h) (h1:InK .i64 v) (h2:InK .i64 c) (hout:InK .i64 d.out) (hnw:nw=d.w.length) (hnb:nb=d.bias.length) (mw:nw≤1048576) (mb:nb≤1048576) :
  Calls Tryz.prog 76 #[.agg (sN h v c),.agg (nN d.kind d.a d.b d.k d.s d.p d.out d.za d.zb W nw cw B nb cb d.qm d.qs d.qz d.rm d.rs d.rz d.lo d.hi)] w fun e w'=>e=retS (denseV h v c d)∧Below w.heap.size w w':=by
 obtain ⟨r,hr⟩:∃ r,denseV h v c d=r:=⟨_,rfl⟩
 rw [hr]
 unfold denseV at hr
 rw [← hnw,← hnb] at hr
 have VV:=zH hr.symm
 have RI:=zH (fun w=>shapeRight_any h c v w h0 h1 h2)
 have RT:=zH (fun w=>shapeRight_any 1 d.out 1 w (by decide) (by decide) hout)
 have RE:=zH (fun w=>elems_any h c v w h0 h1 h2)
 have m0:=elems_range h v c
 have q0:=elems_range 1 1 d.out
 have qb:=zH (elems_bd (h:=1) (v:=1) (c:=d.out))
 obtain ⟨m,hm⟩:∃ m,elems h v c=m:=⟨_,rfl⟩
 obtain ⟨q,hq⟩:∃ q,elems 1 1 d.out=q:=⟨_,rfl⟩
 rw [hm] at VV RI RE m0
 rw [hq] at VV RT q0 qb
 clear hr h0 h1 h2 hout hnw hnb hm hq
 have FR:=zH (Far.refl w)
 obtain ⟨w1,hw_w1,BA,k_w1⟩:=nB w (sN h v c) 24
 replace FR:=zH (FR.out.fut k_w1)
 clear k_w1
 obtain ⟨w2,hw_w2,BN,k_w2⟩:=nB w1 (nN d.kind d.a d.b d.k d.s d.p d.out d.za d.zb W nw cw B nb cb d.qm d.qs d.qz d.rm d.rs d.rz d.lo d.hi) 44
 replace FR:=zH (FR.out.fut k_w2)
 replace BA:=zH (BA.out.fut k_w2)
 clear k_w2
 obtain ⟨w3,hw_w3,BR,k_w3⟩:=nB w2 (sN 0 0 0) 24
 replace FR:=zH (FR.out.fut k_w3)
 replace BA:=zH (BA.out.fut k_w3)
 replace BN:=zH (BN.out.fut k_w3)
 clear k_w3
 have l1:w.heap.size < w1.heap.size:=by rw [← hw_w1];simp
 have l2:w1.heap.size < w2.heap.size:=by rw [← hw_w2];simp
 have l3:w2.heap.size < w3.heap.size:=by rw [← hw_w3];simp
 have n6:=BN.out.cell 6
 obtain ⟨w4,hw_w4,BT,k_w4⟩:=nB w3 (sN 0 0 0) 24
 replace FR:=zH (FR.out.fut k_w4)
 replace BA:=zH (BA.out.fut k_w4)
 replace BN:=zH (BN.out.fut k_w4)
 replace BR:=zH (BR.out.fut k_w4)
 clear k_w4
 by_cases c1:m=0
 ·have m_:decide (0 < m)=false:=by simp;omega
  have R:=zH (show r=noS 5 by rw [VV.out,if_pos (.inl c1)])
  clear c1 VV m0 q0 qb
  go_enter Tryz.func76,Tryz.ntmps76
  go_wp2_with (first
   | (refine sB 24 (.tmp 6) (.tmp 9) w3.heap.size (sN 1 1 d.out) BT.out ?_;intro w5 BT6 g6;have BA5:=zH (BA.out.away g6 (by omega));have BN5:=zH (BN.out.away g6 (by omega));have BR5:=zH (BR.out.away g6 (by omega));have FR5:=zH (FR.out.away g6 (by omega));have BT5:=zH BT6)
   | (refine lB 24 (.tmp 2) w.heap.size BA5.out Tryz.underlying24 ?_))
  clear hw_w1 hw_w2 hw_w3 hw_w4 n6 g6 BT6 FR BA BN BR BT
  refine (RI.out _).mono ?_
  rintro e w6 ⟨rfl,hb⟩
  replace FR5:=zH (FR5.out.fut hb)
  replace BA5:=zH (BA5.out.fut hb)
  replace BN5:=zH (BN5.out.fut hb)
  replace BR5:=zH (BR5.out.fut hb)
  replace BT5:=zH (BT5.out.fut hb)
  clear hb
  go_wp2_with (first
   | (refine sB 24 (.tmp 4) (.tmp 18) w2.heap.size (sN 0 0 0) BR5.out ?_;intro w7 BR7 g7))
  refine rC BR7 Tryz.underlying24 ?_;exact ⟨by rw [R.out];rfl,(FR5.out.away g7 (by omega)).out⟩
 have m_:decide (0 < m)=true:=by simp;omega
 by_cases c2:q=0
 ·have q_:decide (0 < q)=false:=by simp;omega
  have R:=zH (show r=noS 5 by rw [VV.out,if_pos (.inr c2)])
  clear c1 c2 VV m0 q0 qb
  go_enter Tryz.func76,Tryz.ntmps76
  go_wp2_with (first
   | (refine sB 24 (.tmp 6) (.tmp 9) w3.heap.size (sN 1 1 d.out) BT.out ?_;intro w5 BT6 g6;have BA5:=zH (BA.out.away g6 (by omega));have BN5:=zH (BN.out.away g6 (by omega));have BR5:=zH (BR.out.away g6 (by omega));have FR5:=zH (FR.out.away g6 (by omega));have BT5:=zH BT6)
   | (refine lB 24 (.tmp 2) w.heap.size BA5.out Tryz.underlying24 ?_))
  clear hw_w1 hw_w2 hw_w3 hw_w4 n6 g6 BT6 FR BA BN BR BT
  refine (RI.out _).mono ?_
  rintro e w6 ⟨rfl,hb⟩
  replace FR5:=zH (FR5.out.fut hb)
  replace BA5:=zH (BA5.out.fut hb)
  replace BN5:=zH (BN5.out.fut hb)
  replace BR5:=zH (BR5.out.fut hb)
  replace BT5:=zH (BT5.out.fut hb)
  clear hb
  have u0:=BT5.out.cell 0
  have u1:=BT5.out.cell 1
  have u2:=BT5.out.cell 2
  go_wp2_with fail
  clear u0 u1 u2
  refine (RT.out _).mono ?_
  rintro e w8 ⟨rfl,hb⟩
  replace FR5:=zH (FR5.out.fut hb)
  replace BA5:=zH (BA5.out.fut hb)
  replace BN5:=zH (BN5.out.fut hb)
  replace BR5:=zH (BR5.out.fut hb)
  replace BT5:=zH (BT5.out.fut hb)
  clear hb
  go_wp2_with (first
   | (refine sB 24 (.tmp 4) (.tmp 18) w2.heap.size (sN 0 0 0) BR5.out ?_;intro w7 BR7 g7))
  refine rC BR7 Tryz.underlying24 ?_;exact ⟨by rw [R.out];rfl,(FR5.out.away g7 (by omega)).out⟩
 have q_:decide (0 < q)=true:=by simp;omega
 have ob:=qb.out c2
 obtain ⟨m1,hm1⟩:∃ x,d.out*m=x:=⟨_,rfl⟩
 have b1:=prod_bd (a:=d.out) (b:=m) (m:=1024) (n:=1024) (by omega) (by omega) (by omega) (by omega) (by omega)
 have e1:IntKind.i64.wrap (d.out*m)=m1:=by rw [← hm1];exact IntWalk.i64_in _ (by omega)
 have V2:=zH (show r=(if ¬ (nw:Int)=m1 ∨ 16384 < nw ∨ ¬ (nb:Int)=d.out then noS 9 else ((1,1,d.out),0)) by rw [VV.out,if_neg (by omega),hm1])
 clear VV c1 c2 m0 q0 qb ob b1 hm1
 by_cases p1:(nw:Int)=m1
 rotate_left
 ·have t1:((nw:Int) != m1)=true:=by simpa using p1
  have R:=zH (show r=noS 9 by rw [V2.out,if_pos (.inl p1)])
  clear V2 p1
  go_enter Tryz.func76,Tryz.ntmps76
  go_wp2_with (first
   | (refine sB 24 (.tmp 6) (.tmp 9) w3.heap.size (sN 1 1 d.out) BT.out ?_;intro w5 BT6 g6;have BA5:=zH (BA.out.away g6 (by omega));have BN5:=zH (BN.out.away g6 (by omega));have BR5:=zH (BR.out.away g6 (by omega));have FR5:=zH (FR.out.away g6 (by omega));have BT5:=zH BT6)
   | (refine lB 24 (.tmp 2) w.heap.size BA5.out Tryz.underlying24 ?_))
  clear hw_w1 hw_w2 hw_w3 hw_w4 n6 g6 BT6 FR BA BN BR BT
  refine (RI.out _).mono ?_
  rintro e w6 ⟨rfl,hb⟩
  replace FR5:=zH (FR5.out.fut hb)
  replace BA5:=zH (BA5.out.fut hb)
  replace BN5:=zH (BN5.out.fut hb)
  replace BR5:=zH (BR5.out.fut hb)
  replace BT5:=zH (BT5.out.fut hb)
  clear hb
  have u0:=BT5.out.cell 0
  have u1:=BT5.out.cell 1
  have u2:=BT5.out.cell 2
  go_wp2_with fail
  clear u0 u1 u2
  refine (RT.out _).mono ?_
  rintro e w8 ⟨rfl,hb⟩
  replace FR5:=zH (FR5.out.fut hb)
  replace BA5:=zH (BA5.out.fut hb)
  replace BN5:=zH (BN5.out.fut hb)
  replace BR5:=zH (BR5.out.fut hb)
  replace BT5:=zH (BT5.out.fut hb)
  clear hb
  go_wp2_with fail
  have y2:=fun (x:Ext w8)=>(BA5.out.ext x).cell 2
  have y0:=fun (x:Ext w8)=>(BA5.out.ext x).cell 0
  have y1:=fun (x:Ext w8)=>(BA5.out.ext x).cell 1
  have z6:=fun (x:Ext w8)=>(BN5.out.ext x).cell 6
  have z9:=fun (x:Ext w8)=>(BN5.out.ext x).cell 9
  have z10:=fun (x:Ext w8)=>(BN5.out.ext x).cell 10
  have E1:=zH (fun x:Ext w8=>calls_ext x (RE.out x.1))
  refine wp_region_ext w8 (by kernel_rfl) (by kernel_rfl) (Below.refl _ _) ?_
  repeat (go_big_quiet_step (exact E1.out _))
  refine wpQuiet_nil ?_
  rintro w9 ⟨x,hx⟩
  have hb:Below w8.heap.size w8 w9:=by rw [hx];exact x.2
  clear y0 y1 y2 z6 z9 z10 E1 hx x
  replace FR5:=zH (FR5.out.fut hb)
  replace BA5:=zH (BA5.out.fut hb)
  replace BN5:=zH (BN5.out.fut hb)
  replace BR5:=zH (BR5.out.fut hb)
  replace BT5:=zH (BT5.out.fut hb)
  clear hb
  try dsimp only
  go_wp2_with (first
   | (refine sB 24 (.tmp 4) (.tmp 42) w2.heap.size (sN 0 0 0) BR5.out ?_;intro w7 BR7 g7))
  refine rC BR7 Tryz.underlying24 ?_;exact ⟨by rw [R.out];rfl,(FR5.out.away g7 (by omega)).out⟩
 have t1:((nw:Int) != m1)=false:=by simpa using p1
 have P1:=zH p1
 clear p1
 by_cases p2:16384 < nw
 ·have t2:decide (16384 < (nw:Int))=true:=by simp;omega
  have R:=zH (show r=noS 9 by rw [V2.out,if_pos (.inr (.inl p2))])
  clear V2 p2
  go_enter Tryz.func76,Tryz.ntmps76
  go_wp2_with (first
   | (refine sB 24 (.tmp 6) (.tmp 9) w3.heap.size (sN 1 1 d.out) BT.out ?_;intro w5 BT6 g6;have BA5:=zH (BA.out.away g6 (by omega));have BN5:=zH (BN.out.away g6 (by omega));have BR5:=zH (BR.out.away g6 (by omega));have FR5:=zH (FR.out.away g6 (by omega));have BT5:=zH BT6)
   | (refine lB 24 (.tmp 2) w.heap.size BA5.out Tryz.underlying24 ?_))
  clear hw_w1 hw_w2 hw_w3 hw_w4 n6 g6 BT6 FR BA BN BR BT
  refine (RI.out _).mono ?_
  rintro e w6 ⟨rfl,hb⟩
  replace FR5:=zH (FR5.out.fut hb)
  replace BA5:=zH (BA5.out.fut hb)
  replace BN5:=zH (BN5.out.fut hb)
  replace BR5:=zH (BR5.out.fut hb)
  replace BT5:=zH (BT5.out.fut hb)
  clear hb
  have u0:=BT5.out.cell 0
  have u1:=BT5.out.cell 1
  have u2:=BT5.out.cell 2
  go_wp2_with fail
  clear u0 u1 u2
  refine (RT.out _).mono ?_
  rintro e w8 ⟨rfl,hb⟩
  replace FR5:=zH (FR5.out.fut hb)
  replace BA5:=zH (BA5.out.fut hb)
  replace BN5:=zH (BN5.out.fut hb)
  replace BR5:=zH (BR5.out.fut hb)
  replace BT5:=zH (BT5.out.fut hb)
  clear hb
  go_wp2_with fail
  have y2:=fun (x:Ext w8)=>(BA5.out.ext x).cell 2
  have y0:=fun (x:Ext w8)=>(BA5.out.ext x).cell 0
  have y1:=fun (x:Ext w8)=>(BA5.out.ext x).cell 1
  have z6:=fun (x:Ext w8)=>(BN5.out.ext x).cell 6
  have z9:=fun (x:Ext w8)=>(BN5.out.ext x).cell 9
  have z10:=fun (x:Ext w8)=>(BN5.out.ext x).cell 10
  have E1:=zH (fun x:Ext w8=>calls_ext x (RE.out x.1))
  refine wp_region_ext w8 (by kernel_rfl) (by kernel_rfl) (Below.refl _ _) ?_
  repeat (go_big_quiet_step (exact E1.out _))
  refine wpQuiet_nil ?_
  rintro w9 ⟨x,hx⟩
  have hb:Below w8.heap.size w8 w9:=by rw [hx];exact x.2
  clear y0 y1 y2 z6 z9 z10 E1 hx x
  replace FR5:=zH (FR5.out.fut hb)
  replace BA5:=zH (BA5.out.fut hb)
  replace BN5:=zH (BN5.out.fut hb)
  replace BR5:=zH (BR5.out.fut hb)
  replace BT5:=zH (BT5.out.fut hb)
  clear hb
  try dsimp only
  go_wp2_with (first
   | (refine sB 24 (.tmp 4) (.tmp 42) w2.heap.size (sN 0 0 0) BR5.out ?_;intro w7 BR7 g7))
  refine rC BR7 Tryz.underlying24 ?_;exact ⟨by rw [R.out];rfl,(FR5.out.away g7 (by omega)).out⟩
 have t2:decide (16384 < (nw:Int))=false:=by simp;omega
 have P2:=zH p2
 clear p2
 by_cases p3:(nb:Int)=d.out
 rotate_left
 ·have t3:((nb:Int) != d.out)=true:=by simpa using p3
  have R:=zH (show r=noS 9 by rw [V2.out,if_pos (.inr (.inr p3))])
  clear V2 p3
  go_enter Tryz.func76,Tryz.ntmps76
  go_wp2_with (first
   | (refine sB 24 (.tmp 6) (.tmp 9) w3.heap.size (sN 1 1 d.out) BT.out ?_;intro w5 BT6 g6;have BA5:=zH (BA.out.away g6 (by omega));have BN5:=zH (BN.out.away g6 (by omega));have BR5:=zH (BR.out.away g6 (by omega));have FR5:=zH (FR.out.away g6 (by omega));have BT5:=zH BT6)
   | (refine lB 24 (.tmp 2) w.heap.size BA5.out Tryz.underlying24 ?_))
  clear hw_w1 hw_w2 hw_w3 hw_w4 n6 g6 BT6 FR BA BN BR BT
  refine (RI.out _).mono ?_
  rintro e w6 ⟨rfl,hb⟩
  replace FR5:=zH (FR5.out.fut hb)
  replace BA5:=zH (BA5.out.fut hb)
  replace BN5:=zH (BN5.out.fut hb)
  replace BR5:=zH (BR5.out.fut hb)
  replace BT5:=zH (BT5.out.fut hb)
  clear hb
  have u0:=BT5.out.cell 0
  have u1:=BT5.out.cell 1
  have u2:=BT5.out.cell 2
  go_wp2_with fail
  clear u0 u1 u2
  refine (RT.out _).mono ?_
  rintro e w8 ⟨rfl,hb⟩
  replace FR5:=zH (FR5.out.fut hb)
  replace BA5:=zH (BA5.out.fut hb)
  replace BN5:=zH (BN5.out.fut hb)
  replace BR5:=zH (BR5.out.fut hb)
  replace BT5:=zH (BT5.out.fut hb)
  clear hb
  go_wp2_with fail
  have y2:=fun (x:Ext w8)=>(BA5.out.ext x).cell 2
  have y0:=fun (x:Ext w8)=>(BA5.out.ext x).cell 0
  have y1:=fun (x:Ext w8)=>(BA5.out.ext x).cell 1
  have z6:=fun (x:Ext w8)=>(BN5.out.ext x).cell 6
  have z9:=fun (x:Ext w8)=>(BN5.out.ext x).cell 9
  have z10:=fun (x:Ext w8)=>(BN5.out.ext x).cell 10
  have E1:=zH (fun x:Ext w8=>calls_ext x (RE.out x.1))
  refine wp_region_ext w8 (by kernel_rfl) (by kernel_rfl) (Below.refl _ _) ?_
  repeat (go_big_quiet_step (exact E1.out _))
  refine wpQuiet_nil ?_
  rintro w9 ⟨x,hx⟩
  have hb:Below w8.heap.size w8 w9:=by rw [hx];exact x.2
  clear y0 y1 y2 z6 z9 z10 E1 hx x
  replace FR5:=zH (FR5.out.fut hb)
  replace BA5:=zH (BA5.out.fut hb)
  replace BN5:=zH (BN5.out.fut hb)
  replace BR5:=zH (BR5.out.fut hb)
  replace BT5:=zH (BT5.out.fut hb)
  clear hb
  try dsimp only
  go_wp2_with (first
   | (refine sB 24 (.tmp 4) (.tmp 42) w2.heap.size (sN 0 0 0) BR5.out ?_;intro w7 BR7 g7))
  refine rC BR7 Tryz.underlying24 ?_;exact ⟨by rw [R.out];rfl,(FR5.out.away g7 (by omega)).out⟩
 have t3:((nb:Int) != d.out)=false:=by simpa using p3
 have R:=zH (show r=((1,1,d.out),0) by rw [V2.out,if_neg (by rintro (h|h|h);exact h P1.out;exact P2.out h;exact h p3)])
 clear V2 p3
 go_enter Tryz.func76,Tryz.ntmps76
 go_wp2_with (first
  | (refine sB 24 (.tmp 6) (.tmp 9) w3.heap.size (sN 1 1 d.out) BT.out ?_;intro w5 BT6 g6;have BA5:=zH (BA.out.away g6 (by omega));have BN5:=zH (BN.out.away g6 (by omega));have BR5:=zH (BR.out.away g6 (by omega));have FR5:=zH (FR.out.away g6 (by omega));have BT5:=zH BT6)
  | (refine lB 24 (.tmp 2) w.heap.size BA5.out Tryz.underlying24 ?_))
 clear hw_w1 hw_w2 hw_w3 hw_w4 n6 g6 BT6 FR BA BN BR BT
 refine (RI.out _).mono ?_
 rintro e w6 ⟨rfl,hb⟩
 replace FR5:=zH (FR5.out.fut hb)
 replace BA5:=zH (BA5.out.fut hb)
 replace BN5:=zH (BN5.out.fut hb)
 replace BR5:=zH (BR5.out.fut hb)
 replace BT5:=zH (BT5.out.fut hb)
 clear hb
 have u0:=BT5.out.cell 0
 have u1:=BT5.out.cell 1
 have u2:=BT5.out.cell 2
 go_wp2_with fail
 clear u0 u1 u2
 refine (RT.out _).mono ?_
 rintro e w8 ⟨rfl,hb⟩
 replace FR5:=zH (FR5.out.fut hb)
 replace BA5:=zH (BA5.out.fut hb)
 replace BN5:=zH (BN5.out.fut hb)
 replace BR5:=zH (BR5.out.fut hb)
 replace BT5:=zH (BT5.out.fut hb)
 clear hb
 go_wp2_with fail
 have y2:=fun (x:Ext w8)=>(BA5.out.ext x).cell 2
 have y0:=fun (x:Ext w8)=>(BA5.out.ext x).cell 0
 have y1:=fun (x:Ext w8)=>(BA5.out.ext x).cell 1
 have z6:=fun (x:Ext w8)=>(BN5.out.ext x).cell 6
 have z9:=fun (x:Ext w8)=>(BN5.out.ext x).cell 9
 have z10:=fun (x:Ext w8)=>(BN5.out.ext x).cell 10
 have E1:=zH (fun x:Ext w8=>calls_ext x (RE.out x.1))
 refine wp_region_ext w8 (by kernel_rfl) (by kernel_rfl) (Below.refl _ _) ?_
 repeat (go_big_quiet_step (exact E1.out _))
 refine wpQuiet_nil ?_
 rintro w9 ⟨x,hx⟩
 have hb:Below w8.heap.size w8 w9:=by rw [hx];exact x.2
 clear y0 y1 y2 z6 z9 z10 E1 hx x
 replace FR5:=zH (FR5.out.fut hb)
 replace BA5:=zH (BA5.out.fut hb)
 replace BN5:=zH (BN5.out.fut hb)
 replace BR5:=zH (BR5.out.fut hb)
 replace BT5:=zH (BT5.out.fut hb)
 clear hb
 try dsimp only
 go_wp2_with (first
  | (refine lB 24 (.tmp 6) w3.heap.size BT5.out Tryz.underlying24 ?_)
  | (refine sB 24 (.tmp 4) (.tmp 43) w2.heap.size (sN 1 1 d.out) BR5.out ?_;intro w7 BR7 g7))
 refine rC BR7 Tryz.underlying24 ?_;exact ⟨by rw [R.out];rfl,(FR5.out.away g7 (by omega)).out⟩
set_option maxHeartbeats 8000000 in
theorem karound_any (h v c p:Int) (w:World) (hb:1≤h∧h≤16∧1≤v∧v≤16∧1≤c∧c≤1024) (hp:InK .i64 p) :
  Calls Tryz.prog 108 #[.agg (sN h v c),.int .i64 p] w fun e w'=>e=retS (aroundV h v c p)∧Below w.heap.size w w':=by
 obtain ⟨r,hr⟩:∃ r,aroundV h v c p=r:=⟨_,rfl⟩
 rw [hr]
 unfold aroundV at hr
 have VV:=zH hr.symm
 clear hr hp
 have FR:=zH (Far.refl w)
 obtain ⟨w1,hw_w1,BA,k_w1⟩:=nB w (sN h v c) 24
 replace FR:=zH (FR.out.fut k_w1)
 clear k_w1
 obtain ⟨w2,hw_w2,BR,k_w2⟩:=nB w1 (sN 0 0 0) 24
 replace FR:=zH (FR.out.fut k_w2)
 replace BA:=zH (BA.out.fut k_w2)
 clear k_w2
 have l1:w.heap.size < w1.heap.size:=by rw [← hw_w1];simp
 have l2:w1.heap.size < w2.heap.size:=by rw [← hw_w2];simp
 by_cases c1:p < 0
 ·have t1:decide (p < 0)=true:=decide_eq_true c1
  have R:=zH (show r=noS 2 by rw [VV.out,if_pos (.inl c1)])
  clear c1 VV hb
  go_enter Tryz.func108,Tryz.ntmps108
  go_wp2_with (first
   | (refine sB 24 (.tmp 4) (.tmp 13) w1.heap.size (sN 0 0 0) BR.out ?_;intro w7 BR7 g7))
  refine rC BR7 Tryz.underlying24 ?_;exact ⟨by rw [R.out];rfl,(FR.out.away g7 (by omega)).out⟩
 have t1:decide (p < 0)=false:=decide_eq_false c1
 have p1:0≤p:=by omega
 clear c1
 by_cases c1:4 < p
 ·have t2:decide (4 < p)=true:=decide_eq_true c1
  have R:=zH (show r=noS 2 by rw [VV.out,if_pos (.inr c1)])
  clear c1 VV hb
  go_enter Tryz.func108,Tryz.ntmps108
  go_wp2_with (first
   | (refine sB 24 (.tmp 4) (.tmp 13) w1.heap.size (sN 0 0 0) BR.out ?_;intro w7 BR7 g7))
  refine rC BR7 Tryz.underlying24 ?_;exact ⟨by rw [R.out];rfl,(FR.out.away g7 (by omega)).out⟩
 have t2:decide (4 < p)=false:=decide_eq_false c1
 have p2:p≤4:=by omega
 clear c1
 have R1:=zH (fun w=>shapeRight_any (h+2*p) c (v+2*p) w (by rw [inK_i64];omega) (by rw [inK_i64];omega) (by rw [inK_i64];omega))
 have e1:IntKind.i64.wrap (2*p)=2*p:=IntWalk.i64_in _ (by omega)
 have e2:IntKind.i64.wrap (h+2*p)=h+2*p:=IntWalk.i64_in _ (by omega)
 have e3:IntKind.i64.wrap (v+2*p)=v+2*p:=IntWalk.i64_in _ (by omega)
 have m0:=(elems_range (h+2*p) (v+2*p) c).1
 have V2:=zH (show r=(if elems (h+2*p) (v+2*p) c=0 then noS 5 else ((h+2*p,v+2*p,c),0)) by rw [VV.out,if_neg (by omega)])
 obtain ⟨m,hm⟩:∃ m,elems (h+2*p) (v+2*p) c=m:=⟨_,rfl⟩
 rw [hm] at V2 R1 m0
 clear VV hm hb p1 p2
 have a0:=BA.out.cell 0
 have a1:=BA.out.cell 1
 have a2:=BA.out.cell 2
 obtain ⟨w3,hw_w3,BT,k_w3⟩:=nB w2 (sN 0 0 0) 24
 replace FR:=zH (FR.out.fut k_w3)
 replace BA:=zH (BA.out.fut k_w3)
 replace BR:=zH (BR.out.fut k_w3)
 clear k_w3
 by_cases c3:m=0
 ·have t3:decide (0 < m)=false:=by simp;omega
  have R:=zH (show r=noS 5 by rw [V2.out,if_pos c3])
  clear V2 c3 m0
  go_enter Tryz.func108,Tryz.ntmps108
  go_wp2_with (first
   | (refine wpList_store_all rfl 24 (.tmp 6) (.tmp 26) rfl w2.heap.size (sN (h+2*p) (v+2*p) c) rfl rfl _ _ BT.out rfl (by kernel_rfl) (by simp [Value.oneCell']) ?_;intro w6 BT6 g6;have BR6:=zH (BR.out.away g6 (by omega));have FR6:=zH (FR.out.away g6 (by omega)))
   | (refine lB 24 (.tmp 6) w2.heap.size BT6 Tryz.underlying24 ?_))
  clear hw_w1 hw_w2 hw_w3 a0 a1 a2
  refine (R1.out _).mono ?_
  rintro e w5 ⟨rfl,hb⟩
  have BT5:=zH (BT6.fut hb)
  replace BR6:=zH (BR6.out.fut hb)
  replace FR6:=zH (FR6.out.fut hb)
  clear hb
  go_wp2_with (first
   | (refine sB 24 (.tmp 4) (.tmp 30) w1.heap.size (sN 0 0 0) BR6.out ?_;intro w7 BR7 g7))
  refine rC BR7 Tryz.underlying24 ?_;exact ⟨by rw [R.out];rfl,(FR6.out.away g7 (by omega)).out⟩
 have t3:decide (0 < m)=true:=by simp;omega
 have R:=zH (show r=((h+2*p,v+2*p,c),0) by rw [V2.out,if_neg c3])
 clear V2 c3 m0
 go_enter Tryz.func108,Tryz.ntmps108
 go_wp2_with (first
  | (refine wpList_store_all rfl 24 (.tmp 6) (.tmp 26) rfl w2.heap.size (sN (h+2*p) (v+2*p) c) rfl rfl _ _ BT.out rfl (by kernel_rfl) (by simp [Value.oneCell']) ?_;intro w6 BT6 g6;have BR6:=zH (BR.out.away g6 (by omega));have FR6:=zH (FR.out.away g6 (by omega)))
  | (refine lB 24 (.tmp 6) w2.heap.size BT6 Tryz.underlying24 ?_))
 clear hw_w1 hw_w2 hw_w3 a0 a1 a2
 refine (R1.out _).mono ?_
 rintro e w5 ⟨rfl,hb⟩
 have BT5:=zH (BT6.fut hb)
 replace BR6:=zH (BR6.out.fut hb)
 replace FR6:=zH (FR6.out.fut hb)
 clear hb
 go_wp2_with (first
  | (refine lB 24 (.tmp 6) w2.heap.size BT5.out Tryz.underlying24 ?_)
  | (refine wpList_store_all rfl 24 (.tmp 4) (.tmp 31) rfl w1.heap.size (sN (h+2*p) (v+2*p) c) rfl rfl _ _ BR6.out rfl (by kernel_rfl) (by simp [Value.oneCell']) ?_;intro w7 BR7 g7))
 refine rC BR7 Tryz.underlying24 ?_;exact ⟨by rw [R.out];rfl,(FR6.out.away g7 (by omega)).out⟩
set_option maxHeartbeats 8000000 in
theorem plainShape_any (h v c h2 v2 c2:Int) (d:Node) (W:Option Addr) (nw cw:Nat) (B:Option Addr) (nb cb:Nat) (w:World) (i0:InK .i64 h) (i1:InK .i64 v) (i2:InK .i64 c) (hout:InK .i64 d.out) (hp:InK .i64 d.p) (hnw:nw=d.w.length) (hnb:nb=d.bias.length) (mw:nw≤1048576) (mb:nb≤1048576) (hk:6≤d.kind∧d.kind≤9) :
  Calls Tryz.prog 78 #[.agg (nN d.kind d.a d.b d.k d.s d.p d.out d.za d.zb W nw cw B nb cb d.qm d.qs d.qz d.rm d.rs d.rz d.lo d.hi),.agg (sN h v c),.agg (sN h2 v2 c2)] w fun e w'=>e=retS (plainV d.kind h v c h2 v2 c2 d.p)∧Below w.heap.size w w':=by
 obtain ⟨r,hr⟩:∃ r,plainV d.kind h v c h2 v2 c2 d.p=r:=⟨_,rfl⟩
 rw [hr]
 unfold plainV at hr
 have RI:=zH (fun w=>shapeRight_any h c v w i0 i1 i2)
 have RE:=zH (fun w=>elems_any h c v w i0 i1 i2)
 have EB:=zH (elems_bd (h:=h) (v:=v) (c:=c))
 have m0:=(elems_range h v c).1
 obtain ⟨m,hm⟩:∃ m,elems h v c=m:=⟨_,rfl⟩
 obtain ⟨eq,he⟩:∃ x,([h,v,c] == [h2,v2,c2])=x:=⟨_,rfl⟩
 have QE:=zH (fun w=>eq_shape w h v c h2 v2 c2)
 rw [hm,he] at hr
 rw [hm] at RI RE EB m0
 rw [he] at QE
 have VV:=zH hr.symm
 clear hr hm he i0 i1 i2 hout hnw hnb mw mb
 have FR:=zH (Far.refl w)
 obtain ⟨w1,hw_w1,BN,k_w1⟩:=nB w (nN d.kind d.a d.b d.k d.s d.p d.out d.za d.zb W nw cw B nb cb d.qm d.qs d.qz d.rm d.rs d.rz d.lo d.hi) 44
 replace FR:=zH (FR.out.fut k_w1)
 clear k_w1
 obtain ⟨w2,hw_w2,BA,k_w2⟩:=nB w1 (sN h v c) 24
 replace FR:=zH (FR.out.fut k_w2)
 replace BN:=zH (BN.out.fut k_w2)
 clear k_w2
 obtain ⟨w3,hw_w3,BB,k_w3⟩:=nB w2 (sN h2 v2 c2) 24
 replace FR:=zH (FR.out.fut k_w3)
 replace BN:=zH (BN.out.fut k_w3)
 replace BA:=zH (BA.out.fut k_w3)
 clear k_w3
 obtain ⟨w4,hw_w4,BR,k_w4⟩:=nB w3 (sN 0 0 0) 24
 replace FR:=zH (FR.out.fut k_w4)
 replace BN:=zH (BN.out.fut k_w4)
 replace BA:=zH (BA.out.fut k_w4)
 replace BB:=zH (BB.out.fut k_w4)
 clear k_w4
 have l1:w.heap.size < w1.heap.size:=by rw [← hw_w1];simp
 have l2:w1.heap.size < w2.heap.size:=by rw [← hw_w2];simp
 have l3:w2.heap.size < w3.heap.size:=by rw [← hw_w3];simp
 have l4:w3.heap.size < w4.heap.size:=by rw [← hw_w4];simp
 by_cases c1:m=0
 ·have t1:decide (0 < m)=false:=by simp;omega
  have R:=zH (show r=noS 5 by rw [VV.out,if_pos c1])
  clear c1 VV m0 hk hp EB
  go_enter Tryz.func78,Tryz.ntmps78
  go_wp2_with (first
   | (refine lB 24 (.tmp 4) w1.heap.size BA.out Tryz.underlying24 ?_))
  clear hw_w1 hw_w2 hw_w3 hw_w4
  refine (RI.out _).mono ?_
  rintro e w5 ⟨rfl,hb⟩
  replace FR:=zH (FR.out.fut hb)
  replace BN:=zH (BN.out.fut hb)
  replace BA:=zH (BA.out.fut hb)
  replace BB:=zH (BB.out.fut hb)
  replace BR:=zH (BR.out.fut hb)
  clear hb
  go_wp2_with (first
   | (refine sB 24 (.tmp 6) (.tmp 11) w3.heap.size (sN 0 0 0) BR.out ?_;intro w7 BR7 g7))
  refine rC BR7 Tryz.underlying24 ?_;exact ⟨by rw [R.out];rfl,(FR.out.away g7 (by omega)).out⟩
 have t1:decide (0 < m)=true:=by simp;omega
 have V2:=zH (show r=(if d.kind=6∧eq=false then noS 5 else if d.kind=8 then aroundV h v c d.p else if d.kind=9 then ((1,1,m),0) else ((h,v,c),0)) by rw [VV.out,if_neg c1])
 have AR:=zH (fun w=>karound_any h v c d.p w (EB.out c1) hp)
 clear VV c1 m0 hp EB
 rcases (show d.kind=6 ∨ d.kind=7 ∨ d.kind=8 ∨ d.kind=9 by omega) with e|e|e|e
 ·clear hk
  have k6:(d.kind == 6)=true:=by simp [e]
  have k8:(d.kind == 8)=false:=by simp [e]
  have k9:(d.kind == 9)=false:=by simp [e]
  cases eq
  case false =>
   have R:=zH (show r=noS 5 by rw [V2.out];simp [e])
   clear V2 e AR RE
   go_enter Tryz.func78,Tryz.ntmps78
   go_wp2_with (first
    | (refine lB 24 (.tmp 4) w1.heap.size BA.out Tryz.underlying24 ?_))
   clear hw_w1 hw_w2 hw_w3 hw_w4
   refine (RI.out _).mono ?_
   rintro e w5 ⟨rfl,hb⟩
   replace FR:=zH (FR.out.fut hb)
   replace BN:=zH (BN.out.fut hb)
   replace BA:=zH (BA.out.fut hb)
   replace BB:=zH (BB.out.fut hb)
   replace BR:=zH (BR.out.fut hb)
   clear hb
   have n0:=BN.out.cell 0
   go_wp2_with (first
    | (refine lB 24 (.tmp 4) w1.heap.size BA.out Tryz.underlying24 ?_)
    | (refine lB 24 (.tmp 5) w2.heap.size BB.out Tryz.underlying24 ?_)
    | (refine wpList_neq_agg 24 _ (.tmp 16) (.tmp 17) rfl _ _ rfl rfl (by rfl) (by kernel_rfl) _ (QE.out _) ?_;try simp only [Bool.not_true,Bool.not_false])
    | (refine sB 24 (.tmp 6) (.tmp 19) w3.heap.size (sN 0 0 0) BR.out ?_;intro w7 BR7 g7))
   refine rC BR7 Tryz.underlying24 ?_;exact ⟨by rw [R.out];rfl,(FR.out.away g7 (by omega)).out⟩
  case true =>
   have R:=zH (show r=((h,v,c),0) by rw [V2.out];simp [e])
   clear V2 e AR RE
   go_enter Tryz.func78,Tryz.ntmps78
   go_wp2_with (first
    | (refine lB 24 (.tmp 4) w1.heap.size BA.out Tryz.underlying24 ?_))
   clear hw_w1 hw_w2 hw_w3 hw_w4
   refine (RI.out _).mono ?_
   rintro e w5 ⟨rfl,hb⟩
   replace FR:=zH (FR.out.fut hb)
   replace BN:=zH (BN.out.fut hb)
   replace BA:=zH (BA.out.fut hb)
   replace BB:=zH (BB.out.fut hb)
   replace BR:=zH (BR.out.fut hb)
   clear hb
   have n0:=BN.out.cell 0
   go_wp2_with (first
    | (refine lB 24 (.tmp 4) w1.heap.size BA.out Tryz.underlying24 ?_)
    | (refine lB 24 (.tmp 5) w2.heap.size BB.out Tryz.underlying24 ?_)
    | (refine wpList_neq_agg 24 _ (.tmp 16) (.tmp 17) rfl _ _ rfl rfl (by rfl) (by kernel_rfl) _ (QE.out _) ?_;try simp only [Bool.not_true,Bool.not_false])
    | (refine sB 24 (.tmp 6) (.tmp 33) w3.heap.size (sN h v c) BR.out ?_;intro w7 BR7 g7))
   refine rC BR7 Tryz.underlying24 ?_;exact ⟨by rw [R.out];rfl,(FR.out.away g7 (by omega)).out⟩
 ·clear hk
  have k6:(d.kind == 6)=false:=by simp [e]
  have k8:(d.kind == 8)=false:=by simp [e]
  have k9:(d.kind == 9)=false:=by simp [e]
  have R:=zH (show r=((h,v,c),0) by rw [V2.out];simp [e])
  clear V2 e AR RE QE
  go_enter Tryz.func78,Tryz.ntmps78
  go_wp2_with (first
   | (refine lB 24 (.tmp 4) w1.heap.size BA.out Tryz.underlying24 ?_))
  clear hw_w1 hw_w2 hw_w3 hw_w4
  refine (RI.out _).mono ?_
  rintro e w5 ⟨rfl,hb⟩
  replace FR:=zH (FR.out.fut hb)
  replace BN:=zH (BN.out.fut hb)
  replace BA:=zH (BA.out.fut hb)
  replace BB:=zH (BB.out.fut hb)
  replace BR:=zH (BR.out.fut hb)
  clear hb
  have n0:=BN.out.cell 0
  go_wp2_with (first
   | (refine lB 24 (.tmp 4) w1.heap.size BA.out Tryz.underlying24 ?_)
   | (refine sB 24 (.tmp 6) (.tmp 33) w3.heap.size (sN h v c) BR.out ?_;intro w7 BR7 g7))
  refine rC BR7 Tryz.underlying24 ?_;exact ⟨by rw [R.out];rfl,(FR.out.away g7 (by omega)).out⟩
 ·clear hk
  have k6:(d.kind == 6)=false:=by simp [e]
  have k8:(d.kind == 8)=true:=by simp [e]
  have k9:(d.kind == 9)=false:=by simp [e]
  obtain ⟨⟨⟨x1,x2,x3⟩,xe⟩,hx⟩:∃ x,aroundV h v c d.p=x:=⟨_,rfl⟩
  rw [hx] at V2 AR
  simp only [retS] at AR
  have R:=zH (show r=((x1,x2,x3),xe) by rw [V2.out];simp [e])
  clear V2 e RE QE hx
  go_enter Tryz.func78,Tryz.ntmps78
  go_wp2_with (first
   | (refine lB 24 (.tmp 4) w1.heap.size BA.out Tryz.underlying24 ?_))
  clear hw_w1 hw_w2 hw_w3 hw_w4
  refine (RI.out _).mono ?_
  rintro e w5 ⟨rfl,hb⟩
  replace FR:=zH (FR.out.fut hb)
  replace BN:=zH (BN.out.fut hb)
  replace BA:=zH (BA.out.fut hb)
  replace BB:=zH (BB.out.fut hb)
  replace BR:=zH (BR.out.fut hb)
  clear hb
  have n0:=BN.out.cell 0
  have n5:=BN.out.cell 5
  go_wp2_with (first
   | (refine lB 24 (.tmp 4) w1.heap.size BA.out Tryz.underlying24 ?_))
  clear n0 n5
  refine (AR.out _).mono ?_
  rintro e w6 ⟨rfl,hb⟩
  replace FR:=zH (FR.out.fut hb)
  replace BN:=zH (BN.out.fut hb)
  replace BA:=zH (BA.out.fut hb)
  replace BB:=zH (BB.out.fut hb)
  replace BR:=zH (BR.out.fut hb)
  clear hb
  go_wp2_with (first
   | (refine sB 24 (.tmp 6) (.tmp 26) w3.heap.size (sN x1 x2 x3) BR.out ?_;intro w7 BR7 g7))
  refine rC BR7 Tryz.underlying24 ?_;exact ⟨by rw [R.out];rfl,(FR.out.away g7 (by omega)).out⟩
 ·clear hk
  have k6:(d.kind == 6)=false:=by simp [e]
  have k8:(d.kind == 8)=false:=by simp [e]
  have k9:(d.kind == 9)=true:=by simp [e]
  have R:=zH (show r=((1,1,m),0) by rw [V2.out];simp [e])
  clear V2 e AR QE
  go_enter Tryz.func78,Tryz.ntmps78
  go_wp2_with (first
   | (refine lB 24 (.tmp 4) w1.heap.size BA.out Tryz.underlying24 ?_))
  clear hw_w1 hw_w2 hw_w3 hw_w4
  refine (RI.out _).mono ?_
  rintro e w5 ⟨rfl,hb⟩
  replace FR:=zH (FR.out.fut hb)
  replace BN:=zH (BN.out.fut hb)
  replace BA:=zH (BA.out.fut hb)
  replace BB:=zH (BB.out.fut hb)
  replace BR:=zH (BR.out.fut hb)
  clear hb
  have n0:=BN.out.cell 0
  go_wp2_with (first
   | (refine lB 24 (.tmp 4) w1.heap.size BA.out Tryz.underlying24 ?_))
  clear n0
  refine (RE.out _).mono ?_
  rintro e w6 ⟨rfl,hb⟩
  replace FR:=zH (FR.out.fut hb)
  replace BN:=zH (BN.out.fut hb)
  replace BA:=zH (BA.out.fut hb)
  replace BB:=zH (BB.out.fut hb)
  replace BR:=zH (BR.out.fut hb)
  clear hb
  go_wp2_with (first
   | (refine sB 24 (.tmp 6) (.tmp 32) w3.heap.size (sN 1 1 m) BR.out ?_;intro w7 BR7 g7))
  refine rC BR7 Tryz.underlying24 ?_;exact ⟨by rw [R.out];rfl,(FR.out.away g7 (by omega)).out⟩
set_option maxHeartbeats 16000000 in
theorem kshape_any (h v c h2 v2 c2:Int) (d:Node) (W:Option Addr) (nw cw:Nat) (B:Option Addr) (nb cb:Nat) (w:World) (i0:InK .i64 h) (i1:InK .i64 v) (i2:InK .i64 c) (hout:InK .i64 d.out) (hp:InK .i64 d.p) (hnw:nw=d.w.length) (hnb:nb=d.bias.length) (mw:nw≤1048576) (mb:nb≤1048576) (hk:1≤d.kind∧d.kind≤9) :
  Calls Tryz.prog 42 #[.agg (nN d.kind d.a d.b d.k d.s d.p d.out d.za d.zb W nw cw B nb cb d.qm d.qs d.qz d.rm d.rs d.rz d.lo d.hi),.agg (sN h v c),.agg (sN h2 v2 c2)] w fun e w'=>e=retS (shapeV h v c h2 v2 c2 d)∧Below w.heap.size w w':=by
 obtain ⟨r,hr⟩:∃ r,shapeV h v c h2 v2 c2 d=r:=⟨_,rfl⟩
 rw [hr]
 unfold shapeV at hr
 have VV:=zH hr.symm
 clear hr
 have FR:=zH (Far.refl w)
 obtain ⟨w1,hw_w1,BN,k_w1⟩:=nB w (nN d.kind d.a d.b d.k d.s d.p d.out d.za d.zb W nw cw B nb cb d.qm d.qs d.qz d.rm d.rs d.rz d.lo d.hi) 44
 replace FR:=zH (FR.out.fut k_w1)
 clear k_w1
 obtain ⟨w2,hw_w2,BA,k_w2⟩:=nB w1 (sN h v c) 24
 replace FR:=zH (FR.out.fut k_w2)
 replace BN:=zH (BN.out.fut k_w2)
 clear k_w2
 obtain ⟨w3,hw_w3,BB,k_w3⟩:=nB w2 (sN h2 v2 c2) 24
 replace FR:=zH (FR.out.fut k_w3)
 replace BN:=zH (BN.out.fut k_w3)
 replace BA:=zH (BA.out.fut k_w3)
 clear k_w3
 obtain ⟨w4,hw_w4,BR,k_w4⟩:=nB w3 (sN 0 0 0) 24
 replace FR:=zH (FR.out.fut k_w4)
 replace BN:=zH (BN.out.fut k_w4)
 replace BA:=zH (BA.out.fut k_w4)
 replace BB:=zH (BB.out.fut k_w4)
 clear k_w4
 have l1:w.heap.size < w1.heap.size:=by rw [← hw_w1];simp
 have l2:w1.heap.size < w2.heap.size:=by rw [← hw_w2];simp
 have l3:w2.heap.size < w3.heap.size:=by rw [← hw_w3];simp
 have l4:w3.heap.size < w4.heap.size:=by rw [← hw_w4];simp
 have n0:=BN.out.cell 0
 rcases (show d.kind=1 ∨ d.kind=2 ∨ d.kind=3 ∨ d.kind=4 ∨ d.kind=5 ∨ d.kind=6 ∨ d.kind=7 ∨ d.kind=8 ∨ d.kind=9 by omega) with e|e|e|e|e|e|e|e|e
 ·clear hk
  have k1:(d.kind == 1)=true:=by simp [e]
  have k2:(d.kind == 2)=false:=by simp [e]
  have k3:(d.kind == 3)=false:=by simp [e]
  have k4:(d.kind == 4)=false:=by simp [e]
  have k5:(d.kind == 5)=false:=by simp [e]
  have k6:(d.kind == 6)=false:=by simp [e]
  have k7:(d.kind == 7)=false:=by simp [e]
  have k8:(d.kind == 8)=false:=by simp [e]
  have k9:(d.kind == 9)=false:=by simp [e]
  have CN:=zH (fun w=>convShape_any h v c d W nw cw B nb cb w i0 i1 i2 hout hnw hnb mw mb)
  obtain ⟨⟨⟨x1,x2,x3⟩,xe⟩,hx⟩:∃ x,convV h v c d=x:=⟨_,rfl⟩
  have R:=zH (show r=((x1,x2,x3),xe) by rw [VV.out,← hx];simp [e])
  rw [hx] at CN
  simp only [retS] at CN
  clear VV hx e i0 i1 i2 hout hp hnw hnb mw mb
  go_enter Tryz.func42,Tryz.ntmps42
  go_wp2_with (first
   | (refine lB 24 (.tmp 4) w1.heap.size BA.out Tryz.underlying24 ?_)
   | (refine lB 44 (.tmp 3) w.heap.size BN.out Tryz.underlying44 ?_))
  clear hw_w1 hw_w2 hw_w3 hw_w4 n0
  refine (CN.out _).mono ?_
  rintro e w5 ⟨rfl,hb⟩
  replace FR:=zH (FR.out.fut hb)
  replace BN:=zH (BN.out.fut hb)
  replace BA:=zH (BA.out.fut hb)
  replace BB:=zH (BB.out.fut hb)
  replace BR:=zH (BR.out.fut hb)
  clear hb
  go_wp2_with (first
   | (refine sB 24 (.tmp 6) (.tmp 15) w3.heap.size (sN x1 x2 x3) BR.out ?_;intro w7 BR7 g7))
  refine rC BR7 Tryz.underlying24 ?_;exact ⟨by rw [R.out];rfl,(FR.out.away g7 (by omega)).out⟩
 ·clear hk
  have k1:(d.kind == 1)=false:=by simp [e]
  have k2:(d.kind == 2)=true:=by simp [e]
  have k3:(d.kind == 3)=false:=by simp [e]
  have k4:(d.kind == 4)=false:=by simp [e]
  have k5:(d.kind == 5)=false:=by simp [e]
  have k6:(d.kind == 6)=false:=by simp [e]
  have k7:(d.kind == 7)=false:=by simp [e]
  have k8:(d.kind == 8)=false:=by simp [e]
  have k9:(d.kind == 9)=false:=by simp [e]
  have CN:=zH (fun w=>depthShape_any h v c d W nw cw B nb cb w i0 i1 i2 hout hnw hnb mw mb)
  obtain ⟨⟨⟨x1,x2,x3⟩,xe⟩,hx⟩:∃ x,depthV h v c d=x:=⟨_,rfl⟩
  have R:=zH (show r=((x1,x2,x3),xe) by rw [VV.out,← hx];simp [e])
  rw [hx] at CN
  simp only [retS] at CN
  clear VV hx e i0 i1 i2 hout hp hnw hnb mw mb
  go_enter Tryz.func42,Tryz.ntmps42
  go_wp2_with (first
   | (refine lB 24 (.tmp 4) w1.heap.size BA.out Tryz.underlying24 ?_)
   | (refine lB 44 (.tmp 3) w.heap.size BN.out Tryz.underlying44 ?_))
  clear hw_w1 hw_w2 hw_w3 hw_w4 n0
  refine (CN.out _).mono ?_
  rintro e w5 ⟨rfl,hb⟩
  replace FR:=zH (FR.out.fut hb)
  replace BN:=zH (BN.out.fut hb)
  replace BA:=zH (BA.out.fut hb)
  replace BB:=zH (BB.out.fut hb)
  replace BR:=zH (BR.out.fut hb)
  clear hb
  go_wp2_with (first
   | (refine sB 24 (.tmp 6) (.tmp 22) w3.heap.size (sN x1 x2 x3) BR.out ?_;intro w7 BR7 g7))
  refine rC BR7 Tryz.underlying24 ?_;exact ⟨by rw [R.out];rfl,(FR.out.away g7 (by omega)).out⟩
 ·clear hk
  have k1:(d.kind == 1)=false:=by simp [e]
  have k2:(d.kind == 2)=false:=by simp [e]
  have k3:(d.kind == 3)=true:=by simp [e]
  have k4:(d.kind == 4)=false:=by simp [e]
  have k5:(d.kind == 5)=false:=by simp [e]
  have k6:(d.kind == 6)=false:=by simp [e]
  have k7:(d.kind == 7)=false:=by simp [e]
  have k8:(d.kind == 8)=false:=by simp [e]
  have k9:(d.kind == 9)=false:=by simp [e]
  have CN:=zH (fun w=>dense25_any h v c d W nw cw B nb cb w i0 i1 i2 hout hnw hnb mw mb)
  obtain ⟨⟨⟨x1,x2,x3⟩,xe⟩,hx⟩:∃ x,denseV h v c d=x:=⟨_,rfl⟩
  have R:=zH (show r=((x1,x2,x3),xe) by rw [VV.out,← hx];simp [e])
  rw [hx] at CN
  simp only [retS] at CN
  clear VV hx e i0 i1 i2 hout hp hnw hnb mw mb
  go_enter Tryz.func42,Tryz.ntmps42
  go_wp2_with (first
   | (refine lB 24 (.tmp 4) w1.heap.size BA.out Tryz.underlying24 ?_)
   | (refine lB 44 (.tmp 3) w.heap.size BN.out Tryz.underlying44 ?_))
  clear hw_w1 hw_w2 hw_w3 hw_w4 n0
  refine (CN.out _).mono ?_
  rintro e w5 ⟨rfl,hb⟩
  replace FR:=zH (FR.out.fut hb)
  replace BN:=zH (BN.out.fut hb)
  replace BA:=zH (BA.out.fut hb)
  replace BB:=zH (BB.out.fut hb)
  replace BR:=zH (BR.out.fut hb)
  clear hb
  go_wp2_with (first
   | (refine sB 24 (.tmp 6) (.tmp 29) w3.heap.size (sN x1 x2 x3) BR.out ?_;intro w7 BR7 g7))
  refine rC BR7 Tryz.underlying24 ?_;exact ⟨by rw [R.out];rfl,(FR.out.away g7 (by omega)).out⟩
 ·clear hk
  have k1:(d.kind == 1)=false:=by simp [e]
  have k2:(d.kind == 2)=false:=by simp [e]
  have k3:(d.kind == 3)=false:=by simp [e]
  have k4:(d.kind == 4)=true:=by simp [e]
  have k5:(d.kind == 5)=false:=by simp [e]
  have k6:(d.kind == 6)=false:=by simp [e]
  have k7:(d.kind == 7)=false:=by simp [e]
  have k8:(d.kind == 8)=false:=by simp [e]
  have k9:(d.kind == 9)=false:=by simp [e]
  have CN:=zH (fun w=>slide_any h v c d.k d.s d.p c w i0 i1 i2 i2)
  have n3:=BN.out.cell 3
  have n4:=BN.out.cell 4
  have n5:=BN.out.cell 5
  have a2:=BA.out.cell 2
  obtain ⟨⟨⟨x1,x2,x3⟩,xe⟩,hx⟩:∃ x,slideV h v c d.k d.s d.p c=x:=⟨_,rfl⟩
  have R:=zH (show r=((x1,x2,x3),xe) by rw [VV.out,← hx];simp [e])
  rw [hx] at CN
  simp only [retS] at CN
  clear VV hx e i0 i1 i2 hout hp hnw hnb mw mb
  go_enter Tryz.func42,Tryz.ntmps42
  go_wp2_with (first
   | (refine lB 24 (.tmp 4) w1.heap.size BA.out Tryz.underlying24 ?_))
  clear hw_w1 hw_w2 hw_w3 hw_w4 n0 n3 n4 n5 a2
  refine (CN.out _).mono ?_
  rintro e w5 ⟨rfl,hb⟩
  replace FR:=zH (FR.out.fut hb)
  replace BN:=zH (BN.out.fut hb)
  replace BA:=zH (BA.out.fut hb)
  replace BB:=zH (BB.out.fut hb)
  replace BR:=zH (BR.out.fut hb)
  clear hb
  go_wp2_with (first
   | (refine sB 24 (.tmp 6) (.tmp 44) w3.heap.size (sN x1 x2 x3) BR.out ?_;intro w7 BR7 g7))
  refine rC BR7 Tryz.underlying24 ?_;exact ⟨by rw [R.out];rfl,(FR.out.away g7 (by omega)).out⟩
 ·clear hk
  have k1:(d.kind == 1)=false:=by simp [e]
  have k2:(d.kind == 2)=false:=by simp [e]
  have k3:(d.kind == 3)=false:=by simp [e]
  have k4:(d.kind == 4)=false:=by simp [e]
  have k5:(d.kind == 5)=true:=by simp [e]
  have k6:(d.kind == 6)=false:=by simp [e]
  have k7:(d.kind == 7)=false:=by simp [e]
  have k8:(d.kind == 8)=false:=by simp [e]
  have k9:(d.kind == 9)=false:=by simp [e]
  have CN:=zH (fun w=>slide_any h v c d.k d.s d.p c w i0 i1 i2 i2)
  have n3:=BN.out.cell 3
  have n4:=BN.out.cell 4
  have n5:=BN.out.cell 5
  have a2:=BA.out.cell 2
  obtain ⟨⟨⟨x1,x2,x3⟩,xe⟩,hx⟩:∃ x,slideV h v c d.k d.s d.p c=x:=⟨_,rfl⟩
  have R:=zH (show r=((x1,x2,x3),xe) by rw [VV.out,← hx];simp [e])
  rw [hx] at CN
  simp only [retS] at CN
  clear VV hx e i0 i1 i2 hout hp hnw hnb mw mb
  go_enter Tryz.func42,Tryz.ntmps42
  go_wp2_with (first
   | (refine lB 24 (.tmp 4) w1.heap.size BA.out Tryz.underlying24 ?_))
  clear hw_w1 hw_w2 hw_w3 hw_w4 n0 n3 n4 n5 a2
  refine (CN.out _).mono ?_
  rintro e w5 ⟨rfl,hb⟩
  replace FR:=zH (FR.out.fut hb)
  replace BN:=zH (BN.out.fut hb)
  replace BA:=zH (BA.out.fut hb)
  replace BB:=zH (BB.out.fut hb)
  replace BR:=zH (BR.out.fut hb)
  clear hb
  go_wp2_with (first
   | (refine sB 24 (.tmp 6) (.tmp 44) w3.heap.size (sN x1 x2 x3) BR.out ?_;intro w7 BR7 g7))
  refine rC BR7 Tryz.underlying24 ?_;exact ⟨by rw [R.out];rfl,(FR.out.away g7 (by omega)).out⟩
 ·clear hk
  have k1:(d.kind == 1)=false:=by simp [e]
  have k2:(d.kind == 2)=false:=by simp [e]
  have k3:(d.kind == 3)=false:=by simp [e]
  have k4:(d.kind == 4)=false:=by simp [e]
  have k5:(d.kind == 5)=false:=by simp [e]
  have k6:(d.kind == 6)=true:=by simp [e]
  have k7:(d.kind == 7)=false:=by simp [e]
  have k8:(d.kind == 8)=false:=by simp [e]
  have k9:(d.kind == 9)=false:=by simp [e]
  have CN:=zH (fun w=>plainShape_any h v c h2 v2 c2 d W nw cw B nb cb w i0 i1 i2 hout hp hnw hnb mw mb (by omega))
  obtain ⟨⟨⟨x1,x2,x3⟩,xe⟩,hx⟩:∃ x,plainV d.kind h v c h2 v2 c2 d.p=x:=⟨_,rfl⟩
  have R:=zH (show r=((x1,x2,x3),xe) by rw [VV.out,← hx];simp [e])
  rw [hx] at CN
  simp only [retS] at CN
  clear VV hx e i0 i1 i2 hout hp hnw hnb mw mb
  go_enter Tryz.func42,Tryz.ntmps42
  go_wp2_with (first
   | (refine lB 24 (.tmp 4) w1.heap.size BA.out Tryz.underlying24 ?_)
   | (refine lB 24 (.tmp 5) w2.heap.size BB.out Tryz.underlying24 ?_)
   | (refine lB 44 (.tmp 3) w.heap.size BN.out Tryz.underlying44 ?_))
  clear hw_w1 hw_w2 hw_w3 hw_w4 n0
  refine (CN.out _).mono ?_
  rintro e w5 ⟨rfl,hb⟩
  replace FR:=zH (FR.out.fut hb)
  replace BN:=zH (BN.out.fut hb)
  replace BA:=zH (BA.out.fut hb)
  replace BB:=zH (BB.out.fut hb)
  replace BR:=zH (BR.out.fut hb)
  clear hb
  go_wp2_with (first
   | (refine sB 24 (.tmp 6) (.tmp 55) w3.heap.size (sN x1 x2 x3) BR.out ?_;intro w7 BR7 g7))
  refine rC BR7 Tryz.underlying24 ?_;exact ⟨by rw [R.out];rfl,(FR.out.away g7 (by omega)).out⟩
 ·clear hk
  have k1:(d.kind == 1)=false:=by simp [e]
  have k2:(d.kind == 2)=false:=by simp [e]
  have k3:(d.kind == 3)=false:=by simp [e]
  have k4:(d.kind == 4)=false:=by simp [e]
  have k5:(d.kind == 5)=false:=by simp [e]
  have k6:(d.kind == 6)=false:=by simp [e]
  have k7:(d.kind == 7)=true:=by simp [e]
  have k8:(d.kind == 8)=false:=by simp [e]
  have k9:(d.kind == 9)=false:=by simp [e]
  have CN:=zH (fun w=>plainShape_any h v c h2 v2 c2 d W nw cw B nb cb w i0 i1 i2 hout hp hnw hnb mw mb (by omega))
  obtain ⟨⟨⟨x1,x2,x3⟩,xe⟩,hx⟩:∃ x,plainV d.kind h v c h2 v2 c2 d.p=x:=⟨_,rfl⟩
  have R:=zH (show r=((x1,x2,x3),xe) by rw [VV.out,← hx];simp [e])
  rw [hx] at CN
  simp only [retS] at CN
  clear VV hx e i0 i1 i2 hout hp hnw hnb mw mb
  go_enter Tryz.func42,Tryz.ntmps42
  go_wp2_with (first
   | (refine lB 24 (.tmp 4) w1.heap.size BA.out Tryz.underlying24 ?_)
   | (refine lB 24 (.tmp 5) w2.heap.size BB.out Tryz.underlying24 ?_)
   | (refine lB 44 (.tmp 3) w.heap.size BN.out Tryz.underlying44 ?_))
  clear hw_w1 hw_w2 hw_w3 hw_w4 n0
  refine (CN.out _).mono ?_
  rintro e w5 ⟨rfl,hb⟩
  replace FR:=zH (FR.out.fut hb)
  replace BN:=zH (BN.out.fut hb)
  replace BA:=zH (BA.out.fut hb)
  replace BB:=zH (BB.out.fut hb)
  replace BR:=zH (BR.out.fut hb)
  clear hb
  go_wp2_with (first
   | (refine sB 24 (.tmp 6) (.tmp 55) w3.heap.size (sN x1 x2 x3) BR.out ?_;intro w7 BR7 g7))
  refine rC BR7 Tryz.underlying24 ?_;exact ⟨by rw [R.out];rfl,(FR.out.away g7 (by omega)).out⟩
 ·clear hk
  have k1:(d.kind == 1)=false:=by simp [e]
  have k2:(d.kind == 2)=false:=by simp [e]
  have k3:(d.kind == 3)=false:=by simp [e]
  have k4:(d.kind == 4)=false:=by simp [e]
  have k5:(d.kind == 5)=false:=by simp [e]
  have k6:(d.kind == 6)=false:=by simp [e]
  have k7:(d.kind == 7)=false:=by simp [e]
  have k8:(d.kind == 8)=true:=by simp [e]
  have k9:(d.kind == 9)=false:=by simp [e]
  have CN:=zH (fun w=>plainShape_any h v c h2 v2 c2 d W nw cw B nb cb w i0 i1 i2 hout hp hnw hnb mw mb (by omega))
  obtain ⟨⟨⟨x1,x2,x3⟩,xe⟩,hx⟩:∃ x,plainV d.kind h v c h2 v2 c2 d.p=x:=⟨_,rfl⟩
  have R:=zH (show r=((x1,x2,x3),xe) by rw [VV.out,← hx];simp [e])
  rw [hx] at CN
  simp only [retS] at CN
  clear VV hx e i0 i1 i2 hout hp hnw hnb mw mb
  go_enter Tryz.func42,Tryz.ntmps42
  go_wp2_with (first
   | (refine lB 24 (.tmp 4) w1.heap.size BA.out Tryz.underlying24 ?_)
   | (refine lB 24 (.tmp 5) w2.heap.size BB.out Tryz.underlying24 ?_)
   | (refine lB 44 (.tmp 3) w.heap.size BN.out Tryz.underlying44 ?_))
  clear hw_w1 hw_w2 hw_w3 hw_w4 n0
  refine (CN.out _).mono ?_
  rintro e w5 ⟨rfl,hb⟩
  replace FR:=zH (FR.out.fut hb)
  replace BN:=zH (BN.out.fut hb)
  replace BA:=zH (BA.out.fut hb)
  replace BB:=zH (BB.out.fut hb)
  replace BR:=zH (BR.out.fut hb)
  clear hb
  go_wp2_with (first
   | (refine sB 24 (.tmp 6) (.tmp 55) w3.heap.size (sN x1 x2 x3) BR.out ?_;intro w7 BR7 g7))
  refine rC BR7 Tryz.underlying24 ?_;exact ⟨by rw [R.out];rfl,(FR.out.away g7 (by omega)).out⟩
 ·clear hk
  have k1:(d.kind == 1)=false:=by simp [e]
  have k2:(d.kind == 2)=false:=by simp [e]
  have k3:(d.kind == 3)=false:=by simp [e]
  have k4:(d.kind == 4)=false:=by simp [e]
  have k5:(d.kind == 5)=false:=by simp [e]
  have k6:(d.kind == 6)=false:=by simp [e]
  have k7:(d.kind == 7)=false:=by simp [e]
  have k8:(d.kind == 8)=false:=by simp [e]
  have k9:(d.kind == 9)=true:=by simp [e]
  have CN:=zH (fun w=>plainShape_any h v c h2 v2 c2 d W nw cw B nb cb w i0 i1 i2 hout hp hnw hnb mw mb (by omega))
  obtain ⟨⟨⟨x1,x2,x3⟩,xe⟩,hx⟩:∃ x,plainV d.kind h v c h2 v2 c2 d.p=x:=⟨_,rfl⟩
  have R:=zH (show r=((x1,x2,x3),xe) by rw [VV.out,← hx];simp [e])
  rw [hx] at CN
  simp only [retS] at CN
  clear VV hx e i0 i1 i2 hout hp hnw hnb mw mb
  go_enter Tryz.func42,Tryz.ntmps42
  go_wp2_with (first
   | (refine lB 24 (.tmp 4) w1.heap.size BA.out Tryz.underlying24 ?_)
   | (refine lB 24 (.tmp 5) w2.heap.size BB.out Tryz.underlying24 ?_)
   | (refine lB 44 (.tmp 3) w.heap.size BN.out Tryz.underlying44 ?_))
  clear hw_w1 hw_w2 hw_w3 hw_w4 n0
  refine (CN.out _).mono ?_
  rintro e w5 ⟨rfl,hb⟩
  replace FR:=zH (FR.out.fut hb)
  replace BN:=zH (BN.out.fut hb)
  replace BA:=zH (BA.out.fut hb)
  replace BB:=zH (BB.out.fut hb)
  replace BR:=zH (BR.out.fut hb)
  clear hb
  go_wp2_with (first
   | (refine sB 24 (.tmp 6) (.tmp 55) w3.heap.size (sN x1 x2 x3) BR.out ?_;intro w7 BR7 g7))
  refine rC BR7 Tryz.underlying24 ?_;exact ⟨by rw [R.out];rfl,(FR.out.away g7 (by omega)).out⟩
set_option maxHeartbeats 16000000 in
theorem rkshape_any_4 (h v c h2 v2 c2:Int) (d:Node) (W:Option Addr) (nw cw:Nat) (B:Option Addr) (nb cb:Nat) (w:World) (i0:InK .i64 h) (i1:InK .i64 v) (i2:InK .i64 c) (hout:InK .i64 d.out) (hp:InK .i64 d.p) (hnw:nw=d.w.length) (hnb:nb=d.bias.length) (mw:nw≤1048576) (mb:nb≤1048576) (e:d.kind=4) :
  Calls Tryz.prog 32 #[.agg (nN d.kind d.a d.b d.k d.s d.p d.out d.za d.zb W nw cw B nb cb d.qm d.qs d.qz d.rm d.rs d.rz d.lo d.hi),.agg (sN h v c),.agg (sN h2 v2 c2)] w fun e w'=>e=retS (shapeV h v c h2 v2 c2 d)∧Below w.heap.size w w':=by
 obtain ⟨r,hr⟩:∃ r,shapeV h v c h2 v2 c2 d=r:=⟨_,rfl⟩
 rw [hr]
 unfold shapeV at hr
 have VV:=zH hr.symm
 clear hr
 have FR:=zH (Far.refl w)
 obtain ⟨w1,hw_w1,BN,k_w1⟩:=nB w (nN d.kind d.a d.b d.k d.s d.p d.out d.za d.zb W nw cw B nb cb d.qm d.qs d.qz d.rm d.rs d.rz d.lo d.hi) 44
 replace FR:=zH (FR.out.fut k_w1)
 clear k_w1
 obtain ⟨w2,hw_w2,BA,k_w2⟩:=nB w1 (sN h v c) 24
 replace FR:=zH (FR.out.fut k_w2)
 replace BN:=zH (BN.out.fut k_w2)
 clear k_w2
 obtain ⟨w3,hw_w3,BB,k_w3⟩:=nB w2 (sN h2 v2 c2) 24
 replace FR:=zH (FR.out.fut k_w3)
 replace BN:=zH (BN.out.fut k_w3)
 replace BA:=zH (BA.out.fut k_w3)
 clear k_w3
 obtain ⟨w4,hw_w4,BR,k_w4⟩:=nB w3 (sN 0 0 0) 24
 replace FR:=zH (FR.out.fut k_w4)
 replace BN:=zH (BN.out.fut k_w4)
 replace BA:=zH (BA.out.fut k_w4)
 replace BB:=zH (BB.out.fut k_w4)
 clear k_w4
 have l1:w.heap.size < w1.heap.size:=by rw [← hw_w1];simp
 have l2:w1.heap.size < w2.heap.size:=by rw [← hw_w2];simp
 have l3:w2.heap.size < w3.heap.size:=by rw [← hw_w3];simp
 have l4:w3.heap.size < w4.heap.size:=by rw [← hw_w4];simp
 have n0:=BN.out.cell 0
 ·skip
  have k1:(d.kind == 1)=false:=by simp [e]
  have k2:(d.kind == 2)=false:=by simp [e]
  have k3:(d.kind == 3)=false:=by simp [e]
  have k4:(d.kind == 4)=true:=by simp [e]
  have k5:(d.kind == 5)=false:=by simp [e]
  have k6:(d.kind == 6)=false:=by simp [e]
  have k8:(d.kind == 8)=false:=by simp [e]
  have k9:(d.kind == 9)=false:=by simp [e]
  have kl:decide (d.kind < 1)=false:=by simp [e]
  have kg:decide (9 < d.kind)=false:=by simp [e]
  have CN:=zH (fun w=>rslide_any h v c d.k d.s d.p c w i0 i1 i2 i2)
  have n3:=BN.out.cell 3
  have n4:=BN.out.cell 4
  have n5:=BN.out.cell 5
  have a2:=BA.out.cell 2
  obtain ⟨⟨⟨x1,x2,x3⟩,xe⟩,hx⟩:∃ x,slideV h v c d.k d.s d.p c=x:=⟨_,rfl⟩
  have R:=zH (show r=((x1,x2,x3),xe) by rw [VV.out,← hx];simp [e])
  rw [hx] at CN
  simp only [retS] at CN
  clear VV hx e i0 i1 i2 hout hp hnw hnb mw mb
  go_enter Tryz.func32,Tryz.ntmps32
  go_wp2_with (first
   | (refine lB 24 (.tmp 4) w1.heap.size BA.out Tryz.underlying24 ?_))
  clear hw_w1 hw_w2 hw_w3 hw_w4 n0 n3 n4 n5 a2
  refine (CN.out _).mono ?_
  rintro e w5 ⟨rfl,hb⟩
  replace FR:=zH (FR.out.fut hb)
  replace BN:=zH (BN.out.fut hb)
  replace BA:=zH (BA.out.fut hb)
  replace BB:=zH (BB.out.fut hb)
  replace BR:=zH (BR.out.fut hb)
  clear hb
  go_wp2_with (first
   | (refine sB 24 (.tmp 6) (.tmp 51) w3.heap.size (sN x1 x2 x3) BR.out ?_;intro w7 BR7 g7))
  refine rC BR7 Tryz.underlying24 ?_;exact ⟨by rw [R.out];rfl,(FR.out.away g7 (by omega)).out⟩
set_option maxHeartbeats 16000000 in
theorem rkshape_any_5 (h v c h2 v2 c2:Int) (d:Node) (W:Option Addr) (nw cw:Nat) (B:Option Addr) (nb cb:Nat) (w:World) (i0:InK .i64 h) (i1:InK .i64 v) (i2:InK .i64 c) (hout:InK .i64 d.out) (hp:InK .i64 d.p) (hnw:nw=d.w.length) (hnb:nb=d.bias.length) (mw:nw≤1048576) (mb:nb≤1048576) (e:d.kind=5) :
  Calls Tryz.prog 32 #[.agg (nN d.kind d.a d.b d.k d.s d.p d.out d.za d.zb W nw cw B nb cb d.qm d.qs d.qz d.rm d.rs d.rz d.lo d.hi),.agg (sN h v c),.agg (sN h2 v2 c2)] w fun e w'=>e=retS (shapeV h v c h2 v2 c2 d)∧Below w.heap.size w w':=by
 obtain ⟨r,hr⟩:∃ r,shapeV h v c h2 v2 c2 d=r:=⟨_,rfl⟩
 rw [hr]
 unfold shapeV at hr
 have VV:=zH hr.symm
 clear hr
 have FR:=zH (Far.refl w)
 obtain ⟨w1,hw_w1,BN,k_w1⟩:=nB w (nN d.kind d.a d.b d.k d.s d.p d.out d.za d.zb W nw cw B nb cb d.qm d.qs d.qz d.rm d.rs d.rz d.lo d.hi) 44
 replace FR:=zH (FR.out.fut k_w1)
 clear k_w1
 obtain ⟨w2,hw_w2,BA,k_w2⟩:=nB w1 (sN h v c) 24
 replace FR:=zH (FR.out.fut k_w2)
 replace BN:=zH (BN.out.fut k_w2)
 clear k_w2
 obtain ⟨w3,hw_w3,BB,k_w3⟩:=nB w2 (sN h2 v2 c2) 24
 replace FR:=zH (FR.out.fut k_w3)
 replace BN:=zH (BN.out.fut k_w3)
 replace BA:=zH (BA.out.fut k_w3)
 clear k_w3
 obtain ⟨w4,hw_w4,BR,k_w4⟩:=nB w3 (sN 0 0 0) 24
 replace FR:=zH (FR.out.fut k_w4)
 replace BN:=zH (BN.out.fut k_w4)
 replace BA:=zH (BA.out.fut k_w4)
 replace BB:=zH (BB.out.fut k_w4)
 clear k_w4
 have l1:w.heap.size < w1.heap.size:=by rw [← hw_w1];simp
 have l2:w1.heap.size < w2.heap.size:=by rw [← hw_w2];simp
 have l3:w2.heap.size < w3.heap.size:=by rw [← hw_w3];simp
 have l4:w3.heap.size < w4.heap.size:=by rw [← hw_w4];simp
 have n0:=BN.out.cell 0
 ·skip
  have k1:(d.kind == 1)=false:=by simp [e]
  have k2:(d.kind == 2)=false:=by simp [e]
  have k3:(d.kind == 3)=false:=by simp [e]
  have k4:(d.kind == 4)=false:=by simp [e]
  have k5:(d.kind == 5)=true:=by simp [e]
  have k6:(d.kind == 6)=false:=by simp [e]
  have k8:(d.kind == 8)=false:=by simp [e]
  have k9:(d.kind == 9)=false:=by simp [e]
  have kl:decide (d.kind < 1)=false:=by simp [e]
  have kg:decide (9 < d.kind)=false:=by simp [e]
  have CN:=zH (fun w=>rslide_any h v c d.k d.s d.p c w i0 i1 i2 i2)
  have n3:=BN.out.cell 3
  have n4:=BN.out.cell 4
  have n5:=BN.out.cell 5
  have a2:=BA.out.cell 2
  obtain ⟨⟨⟨x1,x2,x3⟩,xe⟩,hx⟩:∃ x,slideV h v c d.k d.s d.p c=x:=⟨_,rfl⟩
  have R:=zH (show r=((x1,x2,x3),xe) by rw [VV.out,← hx];simp [e])
  rw [hx] at CN
  simp only [retS] at CN
  clear VV hx e i0 i1 i2 hout hp hnw hnb mw mb
  go_enter Tryz.func32,Tryz.ntmps32
  go_wp2_with (first
   | (refine lB 24 (.tmp 4) w1.heap.size BA.out Tryz.underlying24 ?_))
  clear hw_w1 hw_w2 hw_w3 hw_w4 n0 n3 n4 n5 a2
  refine (CN.out _).mono ?_
  rintro e w5 ⟨rfl,hb⟩
  replace FR:=zH (FR.out.fut hb)
  replace BN:=zH (BN.out.fut hb)
  replace BA:=zH (BA.out.fut hb)
  replace BB:=zH (BB.out.fut hb)
  replace BR:=zH (BR.out.fut hb)
  clear hb
  go_wp2_with (first
   | (refine sB 24 (.tmp 6) (.tmp 51) w3.heap.size (sN x1 x2 x3) BR.out ?_;intro w7 BR7 g7))
  refine rC BR7 Tryz.underlying24 ?_;exact ⟨by rw [R.out];rfl,(FR.out.away g7 (by omega)).out⟩
set_option maxHeartbeats 16000000 in
theorem rkshape_any_9 (h v c h2 v2 c2:Int) (d:Node) (W:Option Addr) (nw cw:Nat) (B:Option Addr) (nb cb:Nat) (w:World) (i0:InK .i64 h) (i1:InK .i64 v) (i2:InK .i64 c) (hout:InK .i64 d.out) (hp:InK .i64 d.p) (hnw:nw=d.w.length) (hnb:nb=d.bias.length) (mw:nw≤1048576) (mb:nb≤1048576) (e:d.kind=9) :
  Calls Tryz.prog 32 #[.agg (nN d.kind d.a d.b d.k d.s d.p d.out d.za d.zb W nw cw B nb cb d.qm d.qs d.qz d.rm d.rs d.rz d.lo d.hi),.agg (sN h v c),.agg (sN h2 v2 c2)] w fun e w'=>e=retS (shapeV h v c h2 v2 c2 d)∧Below w.heap.size w w':=by
 obtain ⟨r,hr⟩:∃ r,shapeV h v c h2 v2 c2 d=r:=⟨_,rfl⟩
 rw [hr]
 unfold shapeV at hr
 have VV:=zH hr.symm
 clear hr
 have FR:=zH (Far.refl w)
 obtain ⟨w1,hw_w1,BN,k_w1⟩:=nB w (nN d.kind d.a d.b d.k d.s d.p d.out d.za d.zb W nw cw B nb cb d.qm d.qs d.qz d.rm d.rs d.rz d.lo d.hi) 44
 replace FR:=zH (FR.out.fut k_w1)
 clear k_w1
 obtain ⟨w2,hw_w2,BA,k_w2⟩:=nB w1 (sN h v c) 24
 replace FR:=zH (FR.out.fut k_w2)
 replace BN:=zH (BN.out.fut k_w2)
 clear k_w2
 obtain ⟨w3,hw_w3,BB,k_w3⟩:=nB w2 (sN h2 v2 c2) 24
 replace FR:=zH (FR.out.fut k_w3)
 replace BN:=zH (BN.out.fut k_w3)
 replace BA:=zH (BA.out.fut k_w3)
 clear k_w3
 obtain ⟨w4,hw_w4,BR,k_w4⟩:=nB w3 (sN 0 0 0) 24
 replace FR:=zH (FR.out.fut k_w4)
 replace BN:=zH (BN.out.fut k_w4)
 replace BA:=zH (BA.out.fut k_w4)
 replace BB:=zH (BB.out.fut k_w4)
 clear k_w4
 have l1:w.heap.size < w1.heap.size:=by rw [← hw_w1];simp
 have l2:w1.heap.size < w2.heap.size:=by rw [← hw_w2];simp
 have l3:w2.heap.size < w3.heap.size:=by rw [← hw_w3];simp
 have l4:w3.heap.size < w4.heap.size:=by rw [← hw_w4];simp
 have n0:=BN.out.cell 0
 ·skip
  have k1:(d.kind == 1)=false:=by simp [e]
  have k2:(d.kind == 2)=false:=by simp [e]
  have k3:(d.kind == 3)=false:=by simp [e]
  have k4:(d.kind == 4)=false:=by simp [e]
  have k5:(d.kind == 5)=false:=by simp [e]
  have k6:(d.kind == 6)=false:=by simp [e]
  have k8:(d.kind == 8)=false:=by simp [e]
  have k9:(d.kind == 9)=true:=by simp [e]
  have kl:decide (d.kind < 1)=false:=by simp [e]
  have kg:decide (9 < d.kind)=false:=by simp [e]
  have RE:=zH (fun w=>relems_any h c v w i0 i1 i2)
  have EB:=zH (elems_bd (h:=h) (v:=v) (c:=c))
  have m0:=(elems_range h v c).1
  have V1:=zH (show r=plainV d.kind h v c h2 v2 c2 d.p by rw [VV.out];simp [e])
  have V1':=V1.out
  unfold plainV at V1'
  obtain ⟨m,hm⟩:∃ m,elems h v c=m:=⟨_,rfl⟩
  obtain ⟨eq,he⟩:∃ x,([h,v,c] == [h2,v2,c2])=x:=⟨_,rfl⟩
  have QE:=zH (fun w=>eq_shape w h v c h2 v2 c2)
  rw [hm,he] at V1'
  rw [hm] at RE EB m0
  rw [he] at QE
  replace V1:=zH V1'
  clear V1' hm he VV i0 i1 i2 hout hp hnw hnb mw mb
  by_cases c1:m=0
  ·have t1:(m == 0)=true:=by simp [c1]
   have R:=zH (show r=noS 5 by rw [V1.out,if_pos c1])
   clear c1 V1 m0 EB e
   go_enter Tryz.func32,Tryz.ntmps32
   go_wp2_with (first
    | (refine lB 24 (.tmp 4) w1.heap.size BA.out Tryz.underlying24 ?_))
   clear hw_w1 hw_w2 hw_w3 hw_w4 n0
   refine (RE.out _).mono ?_
   rintro e w5 ⟨rfl,hb⟩
   replace FR:=zH (FR.out.fut hb)
   replace BN:=zH (BN.out.fut hb)
   replace BA:=zH (BA.out.fut hb)
   replace BB:=zH (BB.out.fut hb)
   replace BR:=zH (BR.out.fut hb)
   clear hb
   have n0:=BN.out.cell 0
   go_upto_region 12 with (fail)
   go_wp2_with (first
    | (refine sB 24 (.tmp 6) (.tmp 75) w3.heap.size (sN 0 0 0) BR.out ?_;intro w7 BR7 g7))
   refine rC BR7 Tryz.underlying24 ?_;exact ⟨by rw [R.out];rfl,(FR.out.away g7 (by omega)).out⟩
  have t1:(m == 0)=false:=by simpa using c1
  have V2:=zH (show r=(if d.kind=6∧eq=false then noS 5 else if d.kind=8 then aroundV h v c d.p else if d.kind=9 then ((1,1,m),0) else ((h,v,c),0)) by rw [V1.out,if_neg c1])
  have eb:=EB.out c1
  clear V1 c1 m0 EB
  have R:=zH (show r=((1,1,m),0) by rw [V2.out];simp [e])
  clear V2 e QE eb
  go_enter Tryz.func32,Tryz.ntmps32
  go_wp2_with (first
   | (refine lB 24 (.tmp 4) w1.heap.size BA.out Tryz.underlying24 ?_))
  clear hw_w1 hw_w2 hw_w3 hw_w4 n0
  refine (RE.out _).mono ?_
  rintro e w5 ⟨rfl,hb⟩
  replace FR:=zH (FR.out.fut hb)
  replace BN:=zH (BN.out.fut hb)
  replace BA:=zH (BA.out.fut hb)
  replace BB:=zH (BB.out.fut hb)
  replace BR:=zH (BR.out.fut hb)
  clear hb
  have n0:=BN.out.cell 0
  go_upto_region 14 with (fail)
  go_wp2_with (first
   | (refine lB 24 (.tmp 4) w1.heap.size BA.out Tryz.underlying24 ?_))
  clear n0
  refine (RE.out _).mono ?_
  rintro e w6 ⟨rfl,hb⟩
  replace FR:=zH (FR.out.fut hb)
  replace BN:=zH (BN.out.fut hb)
  replace BA:=zH (BA.out.fut hb)
  replace BB:=zH (BB.out.fut hb)
  replace BR:=zH (BR.out.fut hb)
  clear hb
  go_wp2_with (first
   | (refine sB 24 (.tmp 6) (.tmp 81) w3.heap.size (sN 1 1 m) BR.out ?_;intro w7 BR7 g7))
  refine rC BR7 Tryz.underlying24 ?_;exact ⟨by rw [R.out];rfl,(FR.out.away g7 (by omega)).out⟩
set_option maxHeartbeats 16000000 in
theorem rkshape_any_6 (h v c h2 v2 c2:Int) (d:Node) (W:Option Addr) (nw cw:Nat) (B:Option Addr) (nb cb:Nat) (w:World) (i0:InK .i64 h) (i1:InK .i64 v) (i2:InK .i64 c) (hout:InK .i64 d.out) (hp:InK .i64 d.p) (hnw:nw=d.w.length) (hnb:nb=d.bias.length) (mw:nw≤1048576) (mb:nb≤1048576) (e:d.kind=6) :
  Calls Tryz.prog 32 #[.agg (nN d.kind d.a d.b d.k d.s d.p d.out d.za d.zb W nw cw B nb cb d.qm d.qs d.qz d.rm d.rs d.rz d.lo d.hi),.agg (sN h v c),.agg (sN h2 v2 c2)] w fun e w'=>e=retS (shapeV h v c h2 v2 c2 d)∧Below w.heap.size w w':=by
 obtain ⟨r,hr⟩:∃ r,shapeV h v c h2 v2 c2 d=r:=⟨_,rfl⟩
 rw [hr]
 unfold shapeV at hr
 have VV:=zH hr.symm
 clear hr
 have FR:=zH (Far.refl w)
 obtain ⟨w1,hw_w1,BN,k_w1⟩:=nB w (nN d.kind d.a d.b d.k d.s d.p d.out d.za d.zb W nw cw B nb cb d.qm d.qs d.qz d.rm d.rs d.rz d.lo d.hi) 44
 replace FR:=zH (FR.out.fut k_w1)
 clear k_w1
 obtain ⟨w2,hw_w2,BA,k_w2⟩:=nB w1 (sN h v c) 24
 replace FR:=zH (FR.out.fut k_w2)
 replace BN:=zH (BN.out.fut k_w2)
 clear k_w2
 obtain ⟨w3,hw_w3,BB,k_w3⟩:=nB w2 (sN h2 v2 c2) 24
 replace FR:=zH (FR.out.fut k_w3)
 replace BN:=zH (BN.out.fut k_w3)
 replace BA:=zH (BA.out.fut k_w3)
 clear k_w3
 obtain ⟨w4,hw_w4,BR,k_w4⟩:=nB w3 (sN 0 0 0) 24
 replace FR:=zH (FR.out.fut k_w4)
 replace BN:=zH (BN.out.fut k_w4)
 replace BA:=zH (BA.out.fut k_w4)
 replace BB:=zH (BB.out.fut k_w4)
 clear k_w4
 have l1:w.heap.size < w1.heap.size:=by rw [← hw_w1];simp
 have l2:w1.heap.size < w2.heap.size:=by rw [← hw_w2];simp
 have l3:w2.heap.size < w3.heap.size:=by rw [← hw_w3];simp
 have l4:w3.heap.size < w4.heap.size:=by rw [← hw_w4];simp
 have n0:=BN.out.cell 0
 ·skip
  have k1:(d.kind == 1)=false:=by simp [e]
  have k2:(d.kind == 2)=false:=by simp [e]
  have k3:(d.kind == 3)=false:=by simp [e]
  have k4:(d.kind == 4)=false:=by simp [e]
  have k5:(d.kind == 5)=false:=by simp [e]
  have k6:(d.kind == 6)=true:=by simp [e]
  have k8:(d.kind == 8)=false:=by simp [e]
  have k9:(d.kind == 9)=false:=by simp [e]
  have kl:decide (d.kind < 1)=false:=by simp [e]
  have kg:decide (9 < d.kind)=false:=by simp [e]
  have RE:=zH (fun w=>relems_any h c v w i0 i1 i2)
  have EB:=zH (elems_bd (h:=h) (v:=v) (c:=c))
  have m0:=(elems_range h v c).1
  have V1:=zH (show r=plainV d.kind h v c h2 v2 c2 d.p by rw [VV.out];simp [e])
  have V1':=V1.out
  unfold plainV at V1'
  obtain ⟨m,hm⟩:∃ m,elems h v c=m:=⟨_,rfl⟩
  obtain ⟨eq,he⟩:∃ x,([h,v,c] == [h2,v2,c2])=x:=⟨_,rfl⟩
  have QE:=zH (fun w=>eq_shape w h v c h2 v2 c2)
  rw [hm,he] at V1'
  rw [hm] at RE EB m0
  rw [he] at QE
  replace V1:=zH V1'
  clear V1' hm he VV i0 i1 i2 hout hp hnw hnb mw mb
  by_cases c1:m=0
  ·have t1:(m == 0)=true:=by simp [c1]
   have R:=zH (show r=noS 5 by rw [V1.out,if_pos c1])
   clear c1 V1 m0 EB e
   go_enter Tryz.func32,Tryz.ntmps32
   go_wp2_with (first
    | (refine lB 24 (.tmp 4) w1.heap.size BA.out Tryz.underlying24 ?_))
   clear hw_w1 hw_w2 hw_w3 hw_w4 n0
   refine (RE.out _).mono ?_
   rintro e w5 ⟨rfl,hb⟩
   replace FR:=zH (FR.out.fut hb)
   replace BN:=zH (BN.out.fut hb)
   replace BA:=zH (BA.out.fut hb)
   replace BB:=zH (BB.out.fut hb)
   replace BR:=zH (BR.out.fut hb)
   clear hb
   have n0:=BN.out.cell 0
   go_upto_region 12 with (fail)
   go_wp2_with (first
    | (refine sB 24 (.tmp 6) (.tmp 75) w3.heap.size (sN 0 0 0) BR.out ?_;intro w7 BR7 g7))
   refine rC BR7 Tryz.underlying24 ?_;exact ⟨by rw [R.out];rfl,(FR.out.away g7 (by omega)).out⟩
  have t1:(m == 0)=false:=by simpa using c1
  have V2:=zH (show r=(if d.kind=6∧eq=false then noS 5 else if d.kind=8 then aroundV h v c d.p else if d.kind=9 then ((1,1,m),0) else ((h,v,c),0)) by rw [V1.out,if_neg c1])
  have eb:=EB.out c1
  clear V1 c1 m0 EB
  cases eq
  case false =>
   have R:=zH (show r=noS 5 by rw [V2.out];simp [e])
   clear V2 e eb
   go_enter Tryz.func32,Tryz.ntmps32
   go_wp2_with (first
    | (refine lB 24 (.tmp 4) w1.heap.size BA.out Tryz.underlying24 ?_))
   clear hw_w1 hw_w2 hw_w3 hw_w4 n0
   refine (RE.out _).mono ?_
   rintro e w5 ⟨rfl,hb⟩
   replace FR:=zH (FR.out.fut hb)
   replace BN:=zH (BN.out.fut hb)
   replace BA:=zH (BA.out.fut hb)
   replace BB:=zH (BB.out.fut hb)
   replace BR:=zH (BR.out.fut hb)
   clear hb
   have n0:=BN.out.cell 0
   have a0:=BA.out.cell 0
   have b0:=BB.out.cell 0
   have a1:=BA.out.cell 1
   have b1:=BB.out.cell 1
   have a2:=BA.out.cell 2
   have b2:=BB.out.cell 2
   go_upto_region 12 with (refine wpList_neq_agg 24 _ (.tmp 70) (.tmp 71) rfl _ _ rfl rfl (by rfl) (by kernel_rfl) _ (QE.out _) ?_;try simp only [Bool.not_true,Bool.not_false])
   clear a0 a1 a2 b0 b1 b2 n0
   go_wp2_with (first
    | (refine lB 24 (.tmp 4) w1.heap.size BA.out Tryz.underlying24 ?_)
    | (refine sB 24 (.tmp 6) (.tmp 75) w3.heap.size (sN 0 0 0) BR.out ?_;intro w7 BR7 g7))
   refine rC BR7 Tryz.underlying24 ?_;exact ⟨by rw [R.out];rfl,(FR.out.away g7 (by omega)).out⟩
  case true =>
   have R:=zH (show r=((h,v,c),0) by rw [V2.out];simp [e])
   clear V2 e eb
   go_enter Tryz.func32,Tryz.ntmps32
   go_wp2_with (first
    | (refine lB 24 (.tmp 4) w1.heap.size BA.out Tryz.underlying24 ?_))
   clear hw_w1 hw_w2 hw_w3 hw_w4 n0
   refine (RE.out _).mono ?_
   rintro e w5 ⟨rfl,hb⟩
   replace FR:=zH (FR.out.fut hb)
   replace BN:=zH (BN.out.fut hb)
   replace BA:=zH (BA.out.fut hb)
   replace BB:=zH (BB.out.fut hb)
   replace BR:=zH (BR.out.fut hb)
   clear hb
   have n0:=BN.out.cell 0
   have a0:=BA.out.cell 0
   have b0:=BB.out.cell 0
   have a1:=BA.out.cell 1
   have b1:=BB.out.cell 1
   have a2:=BA.out.cell 2
   have b2:=BB.out.cell 2
   go_upto_region 22 with (refine wpList_neq_agg 24 _ (.tmp 70) (.tmp 71) rfl _ _ rfl rfl (by rfl) (by kernel_rfl) _ (QE.out _) ?_;try simp only [Bool.not_true,Bool.not_false])
   clear a0 a1 a2 b0 b1 b2 n0
   go_wp2_with (first
    | (refine lB 24 (.tmp 4) w1.heap.size BA.out Tryz.underlying24 ?_)
    | (refine sB 24 (.tmp 6) (.tmp 114) w3.heap.size (sN h v c) BR.out ?_;intro w7 BR7 g7))
   refine rC BR7 Tryz.underlying24 ?_;exact ⟨by rw [R.out];rfl,(FR.out.away g7 (by omega)).out⟩
set_option maxHeartbeats 16000000 in
theorem rkshape_any_7 (h v c h2 v2 c2:Int) (d:Node) (W:Option Addr) (nw cw:Nat) (B:Option Addr) (nb cb:Nat) (w:World) (i0:InK .i64 h) (i1:InK .i64 v) (i2:InK .i64 c) (hout:InK .i64 d.out) (hp:InK .i64 d.p) (hnw:nw=d.w.length) (hnb:nb=d.bias.length) (mw:nw≤1048576) (mb:nb≤1048576) (e:d.kind=7) :
  Calls Tryz.prog 32 #[.agg (nN d.kind d.a d.b d.k d.s d.p d.out d.za d.zb W nw cw B nb cb d.qm d.qs d.qz d.rm d.rs d.rz d.lo d.hi),.agg (sN h v c),.agg (sN h2 v2 c2)] w fun e w'=>e=retS (shapeV h v c h2 v2 c2 d)∧Below w.heap.size w w':=by
 obtain ⟨r,hr⟩:∃ r,shapeV h v c h2 v2 c2 d=r:=⟨_,rfl⟩
 rw [hr]
 unfold shapeV at hr
 have VV:=zH hr.symm
 clear hr
 have FR:=zH (Far.refl w)
 obtain ⟨w1,hw_w1,BN,k_w1⟩:=nB w (nN d.kind d.a d.b d.k d.s d.p d.out d.za d.zb W nw cw B nb cb d.qm d.qs d.qz d.rm d.rs d.rz d.lo d.hi) 44
 replace FR:=zH (FR.out.fut k_w1)
 clear k_w1
 obtain ⟨w2,hw_w2,BA,k_w2⟩:=nB w1 (sN h v c) 24
 replace FR:=zH (FR.out.fut k_w2)
 replace BN:=zH (BN.out.fut k_w2)
 clear k_w2
 obtain ⟨w3,hw_w3,BB,k_w3⟩:=nB w2 (sN h2 v2 c2) 24
 replace FR:=zH (FR.out.fut k_w3)
 replace BN:=zH (BN.out.fut k_w3)
 replace BA:=zH (BA.out.fut k_w3)
 clear k_w3
 obtain ⟨w4,hw_w4,BR,k_w4⟩:=nB w3 (sN 0 0 0) 24
 replace FR:=zH (FR.out.fut k_w4)
 replace BN:=zH (BN.out.fut k_w4)
 replace BA:=zH (BA.out.fut k_w4)
 replace BB:=zH (BB.out.fut k_w4)
 clear k_w4
 have l1:w.heap.size < w1.heap.size:=by rw [← hw_w1];simp
 have l2:w1.heap.size < w2.heap.size:=by rw [← hw_w2];simp
 have l3:w2.heap.size < w3.heap.size:=by rw [← hw_w3];simp
 have l4:w3.heap.size < w4.heap.size:=by rw [← hw_w4];simp
 have n0:=BN.out.cell 0
 ·skip
  have k1:(d.kind == 1)=false:=by simp [e]
  have k2:(d.kind == 2)=false:=by simp [e]
  have k3:(d.kind == 3)=false:=by simp [e]
  have k4:(d.kind == 4)=false:=by simp [e]
  have k5:(d.kind == 5)=false:=by simp [e]
  have k6:(d.kind == 6)=false:=by simp [e]
  have k8:(d.kind == 8)=false:=by simp [e]
  have k9:(d.kind == 9)=false:=by simp [e]
  have kl:decide (d.kind < 1)=false:=by simp [e]
  have kg:decide (9 < d.kind)=false:=by simp [e]
  have RE:=zH (fun w=>relems_any h c v w i0 i1 i2)
  have EB:=zH (elems_bd (h:=h) (v:=v) (c:=c))
  have m0:=(elems_range h v c).1
  have V1:=zH (show r=plainV d.kind h v c h2 v2 c2 d.p by rw [VV.out];simp [e])
  have V1':=V1.out
  unfold plainV at V1'
  obtain ⟨m,hm⟩:∃ m,elems h v c=m:=⟨_,rfl⟩
  obtain ⟨eq,he⟩:∃ x,([h,v,c] == [h2,v2,c2])=x:=⟨_,rfl⟩
  have QE:=zH (fun w=>eq_shape w h v c h2 v2 c2)
  rw [hm,he] at V1'
  rw [hm] at RE EB m0
  rw [he] at QE
  replace V1:=zH V1'
  clear V1' hm he VV i0 i1 i2 hout hp hnw hnb mw mb
  by_cases c1:m=0
  ·have t1:(m == 0)=true:=by simp [c1]
   have R:=zH (show r=noS 5 by rw [V1.out,if_pos c1])
   clear c1 V1 m0 EB e
   go_enter Tryz.func32,Tryz.ntmps32
   go_wp2_with (first
    | (refine lB 24 (.tmp 4) w1.heap.size BA.out Tryz.underlying24 ?_))
   clear hw_w1 hw_w2 hw_w3 hw_w4 n0
   refine (RE.out _).mono ?_
   rintro e w5 ⟨rfl,hb⟩
   replace FR:=zH (FR.out.fut hb)
   replace BN:=zH (BN.out.fut hb)
   replace BA:=zH (BA.out.fut hb)
   replace BB:=zH (BB.out.fut hb)
   replace BR:=zH (BR.out.fut hb)
   clear hb
   have n0:=BN.out.cell 0
   go_upto_region 12 with (fail)
   go_wp2_with (first
    | (refine sB 24 (.tmp 6) (.tmp 75) w3.heap.size (sN 0 0 0) BR.out ?_;intro w7 BR7 g7))
   refine rC BR7 Tryz.underlying24 ?_;exact ⟨by rw [R.out];rfl,(FR.out.away g7 (by omega)).out⟩
  have t1:(m == 0)=false:=by simpa using c1
  have V2:=zH (show r=(if d.kind=6∧eq=false then noS 5 else if d.kind=8 then aroundV h v c d.p else if d.kind=9 then ((1,1,m),0) else ((h,v,c),0)) by rw [V1.out,if_neg c1])
  have eb:=EB.out c1
  clear V1 c1 m0 EB
  have R:=zH (show r=((h,v,c),0) by rw [V2.out];simp [e])
  clear V2 e QE eb
  go_enter Tryz.func32,Tryz.ntmps32
  go_wp2_with (first
   | (refine lB 24 (.tmp 4) w1.heap.size BA.out Tryz.underlying24 ?_))
  clear hw_w1 hw_w2 hw_w3 hw_w4 n0
  refine (RE.out _).mono ?_
  rintro e w5 ⟨rfl,hb⟩
  replace FR:=zH (FR.out.fut hb)
  replace BN:=zH (BN.out.fut hb)
  replace BA:=zH (BA.out.fut hb)
  replace BB:=zH (BB.out.fut hb)
  replace BR:=zH (BR.out.fut hb)
  clear hb
  have n0:=BN.out.cell 0
  go_upto_region 22 with (fail)
  go_wp2_with (first
   | (refine lB 24 (.tmp 4) w1.heap.size BA.out Tryz.underlying24 ?_)
   | (refine sB 24 (.tmp 6) (.tmp 114) w3.heap.size (sN h v c) BR.out ?_;intro w7 BR7 g7))
  refine rC BR7 Tryz.underlying24 ?_;exact ⟨by rw [R.out];rfl,(FR.out.away g7 (by omega)).out⟩
end Go.Proofs.YtjkmjpjknmghlaaGreat
