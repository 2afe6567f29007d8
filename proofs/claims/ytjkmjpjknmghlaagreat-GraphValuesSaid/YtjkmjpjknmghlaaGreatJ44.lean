/-
  Sums by kind (layer 26): the document's Sum.
  Sums by kind (layer 26): run.Sum.
  The shape that a node makes (layers 18, 25): the document's Shape.
-/
import Derived.Test.YtjkmjpjknmghlaaGreatJ37
import Derived.Test.YtjkmjpjknmghlaaGreatJ30
import Derived.Test.YtjkmjpjknmghlaaGreatJ32
set_option linter.unusedVariables false
set_option linter.unusedSimpArgs false
namespace Go.Proofs.YtjkmjpjknmghlaaGreat
open Go.RowKit Go.ChangeShapes Go.WideShapes
set_option maxRecDepth 100000
set_option maxHeartbeats 4000000
def sumOf (t:Tensor) (d:Node):Tensor × Int:=if d.kind=1 then convOf t d else if d.kind=2 then depthOf t d else if d.kind=3 then denseOf t d else (noTensor,6)
theorem rrunSum_any (t:Tensor) (A:Option Addr) (n cap:Nat) (d:Node) (W:Option Addr) (nw cw:Nat) (B:Option Addr) (nb cb:Nat) (w:World) (ht:TensorIn t) (hd:NodeIn d)
  (ha:Sl (tInt .i8) w (blo w.heap.size) A n cap t.data) (hw:Sl (tInt .i8) w (blo w.heap.size) W nw cw d.w) (hb:Sl (tInt .i32) w (blo w.heap.size) B nb cb d.bias) (mw:nw≤2000∧nb≤200) :
  Calls Tryz.prog 38 #[.agg (nN d.kind d.a d.b d.k d.s d.p d.out d.za d.zb W nw cw B nb cb d.qm d.qs d.qz d.rm d.rs d.rz d.lo d.hi),.agg (tN t.h t.v t.c A n cap)] w (RetT .i32 (sumOf t d).1 (sumOf t d).2 w):=by
 have HA:=zH ha
 have HW:=zH hw
 have HB:=zH hb
 have S1:=zH (fun w (ha:Sl (tInt .i8) w (blo w.heap.size) A n cap t.data) (hw:Sl (tInt .i8) w (blo w.heap.size) W nw cw d.w) (hb:Sl (tInt .i32) w (blo w.heap.size) B nb cb d.bias)=>rconvOf_any t A n cap d W nw cw B nb cb w ht hd ha hw hb mw)
 have S2:=zH (fun w (ha:Sl (tInt .i8) w (blo w.heap.size) A n cap t.data) (hw:Sl (tInt .i8) w (blo w.heap.size) W nw cw d.w) (hb:Sl (tInt .i32) w (blo w.heap.size) B nb cb d.bias)=>rdepthOf_any t A n cap d W nw cw B nb cb w ht hd ha hw hb mw)
 have S3:=zH (fun w (ha:Sl (tInt .i8) w (blo w.heap.size) A n cap t.data) (hw:Sl (tInt .i8) w (blo w.heap.size) W nw cw d.w) (hb:Sl (tInt .i32) w (blo w.heap.size) B nb cb d.bias)=>rdenseOf_any t A n cap d W nw cw B nb cb w ht hd ha hw hb)
 have FR:=zH (Far.refl w)
 obtain ⟨w1,hw_w1,BN,k_w1⟩:=nB w (nN d.kind d.a d.b d.k d.s d.p d.out d.za d.zb W nw cw B nb cb d.qm d.qs d.qz d.rm d.rs d.rz d.lo d.hi) 44
 replace FR:=zH (FR.out.fut k_w1)
 clear k_w1
 obtain ⟨w2,hw_w2,BA,k_w2⟩:=nB w1 (tN t.h t.v t.c A n cap) 27
 replace FR:=zH (FR.out.fut k_w2)
 replace BN:=zH (BN.out.fut k_w2)
 clear k_w2
 obtain ⟨w3,hw_w3,BR,k_w3⟩:=nB w2 (tN 0 0 0 none 0 0) 78
 replace FR:=zH (FR.out.fut k_w3)
 replace BN:=zH (BN.out.fut k_w3)
 replace BA:=zH (BA.out.fut k_w3)
 clear k_w3
 have l1:w.heap.size < w1.heap.size:=by rw [← hw_w1];simp
 have l2:w1.heap.size < w2.heap.size:=by rw [← hw_w2];simp
 have c0:=BN.out.cell 0
 simp only [gX] at c0
 have SO:=zH (show sumOf t d=if d.kind=1 then convOf t d else if d.kind=2 then depthOf t d else if d.kind=3 then denseOf t d else (noTensor,6) from rfl)
 obtain ⟨x,hx⟩:∃ x,sumOf t d=x:=⟨_,rfl⟩
 rw [hx] at SO ⊢
 have HM:=zH mw
 clear ht hd ha hw hb hx mw
 by_cases k1:d.kind=1
 ·rw [if_pos k1] at SO
  rw [SO.out]
  have c0':w3.cell? ⟨w.heap.size,0,none⟩=some (.int .i64 1):=by rw [← k1];exact c0
  replace c0:=c0'
  clear c0' k1  SO
  obtain ⟨y,hy⟩:∃ y,convOf t d=y:=⟨_,rfl⟩
  rw [hy] at S1 ⊢
  clear hy
  go_enter Tryz.func38,Tryz.ntmps38
  go_wp2_with (first|(refine lB 27 (.tmp 3) w1.heap.size BA.out Tryz.underlying27 ?_)|(refine lB 44 (.tmp 2) w.heap.size BN.out Tryz.underlying44 ?_))
  refine (S1.out _ ((Old.now HA.out).fut FR.out.out).all ((Old.now HW.out).fut FR.out.out).all ((Old.now HB.out).fut FR.out.out).all).mono ?_
  rintro e wm ⟨RA,rn,rc,rfl,rs,hb⟩
  have RS:=zH (show New w3 (tInt .i32) wm RA rn rc y.1.data from ⟨rs⟩)
  have lbr:=BR.out.lt
  have lfr:=FR.out.size
  replace BR:=zH (BR.out.fut hb)
  replace FR:=zH (FR.out.fut hb)
  clear hb rs c0 hw_w1 hw_w2 hw_w3
  go_wp2_with (refine sB 78 (.tmp 4) (.tmp 12) w2.heap.size (tN y.1.h y.1.v y.1.c RA rn rc) BR.out ?_;intro w9 B9 g9)
  refine rC B9 Tryz.underlying78 ?_
  exact ⟨RA,rn,rc,rfl,(RS.out.away g9 lbr).out.more (bin_more lfr (Nat.le_refl _)),(FR.out.away g9 (by omega)).out⟩
 rw [if_neg k1] at SO
 have t1:(d.kind == 1)=false:=by simpa using k1
 by_cases k2:d.kind=2
 ·rw [if_pos k2] at SO
  rw [SO.out]
  have c0':w3.cell? ⟨w.heap.size,0,none⟩=some (.int .i64 2):=by rw [← k2];exact c0
  replace c0:=c0'
  clear c0' k2 t1 SO
  obtain ⟨y,hy⟩:∃ y,depthOf t d=y:=⟨_,rfl⟩
  rw [hy] at S2 ⊢
  clear hy
  go_enter Tryz.func38,Tryz.ntmps38
  go_wp2_with (first|(refine lB 27 (.tmp 3) w1.heap.size BA.out Tryz.underlying27 ?_)|(refine lB 44 (.tmp 2) w.heap.size BN.out Tryz.underlying44 ?_))
  refine (S2.out _ ((Old.now HA.out).fut FR.out.out).all ((Old.now HW.out).fut FR.out.out).all ((Old.now HB.out).fut FR.out.out).all).mono ?_
  rintro e wm ⟨RA,rn,rc,rfl,rs,hb⟩
  have RS:=zH (show New w3 (tInt .i32) wm RA rn rc y.1.data from ⟨rs⟩)
  have lbr:=BR.out.lt
  have lfr:=FR.out.size
  replace BR:=zH (BR.out.fut hb)
  replace FR:=zH (FR.out.fut hb)
  clear hb rs c0 hw_w1 hw_w2 hw_w3
  go_wp2_with (refine sB 78 (.tmp 4) (.tmp 20) w2.heap.size (tN y.1.h y.1.v y.1.c RA rn rc) BR.out ?_;intro w9 B9 g9)
  refine rC B9 Tryz.underlying78 ?_
  exact ⟨RA,rn,rc,rfl,(RS.out.away g9 lbr).out.more (bin_more lfr (Nat.le_refl _)),(FR.out.away g9 (by omega)).out⟩
 rw [if_neg k2] at SO
 have t2:(d.kind == 2)=false:=by simpa using k2
 by_cases k3:d.kind=3
 ·rw [if_pos k3] at SO
  rw [SO.out]
  have c0':w3.cell? ⟨w.heap.size,0,none⟩=some (.int .i64 3):=by rw [← k3];exact c0
  replace c0:=c0'
  clear c0' k3 t1 t2 SO
  obtain ⟨y,hy⟩:∃ y,denseOf t d=y:=⟨_,rfl⟩
  rw [hy] at S3 ⊢
  clear hy
  go_enter Tryz.func38,Tryz.ntmps38
  go_wp2_with (first|(refine lB 27 (.tmp 3) w1.heap.size BA.out Tryz.underlying27 ?_)|(refine lB 44 (.tmp 2) w.heap.size BN.out Tryz.underlying44 ?_))
  refine (S3.out _ ((Old.now HA.out).fut FR.out.out).all ((Old.now HW.out).fut FR.out.out).all ((Old.now HB.out).fut FR.out.out).all).mono ?_
  rintro e wm ⟨RA,rn,rc,rfl,rs,hb⟩
  have RS:=zH (show New w3 (tInt .i32) wm RA rn rc y.1.data from ⟨rs⟩)
  have lbr:=BR.out.lt
  have lfr:=FR.out.size
  replace BR:=zH (BR.out.fut hb)
  replace FR:=zH (FR.out.fut hb)
  clear hb rs c0 hw_w1 hw_w2 hw_w3
  go_wp2_with (refine sB 78 (.tmp 4) (.tmp 28) w2.heap.size (tN y.1.h y.1.v y.1.c RA rn rc) BR.out ?_;intro w9 B9 g9)
  refine rC B9 Tryz.underlying78 ?_
  exact ⟨RA,rn,rc,rfl,(RS.out.away g9 lbr).out.more (bin_more lfr (Nat.le_refl _)),(FR.out.away g9 (by omega)).out⟩
 rw [if_neg k3] at SO
 have t3:(d.kind == 3)=false:=by simpa using k3
 rw [SO.out]
 clear k1 k2 k3
 go_enter Tryz.func38,Tryz.ntmps38
 go_wp2_with (refine sB 78 (.tmp 4) (.tmp 30) w2.heap.size (tN 0 0 0 none 0 0) BR.out ?_;intro w9 B9 g9)
 refine rC B9 Tryz.underlying78 ?_
 exact RetT.none (FR.out.away g9 (by omega)).out
theorem runSum_any (t:Tensor) (A:Option Addr) (n cap:Nat) (d:Node) (W:Option Addr) (nw cw:Nat) (B:Option Addr) (nb cb:Nat) (w:World) (ht:TensorIn t) (hd:NodeIn d)
  (ha:Sl (tInt .i8) w (blo w.heap.size) A n cap t.data) (hw:Sl (tInt .i8) w (blo w.heap.size) W nw cw d.w) (hb:Sl (tInt .i32) w (blo w.heap.size) B nb cb d.bias) (mw:nw≤2000∧nb≤200) :
  Calls Tryz.prog 89 #[.agg (nN d.kind d.a d.b d.k d.s d.p d.out d.za d.zb W nw cw B nb cb d.qm d.qs d.qz d.rm d.rs d.rz d.lo d.hi),.agg (tN t.h t.v t.c A n cap)] w (RetT .i32 (sumOf t d).1 (sumOf t d).2 w):=by
 have HA:=zH ha
 have HW:=zH hw
 have HB:=zH hb
 have FT:=zH (fun w=>fits_any d W nw cw B nb cb w)
 have S0:=zH (fun (h3:d.k=3) (h1:d.s=1) w (ha:Sl (tInt .i8) w (blo w.heap.size) A n cap t.data) (hw:Sl (tInt .i8) w (blo w.heap.size) W nw cw d.w) (hb:Sl (tInt .i32) w (blo w.heap.size) B nb cb d.bias)=>laneOf_any t A n cap d W nw cw B nb cb w ht hd ha hw hb mw h3 h1)
 have S1:=zH (fun w (ha:Sl (tInt .i8) w (blo w.heap.size) A n cap t.data) (hw:Sl (tInt .i8) w (blo w.heap.size) W nw cw d.w) (hb:Sl (tInt .i32) w (blo w.heap.size) B nb cb d.bias)=>lowerOf_any t A n cap d W nw cw B nb cb w ht hd ha hw hb mw)
 have S2:=zH (fun w (ha:Sl (tInt .i8) w (blo w.heap.size) A n cap t.data) (hw:Sl (tInt .i8) w (blo w.heap.size) W nw cw d.w) (hb:Sl (tInt .i32) w (blo w.heap.size) B nb cb d.bias)=>depthOf_any t A n cap d W nw cw B nb cb w ht hd ha hw hb mw)
 have S3:=zH (fun w (ha:Sl (tInt .i8) w (blo w.heap.size) A n cap t.data) (hw:Sl (tInt .i8) w (blo w.heap.size) W nw cw d.w) (hb:Sl (tInt .i32) w (blo w.heap.size) B nb cb d.bias)=>denseOf_any t A n cap d W nw cw B nb cb w ht hd ha hw hb)
 have FR:=zH (Far.refl w)
 obtain ⟨w1,hw_w1,BN,k_w1⟩:=nB w (nN d.kind d.a d.b d.k d.s d.p d.out d.za d.zb W nw cw B nb cb d.qm d.qs d.qz d.rm d.rs d.rz d.lo d.hi) 44
 replace FR:=zH (FR.out.fut k_w1)
 clear k_w1
 obtain ⟨w2,hw_w2,BA,k_w2⟩:=nB w1 (tN t.h t.v t.c A n cap) 27
 replace FR:=zH (FR.out.fut k_w2)
 replace BN:=zH (BN.out.fut k_w2)
 clear k_w2
 obtain ⟨w3,hw_w3,BR,k_w3⟩:=nB w2 (tN 0 0 0 none 0 0) 78
 replace FR:=zH (FR.out.fut k_w3)
 replace BN:=zH (BN.out.fut k_w3)
 replace BA:=zH (BA.out.fut k_w3)
 clear k_w3
 have l1:w.heap.size < w1.heap.size:=by rw [← hw_w1];simp
 have l2:w1.heap.size < w2.heap.size:=by rw [← hw_w2];simp
 have l3:w2.heap.size < w3.heap.size:=by rw [← hw_w3];simp
 have c0:=BN.out.cell 0
 simp only [gX] at c0
 have SO:=zH (show sumOf t d=if d.kind=1 then convOf t d else if d.kind=2 then depthOf t d else if d.kind=3 then denseOf t d else (noTensor,6) from rfl)
 obtain ⟨x,hx⟩:∃ x,sumOf t d=x:=⟨_,rfl⟩
 rw [hx] at SO ⊢
 have HM:=zH mw
 clear ht hd ha hw hb hx mw
 by_cases k1:d.kind=1
 ·rw [if_pos k1] at SO
  rw [SO.out]
  have KE:=zH k1
  have c0':w3.cell? ⟨w.heap.size,0,none⟩=some (.int .i64 1):=by rw [← k1];exact c0
  replace c0:=c0'
  clear c0' k1  SO
  by_cases kf:d.k=3∧d.s=1
  ·have S0:=zH (S0.out kf.1 kf.2)
   rw [show decide (d.k=3∧d.s=1)=true from decide_eq_true kf] at FT
   clear kf
   obtain ⟨y,hy⟩:∃ y,convOf t d=y:=⟨_,rfl⟩
   rw [hy] at S0 ⊢
   clear hy
   go_enter Tryz.func89,Tryz.ntmps89
   go_wp2_with (first|(refine wpList_load_midw (by kernel_rfl) 44 (.tmp 2) rfl w.heap.size 0 rfl _ _ (range_blk (vs:=[.int .i64 d.kind,.int .i64 d.a,.int .i64 d.b,.int .i64 d.k,.int .i64 d.s,.int .i64 d.p,.int .i64 d.out,.int .i8 d.za,.int .i8 d.zb,.slice W nw cw,.slice B nb cb,.int .i32 d.qm,.int .i64 d.qs,.int .i8 d.qz,.int .i32 d.rm,.int .i64 d.rs,.int .i8 d.rz,.int .i8 d.lo,.int .i8 d.hi]) BN.out rfl) Tryz.underlying44 rfl (by kernel_rfl) ?_)|(refine lB 44 (.tmp 2) w.heap.size BN.out Tryz.underlying44 ?_)|(refine lB 27 (.tmp 3) w1.heap.size BA.out Tryz.underlying27 ?_)|(go_at_call 119;refine (FT.out _).mono ?_;rintro e w4 ⟨rfl,hb⟩;have l4:=hb.size;replace FR:=zH (FR.out.fut hb);replace BN:=zH (BN.out.fut hb);replace BA:=zH (BA.out.fut hb);replace BR:=zH (BR.out.fut hb);clear hb hw_w1 hw_w2 hw_w3 c0;have c0:=BN.out.cell 0;simp only [gX] at c0;rw [KE.out] at c0))
   refine (S0.out _ ((Old.now HA.out).fut FR.out.out).all ((Old.now HW.out).fut FR.out.out).all ((Old.now HB.out).fut FR.out.out).all).mono ?_
   rintro e wm ⟨RA,rn,rc,rfl,rs,hb⟩
   have RS:=zH (show New w4 (tInt .i32) wm RA rn rc y.1.data from ⟨rs⟩)
   have lbr:=BR.out.lt
   have lfr:=FR.out.size
   replace BR:=zH (BR.out.fut hb)
   replace FR:=zH (FR.out.fut hb)
   clear hb rs c0
   go_wp2_with (refine sB 78 (.tmp 4) (.tmp 17) w2.heap.size (tN y.1.h y.1.v y.1.c RA rn rc) BR.out ?_;intro w9 B9 g9)
   refine rC B9 Tryz.underlying78 ?_
   exact ⟨RA,rn,rc,rfl,(RS.out.away g9 lbr).out.more (bin_more lfr (Nat.le_refl _)),(FR.out.away g9 (by omega)).out⟩
  ·rw [show decide (d.k=3∧d.s=1)=false from decide_eq_false kf] at FT
   clear kf S0
   obtain ⟨y,hy⟩:∃ y,convOf t d=y:=⟨_,rfl⟩
   rw [hy] at S1 ⊢
   clear hy
   go_enter Tryz.func89,Tryz.ntmps89
   go_wp2_with (first|(refine wpList_load_midw (by kernel_rfl) 44 (.tmp 2) rfl w.heap.size 0 rfl _ _ (range_blk (vs:=[.int .i64 d.kind,.int .i64 d.a,.int .i64 d.b,.int .i64 d.k,.int .i64 d.s,.int .i64 d.p,.int .i64 d.out,.int .i8 d.za,.int .i8 d.zb,.slice W nw cw,.slice B nb cb,.int .i32 d.qm,.int .i64 d.qs,.int .i8 d.qz,.int .i32 d.rm,.int .i64 d.rs,.int .i8 d.rz,.int .i8 d.lo,.int .i8 d.hi]) BN.out rfl) Tryz.underlying44 rfl (by kernel_rfl) ?_)|(refine lB 44 (.tmp 2) w.heap.size BN.out Tryz.underlying44 ?_)|(refine lB 27 (.tmp 3) w1.heap.size BA.out Tryz.underlying27 ?_)|(go_at_call 119;refine (FT.out _).mono ?_;rintro e w4 ⟨rfl,hb⟩;have l4:=hb.size;replace FR:=zH (FR.out.fut hb);replace BN:=zH (BN.out.fut hb);replace BA:=zH (BA.out.fut hb);replace BR:=zH (BR.out.fut hb);clear hb hw_w1 hw_w2 hw_w3 c0;have c0:=BN.out.cell 0;simp only [gX] at c0;rw [KE.out] at c0))
   refine (S1.out _ ((Old.now HA.out).fut FR.out.out).all ((Old.now HW.out).fut FR.out.out).all ((Old.now HB.out).fut FR.out.out).all).mono ?_
   rintro e wm ⟨RA,rn,rc,rfl,rs,hb⟩
   have RS:=zH (show New w4 (tInt .i32) wm RA rn rc y.1.data from ⟨rs⟩)
   have lbr:=BR.out.lt
   have lfr:=FR.out.size
   replace BR:=zH (BR.out.fut hb)
   replace FR:=zH (FR.out.fut hb)
   clear hb rs c0
   go_wp2_with (refine sB 78 (.tmp 4) (.tmp 26) w2.heap.size (tN y.1.h y.1.v y.1.c RA rn rc) BR.out ?_;intro w9 B9 g9)
   refine rC B9 Tryz.underlying78 ?_
   exact ⟨RA,rn,rc,rfl,(RS.out.away g9 lbr).out.more (bin_more lfr (Nat.le_refl _)),(FR.out.away g9 (by omega)).out⟩
 rw [if_neg k1] at SO
 have t1:(d.kind == 1)=false:=by simpa using k1
 by_cases k2:d.kind=2
 ·rw [if_pos k2] at SO
  rw [SO.out]
  have KE:=zH k2
  have c0':w3.cell? ⟨w.heap.size,0,none⟩=some (.int .i64 2):=by rw [← k2];exact c0
  replace c0:=c0'
  clear c0' k2 t1 k1 SO
  obtain ⟨y,hy⟩:∃ y,depthOf t d=y:=⟨_,rfl⟩
  rw [hy] at S2 ⊢
  clear hy
  go_enter Tryz.func89,Tryz.ntmps89
  go_wp2_with (first|(refine lB 44 (.tmp 2) w.heap.size BN.out Tryz.underlying44 ?_)|(refine lB 27 (.tmp 3) w1.heap.size BA.out Tryz.underlying27 ?_))
  refine (S2.out _ ((Old.now HA.out).fut FR.out.out).all ((Old.now HW.out).fut FR.out.out).all ((Old.now HB.out).fut FR.out.out).all).mono ?_
  rintro e wm ⟨RA,rn,rc,rfl,rs,hb⟩
  have RS:=zH (show New w3 (tInt .i32) wm RA rn rc y.1.data from ⟨rs⟩)
  have lbr:=BR.out.lt
  have lfr:=FR.out.size
  replace BR:=zH (BR.out.fut hb)
  replace FR:=zH (FR.out.fut hb)
  clear hb rs c0 hw_w1 hw_w2 hw_w3
  go_wp2_with (refine sB 78 (.tmp 4) (.tmp 35) w2.heap.size (tN y.1.h y.1.v y.1.c RA rn rc) BR.out ?_;intro w9 B9 g9)
  refine rC B9 Tryz.underlying78 ?_
  exact ⟨RA,rn,rc,rfl,(RS.out.away g9 lbr).out.more (bin_more lfr (Nat.le_refl _)),(FR.out.away g9 (by omega)).out⟩
 rw [if_neg k2] at SO
 have t2:(d.kind == 2)=false:=by simpa using k2
 by_cases k3:d.kind=3
 ·rw [if_pos k3] at SO
  rw [SO.out]
  have KE:=zH k3
  have c0':w3.cell? ⟨w.heap.size,0,none⟩=some (.int .i64 3):=by rw [← k3];exact c0
  replace c0:=c0'
  clear c0' k3 t1 t2 k1 k2 SO
  obtain ⟨y,hy⟩:∃ y,denseOf t d=y:=⟨_,rfl⟩
  rw [hy] at S3 ⊢
  clear hy
  go_enter Tryz.func89,Tryz.ntmps89
  go_wp2_with (first|(refine lB 44 (.tmp 2) w.heap.size BN.out Tryz.underlying44 ?_)|(refine lB 27 (.tmp 3) w1.heap.size BA.out Tryz.underlying27 ?_))
  refine (S3.out _ ((Old.now HA.out).fut FR.out.out).all ((Old.now HW.out).fut FR.out.out).all ((Old.now HB.out).fut FR.out.out).all).mono ?_
  rintro e wm ⟨RA,rn,rc,rfl,rs,hb⟩
  have RS:=zH (show New w3 (tInt .i32) wm RA rn rc y.1.data from ⟨rs⟩)
  have lbr:=BR.out.lt
  have lfr:=FR.out.size
  replace BR:=zH (BR.out.fut hb)
  replace FR:=zH (FR.out.fut hb)
  clear hb rs c0 hw_w1 hw_w2 hw_w3
  go_wp2_with (refine sB 78 (.tmp 4) (.tmp 44) w2.heap.size (tN y.1.h y.1.v y.1.c RA rn rc) BR.out ?_;intro w9 B9 g9)
  refine rC B9 Tryz.underlying78 ?_
  exact ⟨RA,rn,rc,rfl,(RS.out.away g9 lbr).out.more (bin_more lfr (Nat.le_refl _)),(FR.out.away g9 (by omega)).out⟩
 rw [if_neg k3] at SO
 have t3:(d.kind == 3)=false:=by simpa using k3
 rw [SO.out]
 clear k1 k2 k3
 go_enter Tryz.func89,Tryz.ntmps89
 go_wp2_with (refine sB 78 (.tmp 4) (.tmp 46) w2.heap.size (tN 0 0 0 none 0 0) BR.out ?_;intro w9 B9 g9)
 refine rC B9 Tryz.underlying78 ?_
 exact RetT.none (FR.out.away g9 (by omega)).out
set_option maxHeartbeats 16000000 in
theorem rkshape_any_1 (h v c h2 v2 c2:Int) (d:Node) (W:Option Addr) (nw cw:Nat) (B:Option Addr) (nb cb:Nat) (w:World) (i0:InK .i64 h) (i1:InK .i64 v) (i2:InK .i64 c) (hout:InK .i64 d.out) (hp:InK .i64 d.p) (hnw:nw=d.w.length) (hnb:nb=d.bias.length) (mw:nw≤1048576) (mb:nb≤1048576) (e:d.kind=1) :
  Calls Tryz.prog 32 #[.agg (nN d.kind d.a d.b d.k d.s d.p d.out d.za d.zb W nw cw B nb cb d.qm d.qs d.qz d.rm d.rs d.rz d.lo d.hi),.agg (sN h v c),.agg (sN h2 v2 c2)] w fun e w'=>e=retS (shapeV h v c h2 v2 c2 d)∧Below w.heap.size w w':=by
 obtain ⟨r,hr⟩:∃ r,shapeV h v c h2 v2 c2 d=r:=⟨_,rfl⟩
 rw [hr]
 unfold shapeV at hr
 have VV:=zH hr.symm
 clear hr
 have FR:=zH (Far.refl w)
 obtain ⟨w1,hw_w1,BN,k_w1⟩:=nB w (nN d.kind d.a d.b d.k d.s d.p d.out d.za d.zb W nw cw B nb cb d.qm d.qs d.qz d.rm d.rs d.rz d.lo d.hi) 44
 replace FR:=zH (FR.out.fut k_w1)
 clear k_w1
 obtain ⟨w2,hw_w2,BA,k_w2⟩:=nB w1 (sN h v c) 24
 replace FR:=zH (FR.out.fut k_w2)
 replace BN:=zH (BN.out.fut k_w2)
 clear k_w2
 obtain ⟨w3,hw_w3,BB,k_w3⟩:=nB w2 (sN h2 v2 c2) 24
 replace FR:=zH (FR.out.fut k_w3)
 replace BN:=zH (BN.out.fut k_w3)
 replace BA:=zH (BA.out.fut k_w3)
 clear k_w3
 obtain ⟨w4,hw_w4,BR,k_w4⟩:=nB w3 (sN 0 0 0) 24
 replace FR:=zH (FR.out.fut k_w4)
 replace BN:=zH (BN.out.fut k_w4)
 replace BA:=zH (BA.out.fut k_w4)
 replace BB:=zH (BB.out.fut k_w4)
 clear k_w4
 have l1:w.heap.size < w1.heap.size:=by rw [← hw_w1];simp
 have l2:w1.heap.size < w2.heap.size:=by rw [← hw_w2];simp
 have l3:w2.heap.size < w3.heap.size:=by rw [← hw_w3];simp
 have l4:w3.heap.size < w4.heap.size:=by rw [← hw_w4];simp
 have n0:=BN.out.cell 0
 ·skip
  have k1:(d.kind == 1)=true:=by simp [e]
  have k2:(d.kind == 2)=false:=by simp [e]
  have k3:(d.kind == 3)=false:=by simp [e]
  have k4:(d.kind == 4)=false:=by simp [e]
  have k5:(d.kind == 5)=false:=by simp [e]
  have k6:(d.kind == 6)=false:=by simp [e]
  have k8:(d.kind == 8)=false:=by simp [e]
  have k9:(d.kind == 9)=false:=by simp [e]
  have kl:decide (d.kind < 1)=false:=by simp [e]
  have kg:decide (9 < d.kind)=false:=by simp [e]
  have CN:=zH (fun w=>rconvShape_any h v c d W nw cw B nb cb w i0 i1 i2 hout hnw hnb mw mb)
  obtain ⟨⟨⟨x1,x2,x3⟩,xe⟩,hx⟩:∃ x,convV h v c d=x:=⟨_,rfl⟩
  have R:=zH (show r=((x1,x2,x3),xe) by rw [VV.out,← hx];simp [e])
  rw [hx] at CN
  simp only [retS] at CN
  clear VV hx e i0 i1 i2 hout hp hnw hnb mw mb
  go_enter Tryz.func32,Tryz.ntmps32
  go_wp2_with (first
   | (refine lB 24 (.tmp 4) w1.heap.size BA.out Tryz.underlying24 ?_)
   | (refine lB 44 (.tmp 3) w.heap.size BN.out Tryz.underlying44 ?_))
  clear hw_w1 hw_w2 hw_w3 hw_w4 n0
  refine (CN.out _).mono ?_
  rintro e w5 ⟨rfl,hb⟩
  replace FR:=zH (FR.out.fut hb)
  replace BN:=zH (BN.out.fut hb)
  replace BA:=zH (BA.out.fut hb)
  replace BB:=zH (BB.out.fut hb)
  replace BR:=zH (BR.out.fut hb)
  clear hb
  go_wp2_with (first
   | (refine sB 24 (.tmp 6) (.tmp 15) w3.heap.size (sN x1 x2 x3) BR.out ?_;intro w7 BR7 g7))
  refine rC BR7 Tryz.underlying24 ?_;exact ⟨by rw [R.out];rfl,(FR.out.away g7 (by omega)).out⟩
set_option maxHeartbeats 16000000 in
theorem rkshape_any_2 (h v c h2 v2 c2:Int) (d:Node) (W:Option Addr) (nw cw:Nat) (B:Option Addr) (nb cb:Nat) (w:World) (i0:InK .i64 h) (i1:InK .i64 v) (i2:InK .i64 c) (hout:InK .i64 d.out) (hp:InK .i64 d.p) (hnw:nw=d.w.length) (hnb:nb=d.bias.length) (mw:nw≤1048576) (mb:nb≤1048576) (e:d.kind=2) :
  Calls Tryz.prog 32 #[.agg (nN d.kind d.a d.b d.k d.s d.p d.out d.za d.zb W nw cw B nb cb d.qm d.qs d.qz d.rm d.rs d.rz d.lo d.hi),.agg (sN h v c),.agg (sN h2 v2 c2)] w fun e w'=>e=retS (shapeV h v c h2 v2 c2 d)∧Below w.heap.size w w':=by
 obtain ⟨r,hr⟩:∃ r,shapeV h v c h2 v2 c2 d=r:=⟨_,rfl⟩
 rw [hr]
 unfold shapeV at hr
 have VV:=zH hr.symm
 clear hr
 have FR:=zH (Far.refl w)
 obtain ⟨w1,hw_w1,BN,k_w1⟩:=nB w (nN d.kind d.a d.b d.k d.s d.p d.out d.za d.zb W nw cw B nb cb d.qm d.qs d.qz d.rm d.rs d.rz d.lo d.hi) 44
 replace FR:=zH (FR.out.fut k_w1)
 clear k_w1
 obtain ⟨w2,hw_w2,BA,k_w2⟩:=nB w1 (sN h v c) 24
 replace FR:=zH (FR.out.fut k_w2)
 replace BN:=zH (BN.out.fut k_w2)
 clear k_w2
 obtain ⟨w3,hw_w3,BB,k_w3⟩:=nB w2 (sN h2 v2 c2) 24
 replace FR:=zH (FR.out.fut k_w3)
 replace BN:=zH (BN.out.fut k_w3)
 replace BA:=zH (BA.out.fut k_w3)
 clear k_w3
 obtain ⟨w4,hw_w4,BR,k_w4⟩:=nB w3 (sN 0 0 0) 24
 replace FR:=zH (FR.out.fut k_w4)
 replace BN:=zH (BN.out.fut k_w4)
 replace BA:=zH (BA.out.fut k_w4)
 replace BB:=zH (BB.out.fut k_w4)
 clear k_w4
 have l1:w.heap.size < w1.heap.size:=by rw [← hw_w1];simp
 have l2:w1.heap.size < w2.heap.size:=by rw [← hw_w2];simp
 have l3:w2.heap.size < w3.heap.size:=by rw [← hw_w3];simp
 have l4:w3.heap.size < w4.heap.size:=by rw [← hw_w4];simp
 have n0:=BN.out.cell 0
 ·skip
  have k1:(d.kind == 1)=false:=by simp [e]
  have k2:(d.kind == 2)=true:=by simp [e]
  have k3:(d.kind == 3)=false:=by simp [e]
  have k4:(d.kind == 4)=false:=by simp [e]
  have k5:(d.kind == 5)=false:=by simp [e]
  have k6:(d.kind == 6)=false:=by simp [e]
  have k8:(d.kind == 8)=false:=by simp [e]
  have k9:(d.kind == 9)=false:=by simp [e]
  have kl:decide (d.kind < 1)=false:=by simp [e]
  have kg:decide (9 < d.kind)=false:=by simp [e]
  have CN:=zH (fun w=>rdepthShape_any h v c d W nw cw B nb cb w i0 i1 i2 hout hnw hnb mw mb)
  obtain ⟨⟨⟨x1,x2,x3⟩,xe⟩,hx⟩:∃ x,depthV h v c d=x:=⟨_,rfl⟩
  have R:=zH (show r=((x1,x2,x3),xe) by rw [VV.out,← hx];simp [e])
  rw [hx] at CN
  simp only [retS] at CN
  clear VV hx e i0 i1 i2 hout hp hnw hnb mw mb
  go_enter Tryz.func32,Tryz.ntmps32
  go_wp2_with (first
   | (refine lB 24 (.tmp 4) w1.heap.size BA.out Tryz.underlying24 ?_)
   | (refine lB 44 (.tmp 3) w.heap.size BN.out Tryz.underlying44 ?_))
  clear hw_w1 hw_w2 hw_w3 hw_w4 n0
  refine (CN.out _).mono ?_
  rintro e w5 ⟨rfl,hb⟩
  replace FR:=zH (FR.out.fut hb)
  replace BN:=zH (BN.out.fut hb)
  replace BA:=zH (BA.out.fut hb)
  replace BB:=zH (BB.out.fut hb)
  replace BR:=zH (BR.out.fut hb)
  clear hb
  go_wp2_with (first
   | (refine sB 24 (.tmp 6) (.tmp 23) w3.heap.size (sN x1 x2 x3) BR.out ?_;intro w7 BR7 g7))
  refine rC BR7 Tryz.underlying24 ?_;exact ⟨by rw [R.out];rfl,(FR.out.away g7 (by omega)).out⟩
set_option maxHeartbeats 16000000 in
theorem rkshape_any_3 (h v c h2 v2 c2:Int) (d:Node) (W:Option Addr) (nw cw:Nat) (B:Option Addr) (nb cb:Nat) (w:World) (i0:InK .i64 h) (i1:InK .i64 v) (i2:InK .i64 c) (hout:InK .i64 d.out) (hp:InK .i64 d.p) (hnw:nw=d.w.length) (hnb:nb=d.bias.length) (mw:nw≤1048576) (mb:nb≤1048576) (e:d.kind=3) :
  Calls Tryz.prog 32 #[.agg (nN d.kind d.a d.b d.k d.s d.p d.out d.za d.zb W nw cw B nb cb d.qm d.qs d.qz d.rm d.rs d.rz d.lo d.hi),.agg (sN h v c),.agg (sN h2 v2 c2)] w fun e w'=>e=retS (shapeV h v c h2 v2 c2 d)∧Below w.heap.size w w':=by
 obtain ⟨r,hr⟩:∃ r,shapeV h v c h2 v2 c2 d=r:=⟨_,rfl⟩
 rw [hr]
 unfold shapeV at hr
 have VV:=zH hr.symm
 clear hr
 have FR:=zH (Far.refl w)
 obtain ⟨w1,hw_w1,BN,k_w1⟩:=nB w (nN d.kind d.a d.b d.k d.s d.p d.out d.za d.zb W nw cw B nb cb d.qm d.qs d.qz d.rm d.rs d.rz d.lo d.hi) 44
 replace FR:=zH (FR.out.fut k_w1)
 clear k_w1
 obtain ⟨w2,hw_w2,BA,k_w2⟩:=nB w1 (sN h v c) 24
 replace FR:=zH (FR.out.fut k_w2)
 replace BN:=zH (BN.out.fut k_w2)
 clear k_w2
 obtain ⟨w3,hw_w3,BB,k_w3⟩:=nB w2 (sN h2 v2 c2) 24
 replace FR:=zH (FR.out.fut k_w3)
 replace BN:=zH (BN.out.fut k_w3)
 replace BA:=zH (BA.out.fut k_w3)
 clear k_w3
 obtain ⟨w4,hw_w4,BR,k_w4⟩:=nB w3 (sN 0 0 0) 24
 replace FR:=zH (FR.out.fut k_w4)
 replace BN:=zH (BN.out.fut k_w4)
 replace BA:=zH (BA.out.fut k_w4)
 replace BB:=zH (BB.out.fut k_w4)
 clear k_w4
 have l1:w.heap.size < w1.heap.size:=by rw [← hw_w1];simp
 have l2:w1.heap.size < w2.heap.size:=by rw [← hw_w2];simp
 have l3:w2.heap.size < w3.heap.size:=by rw [← hw_w3];simp
 have l4:w3.heap.size < w4.heap.size:=by rw [← hw_w4];simp
 have n0:=BN.out.cell 0
 ·skip
  have k1:(d.kind == 1)=false:=by simp [e]
  have k2:(d.kind == 2)=false:=by simp [e]
  have k3:(d.kind == 3)=true:=by simp [e]
  have k4:(d.kind == 4)=false:=by simp [e]
  have k5:(d.kind == 5)=false:=by simp [e]
  have k6:(d.kind == 6)=false:=by simp [e]
  have k8:(d.kind == 8)=false:=by simp [e]
  have k9:(d.kind == 9)=false:=by simp [e]
  have kl:decide (d.kind < 1)=false:=by simp [e]
  have kg:decide (9 < d.kind)=false:=by simp [e]
  have CN:=zH (fun w=>rdense25_any h v c d W nw cw B nb cb w i0 i1 i2 hout hnw hnb mw mb)
  obtain ⟨⟨⟨x1,x2,x3⟩,xe⟩,hx⟩:∃ x,denseV h v c d=x:=⟨_,rfl⟩
  have R:=zH (show r=((x1,x2,x3),xe) by rw [VV.out,← hx];simp [e])
  rw [hx] at CN
  simp only [retS] at CN
  clear VV hx e i0 i1 i2 hout hp hnw hnb mw mb
  go_enter Tryz.func32,Tryz.ntmps32
  go_wp2_with (first
   | (refine lB 24 (.tmp 4) w1.heap.size BA.out Tryz.underlying24 ?_)
   | (refine lB 44 (.tmp 3) w.heap.size BN.out Tryz.underlying44 ?_))
  clear hw_w1 hw_w2 hw_w3 hw_w4 n0
  refine (CN.out _).mono ?_
  rintro e w5 ⟨rfl,hb⟩
  replace FR:=zH (FR.out.fut hb)
  replace BN:=zH (BN.out.fut hb)
  replace BA:=zH (BA.out.fut hb)
  replace BB:=zH (BB.out.fut hb)
  replace BR:=zH (BR.out.fut hb)
  clear hb
  go_wp2_with (first
   | (refine sB 24 (.tmp 6) (.tmp 31) w3.heap.size (sN x1 x2 x3) BR.out ?_;intro w7 BR7 g7))
  refine rC BR7 Tryz.underlying24 ?_;exact ⟨by rw [R.out];rfl,(FR.out.away g7 (by omega)).out⟩
end Go.Proofs.YtjkmjpjknmghlaaGreat
