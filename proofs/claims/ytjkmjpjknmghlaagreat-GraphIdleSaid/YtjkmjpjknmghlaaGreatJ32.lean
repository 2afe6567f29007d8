/-
  Sums by kind (layer 26): run.Sum.
  What a node makes that sums (layer 26: run.summed).
  The elements of an []int.
-/
import Derived.Test.YtjkmjpjknmghlaaGreatJ31
import Derived.Test.YtjkmjpjknmghlaaGreatJ27
set_option linter.unusedVariables false
set_option linter.unusedSimpArgs false
namespace Go.Proofs.YtjkmjpjknmghlaaGreat
open Go.RowKit Go.ChangeShapes Go.WideShapes
set_option maxRecDepth 100000
set_option maxHeartbeats 4000000
theorem runSum_any (t:Tensor) (A:Option Addr) (n cap:Nat) (d:Node) (W:Option Addr) (nw cw:Nat) (B:Option Addr) (nb cb:Nat) (w:World) (ht:TensorIn t) (hd:NodeIn d)
  (ha:Sl (tInt .i8) w (blo w.heap.size) A n cap t.data) (hw:Sl (tInt .i8) w (blo w.heap.size) W nw cw d.w) (hb:Sl (tInt .i32) w (blo w.heap.size) B nb cb d.bias) (mw:nw≤2000∧nb≤200) :
  Calls Tryz.prog 89 #[.agg (nN d.kind d.a d.b d.k d.s d.p d.out d.za d.zb W nw cw B nb cb d.qm d.qs d.qz d.rm d.rs d.rz d.lo d.hi),.agg #[.int .i64 t.h,.int .i64 t.v,.int .i64 t.c,.slice A n cap]] w (RetT .i32 (sumOf t d).1 (sumOf t d).2 w):=by
 have HA:=zH ha
 have HW:=zH hw
 have HB:=zH hb
 have FT:=zH (fun w=>fits_any d W nw cw B nb cb w)
 have S0:=zH (fun (h3:d.k=3) (h1:d.s=1) w (ha:Sl (tInt .i8) w (blo w.heap.size) A n cap t.data) (hw:Sl (tInt .i8) w (blo w.heap.size) W nw cw d.w) (hb:Sl (tInt .i32) w (blo w.heap.size) B nb cb d.bias)=>laneOf_any t A n cap d W nw cw B nb cb w ht hd ha hw hb mw h3 h1)
 have S1:=zH (fun w (ha:Sl (tInt .i8) w (blo w.heap.size) A n cap t.data) (hw:Sl (tInt .i8) w (blo w.heap.size) W nw cw d.w) (hb:Sl (tInt .i32) w (blo w.heap.size) B nb cb d.bias)=>lowerOf_any t A n cap d W nw cw B nb cb w ht hd ha hw hb mw)
 have S2:=zH (fun w (ha:Sl (tInt .i8) w (blo w.heap.size) A n cap t.data) (hw:Sl (tInt .i8) w (blo w.heap.size) W nw cw d.w) (hb:Sl (tInt .i32) w (blo w.heap.size) B nb cb d.bias)=>depthOf_any t A n cap d W nw cw B nb cb w ht hd ha hw hb mw)
 have S3:=zH (fun w (ha:Sl (tInt .i8) w (blo w.heap.size) A n cap t.data) (hw:Sl (tInt .i8) w (blo w.heap.size) W nw cw d.w) (hb:Sl (tInt .i32) w (blo w.heap.size) B nb cb d.bias)=>denseOf_any t A n cap d W nw cw B nb cb w ht hd ha hw hb)
 have FR:=zH (Far.refl w)
 obtain ⟨w1,hw_w1,BN,k_w1⟩:=nB w (nN d.kind d.a d.b d.k d.s d.p d.out d.za d.zb W nw cw B nb cb d.qm d.qs d.qz d.rm d.rs d.rz d.lo d.hi) 44
 replace FR:=zH (FR.out.fut k_w1)
 clear k_w1
 obtain ⟨w2,hw_w2,BA,k_w2⟩:=nB w1 #[.int .i64 t.h,.int .i64 t.v,.int .i64 t.c,.slice A n cap] 27
 replace FR:=zH (FR.out.fut k_w2)
 replace BN:=zH (BN.out.fut k_w2)
 clear k_w2
 obtain ⟨w3,hw_w3,BR,k_w3⟩:=nB w2 #[.int .i64 0,.int .i64 0,.int .i64 0,.slice none 0 0] 78
 replace FR:=zH (FR.out.fut k_w3)
 replace BN:=zH (BN.out.fut k_w3)
 replace BA:=zH (BA.out.fut k_w3)
 clear k_w3
 have l1:w.heap.size < w1.heap.size:=by rw [← hw_w1];simp
 have l2:w1.heap.size < w2.heap.size:=by rw [← hw_w2];simp
 have l3:w2.heap.size < w3.heap.size:=by rw [← hw_w3];simp
 have c0:=BN.out.cell 0
 simp only [gX] at c0
 have SO:=zH (show sumOf t d=if d.kind=1 then convOf t d else if d.kind=2 then depthOf t d else if d.kind=3 then denseOf t d else (noTensor,6) from rfl)
 obtain ⟨x,hx⟩:∃ x,sumOf t d=x:=⟨_,rfl⟩
 rw [hx] at SO ⊢
 have HM:=zH mw
 clear ht hd ha hw hb hx mw
 by_cases k1:d.kind=1
 ·rw [if_pos k1] at SO
  rw [SO.out]
  have KE:=zH k1
  have c0':w3.cell? ⟨w.heap.size,0,none⟩=some (.int .i64 1):=by rw [← k1];exact c0
  replace c0:=c0'
  clear c0' k1  SO
  by_cases kf:d.k=3∧d.s=1
  ·have S0:=zH (S0.out kf.1 kf.2)
   rw [show decide (d.k=3∧d.s=1)=true from decide_eq_true kf] at FT
   clear kf
   obtain ⟨y,hy⟩:∃ y,convOf t d=y:=⟨_,rfl⟩
   rw [hy] at S0 ⊢
   clear hy
   go_enter Tryz.func89,Tryz.ntmps89
   go_wp2_with (first|(refine wpList_load_midw (by kernel_rfl) 44 (.tmp 2) rfl w.heap.size 0 rfl _ _ (range_blk (vs:=[.int .i64 d.kind,.int .i64 d.a,.int .i64 d.b,.int .i64 d.k,.int .i64 d.s,.int .i64 d.p,.int .i64 d.out,.int .i8 d.za,.int .i8 d.zb,.slice W nw cw,.slice B nb cb,.int .i32 d.qm,.int .i64 d.qs,.int .i8 d.qz,.int .i32 d.rm,.int .i64 d.rs,.int .i8 d.rz,.int .i8 d.lo,.int .i8 d.hi]) BN.out rfl) Tryz.underlying44 rfl (by kernel_rfl) ?_)|(refine lB 44 (.tmp 2) w.heap.size BN.out Tryz.underlying44 ?_)|(refine lB 27 (.tmp 3) w1.heap.size BA.out Tryz.underlying27 ?_)|(go_at_call 119;refine (FT.out _).mono ?_;rintro e w4 ⟨rfl,hb⟩;have l4:=hb.size;replace FR:=zH (FR.out.fut hb);replace BN:=zH (BN.out.fut hb);replace BA:=zH (BA.out.fut hb);replace BR:=zH (BR.out.fut hb);clear hb hw_w1 hw_w2 hw_w3 c0;have c0:=BN.out.cell 0;simp only [gX] at c0;rw [KE.out] at c0))
   refine (S0.out _ ((Old.now HA.out).fut FR.out.out).all ((Old.now HW.out).fut FR.out.out).all ((Old.now HB.out).fut FR.out.out).all).mono ?_
   rintro e wm ⟨RA,rn,rc,rfl,rs,hb⟩
   have RS:=zH (show New w4 (tInt .i32) wm RA rn rc y.1.data from ⟨rs⟩)
   have lbr:=BR.out.lt
   have lfr:=FR.out.size
   replace BR:=zH (BR.out.fut hb)
   replace FR:=zH (FR.out.fut hb)
   clear hb rs c0
   go_wp2_with (refine sB 78 (.tmp 4) (.tmp 17) w2.heap.size #[.int .i64 y.1.h,.int .i64 y.1.v,.int .i64 y.1.c,.slice RA rn rc] BR.out ?_;intro w9 B9 g9)
   refine ret_cell_tmp rfl B9 rfl Tryz.underlying78 (by kernel_rfl) rfl ?_
   exact ⟨RA,rn,rc,rfl,(RS.out.away g9 lbr).out.more (bin_more lfr (Nat.le_refl _)),(FR.out.away g9 (by omega)).out⟩
  ·rw [show decide (d.k=3∧d.s=1)=false from decide_eq_false kf] at FT
   clear kf S0
   obtain ⟨y,hy⟩:∃ y,convOf t d=y:=⟨_,rfl⟩
   rw [hy] at S1 ⊢
   clear hy
   go_enter Tryz.func89,Tryz.ntmps89
   go_wp2_with (first|(refine wpList_load_midw (by kernel_rfl) 44 (.tmp 2) rfl w.heap.size 0 rfl _ _ (range_blk (vs:=[.int .i64 d.kind,.int .i64 d.a,.int .i64 d.b,.int .i64 d.k,.int .i64 d.s,.int .i64 d.p,.int .i64 d.out,.int .i8 d.za,.int .i8 d.zb,.slice W nw cw,.slice B nb cb,.int .i32 d.qm,.int .i64 d.qs,.int .i8 d.qz,.int .i32 d.rm,.int .i64 d.rs,.int .i8 d.rz,.int .i8 d.lo,.int .i8 d.hi]) BN.out rfl) Tryz.underlying44 rfl (by kernel_rfl) ?_)|(refine lB 44 (.tmp 2) w.heap.size BN.out Tryz.underlying44 ?_)|(refine lB 27 (.tmp 3) w1.heap.size BA.out Tryz.underlying27 ?_)|(go_at_call 119;refine (FT.out _).mono ?_;rintro e w4 ⟨rfl,hb⟩;have l4:=hb.size;replace FR:=zH (FR.out.fut hb);replace BN:=zH (BN.out.fut hb);replace BA:=zH (BA.out.fut hb);replace BR:=zH (BR.out.fut hb);clear hb hw_w1 hw_w2 hw_w3 c0;have c0:=BN.out.cell 0;simp only [gX] at c0;rw [KE.out] at c0))
   refine (S1.out _ ((Old.now HA.out).fut FR.out.out).all ((Old.now HW.out).fut FR.out.out).all ((Old.now HB.out).fut FR.out.out).all).mono ?_
   rintro e wm ⟨RA,rn,rc,rfl,rs,hb⟩
   have RS:=zH (show New w4 (tInt .i32) wm RA rn rc y.1.data from ⟨rs⟩)
   have lbr:=BR.out.lt
   have lfr:=FR.out.size
   replace BR:=zH (BR.out.fut hb)
   replace FR:=zH (FR.out.fut hb)
   clear hb rs c0
   go_wp2_with (refine sB 78 (.tmp 4) (.tmp 26) w2.heap.size #[.int .i64 y.1.h,.int .i64 y.1.v,.int .i64 y.1.c,.slice RA rn rc] BR.out ?_;intro w9 B9 g9)
   refine ret_cell_tmp rfl B9 rfl Tryz.underlying78 (by kernel_rfl) rfl ?_
   exact ⟨RA,rn,rc,rfl,(RS.out.away g9 lbr).out.more (bin_more lfr (Nat.le_refl _)),(FR.out.away g9 (by omega)).out⟩
 rw [if_neg k1] at SO
 have t1:(d.kind == 1)=false:=by simpa using k1
 by_cases k2:d.kind=2
 ·rw [if_pos k2] at SO
  rw [SO.out]
  have KE:=zH k2
  have c0':w3.cell? ⟨w.heap.size,0,none⟩=some (.int .i64 2):=by rw [← k2];exact c0
  replace c0:=c0'
  clear c0' k2 t1 k1 SO
  obtain ⟨y,hy⟩:∃ y,depthOf t d=y:=⟨_,rfl⟩
  rw [hy] at S2 ⊢
  clear hy
  go_enter Tryz.func89,Tryz.ntmps89
  go_wp2_with (first|(refine lB 44 (.tmp 2) w.heap.size BN.out Tryz.underlying44 ?_)|(refine lB 27 (.tmp 3) w1.heap.size BA.out Tryz.underlying27 ?_))
  refine (S2.out _ ((Old.now HA.out).fut FR.out.out).all ((Old.now HW.out).fut FR.out.out).all ((Old.now HB.out).fut FR.out.out).all).mono ?_
  rintro e wm ⟨RA,rn,rc,rfl,rs,hb⟩
  have RS:=zH (show New w3 (tInt .i32) wm RA rn rc y.1.data from ⟨rs⟩)
  have lbr:=BR.out.lt
  have lfr:=FR.out.size
  replace BR:=zH (BR.out.fut hb)
  replace FR:=zH (FR.out.fut hb)
  clear hb rs c0 hw_w1 hw_w2 hw_w3
  go_wp2_with (refine sB 78 (.tmp 4) (.tmp 35) w2.heap.size #[.int .i64 y.1.h,.int .i64 y.1.v,.int .i64 y.1.c,.slice RA rn rc] BR.out ?_;intro w9 B9 g9)
  refine ret_cell_tmp rfl B9 rfl Tryz.underlying78 (by kernel_rfl) rfl ?_
  exact ⟨RA,rn,rc,rfl,(RS.out.away g9 lbr).out.more (bin_more lfr (Nat.le_refl _)),(FR.out.away g9 (by omega)).out⟩
 rw [if_neg k2] at SO
 have t2:(d.kind == 2)=false:=by simpa using k2
 by_cases k3:d.kind=3
 ·rw [if_pos k3] at SO
  rw [SO.out]
  have KE:=zH k3
  have c0':w3.cell? ⟨w.heap.size,0,none⟩=some (.int .i64 3):=by rw [← k3];exact c0
  replace c0:=c0'
  clear c0' k3 t1 t2 k1 k2 SO
  obtain ⟨y,hy⟩:∃ y,denseOf t d=y:=⟨_,rfl⟩
  rw [hy] at S3 ⊢
  clear hy
  go_enter Tryz.func89,Tryz.ntmps89
  go_wp2_with (first|(refine lB 44 (.tmp 2) w.heap.size BN.out Tryz.underlying44 ?_)|(refine lB 27 (.tmp 3) w1.heap.size BA.out Tryz.underlying27 ?_))
  refine (S3.out _ ((Old.now HA.out).fut FR.out.out).all ((Old.now HW.out).fut FR.out.out).all ((Old.now HB.out).fut FR.out.out).all).mono ?_
  rintro e wm ⟨RA,rn,rc,rfl,rs,hb⟩
  have RS:=zH (show New w3 (tInt .i32) wm RA rn rc y.1.data from ⟨rs⟩)
  have lbr:=BR.out.lt
  have lfr:=FR.out.size
  replace BR:=zH (BR.out.fut hb)
  replace FR:=zH (FR.out.fut hb)
  clear hb rs c0 hw_w1 hw_w2 hw_w3
  go_wp2_with (refine sB 78 (.tmp 4) (.tmp 44) w2.heap.size #[.int .i64 y.1.h,.int .i64 y.1.v,.int .i64 y.1.c,.slice RA rn rc] BR.out ?_;intro w9 B9 g9)
  refine ret_cell_tmp rfl B9 rfl Tryz.underlying78 (by kernel_rfl) rfl ?_
  exact ⟨RA,rn,rc,rfl,(RS.out.away g9 lbr).out.more (bin_more lfr (Nat.le_refl _)),(FR.out.away g9 (by omega)).out⟩
 rw [if_neg k3] at SO
 have t3:(d.kind == 3)=false:=by simpa using k3
 rw [SO.out]
 clear k1 k2 k3
 go_enter Tryz.func89,Tryz.ntmps89
 go_wp2_with (refine sB 78 (.tmp 4) (.tmp 46) w2.heap.size #[.int .i64 0,.int .i64 0,.int .i64 0,.slice none 0 0] BR.out ?_;intro w9 B9 g9)
 refine ret_cell_tmp rfl B9 rfl Tryz.underlying78 (by kernel_rfl) rfl ?_
 exact RetT.none (FR.out.away g9 (by omega)).out
theorem sum_nat (t:Tensor) (d:Node) (h:(sumOf t d).2=0):elems (sumOf t d).1.h (sumOf t d).1.v (sumOf t d).1.c=((sumOf t d).1.data.length:Int)∧0 < (sumOf t d).1.data.length∧(sumOf t d).1.data.length≤1024∧TensorIn (sumOf t d).1:=by
 unfold sumOf at h ⊢
 by_cases k1:d.kind=1
 ·rw [if_pos k1] at h ⊢
  unfold convOf at h
  by_cases c1:t.ok=true
  ·rw [if_pos c1] at h
   by_cases c2:(convV t.h t.v t.c d).2=0
   ·obtain ⟨H,V,C,K,S,P,Ho,Wo,Co,TK,WK,hx,lw,lb,ho,el,ev⟩:=conv_nat c1 c2
    rw [ev]
    have p1:=WK.ho1
    have p2:=WK.wo1
    have p3:=WK.co1
    have p4:=WK.no
    have p5:0 < Ho*Wo*Co:=Nat.mul_pos (Nat.mul_pos (by omega) (by omega)) (by omega)
    simp only [List.length_map,List.length_range]
    exact ⟨el,p5,p4,⟨show InK .i64 (Ho:Int) by rw [inK_i64];omega,show InK .i64 (Wo:Int) by rw [inK_i64];omega,show InK .i64 (Co:Int) by rw [inK_i64];omega⟩⟩
   ·rw [if_neg c2] at h;exact absurd h c2
  ·rw [if_neg c1] at h;cases h
 rw [if_neg k1] at h ⊢
 by_cases k2:d.kind=2
 ·rw [if_pos k2] at h ⊢
  unfold depthOf at h
  by_cases c1:t.ok=true
  ·rw [if_pos c1] at h
   by_cases c2:(depthV t.h t.v t.c d).2=0
   ·obtain ⟨H,V,C,K,S,P,Ho,Wo,TK,WK,hx,lw,lb,el,ev⟩:=depth_nat c1 c2
    rw [ev]
    have p1:=WK.ho1
    have p2:=WK.wo1
    have p3:=WK.co1
    have p4:=WK.no
    have p5:0 < Ho*Wo*C:=Nat.mul_pos (Nat.mul_pos (by omega) (by omega)) (by omega)
    simp only [List.length_map,List.length_range]
    exact ⟨el,p5,p4,⟨show InK .i64 (Ho:Int) by rw [inK_i64];omega,show InK .i64 (Wo:Int) by rw [inK_i64];omega,show InK .i64 (C:Int) by rw [inK_i64];omega⟩⟩
   ·rw [if_neg c2] at h;exact absurd h c2
  ·rw [if_neg c1] at h;cases h
 rw [if_neg k2] at h ⊢
 by_cases k3:d.kind=3
 ·rw [if_pos k3] at h ⊢
  unfold denseOf at h ⊢
  by_cases c1:t.ok=true
  ·rw [if_pos c1] at h ⊢
   by_cases c2:denseCode t.h t.v t.c d=0
   ·rw [if_pos c2]
    have c3:=c2
    unfold denseCode at c3
    split at c3
    ·cases c3
    ·rename_i q
     split at c3
     ·cases c3
     ·rename_i r
      have e1:¬ elems 1 1 d.out=0:=fun e=>q (.inr e)
      have e2:(d.bias.length:Int)=d.out:=Decidable.byContradiction fun e=>r (.inr (.inr e))
      obtain ⟨a1,a2,a3,b1,b2,b3,b4,b5,b6,b7,b8⟩:=elems_nat e1
      have c4:=c1
      simp only [Tensor.ok,decide_eq_true_eq] at c4
      have e6:(d.w.length:Int)=d.out*elems t.h t.v t.c:=Decidable.byContradiction fun e=>r (.inl e)
      have e7:d.w.length=t.data.length*d.bias.length:=by
       rw [c4.2,← e2,← Int.natCast_mul,Nat.mul_comm] at e6
       omega
      have hl:(denseLine t.data d.w d.bias d.za).length=d.bias.length:=by
       unfold denseLine
       rw [if_neg (by rintro (h|h|h) <;> first|omega|exact h e7)]
       simp
      have e3:a1=1:=by omega
      have e4:a2=1:=by omega
      subst e3 e4
      simp only [Nat.one_mul] at b7 b8
      refine ⟨?_,?_,?_,⟨show InK .i64 (1:Int) by rw [inK_i64];omega,show InK .i64 (1:Int) by rw [inK_i64];omega,?_⟩⟩
      ·show elems 1 1 d.out=_
       rw [b7,hl];omega
      ·show 0 < (denseLine t.data d.w d.bias d.za).length
       rw [hl];omega
      ·show (denseLine t.data d.w d.bias d.za).length≤1024
       rw [hl];omega
      ·show InK .i64 d.out
       rw [inK_i64];omega
   ·rw [if_neg c2] at h;exact absurd h c2
  ·rw [if_neg c1] at h;cases h
 rw [if_neg k3] at h
 cases h
def sumQ (t:Tensor) (d:Node):Tensor × Int:=if (sumOf t d).2=0 then putQ (sumOf t d).1 d else (noTensor,(sumOf t d).2)
theorem summed_any (t:Tensor) (A:Option Addr) (n cap:Nat) (d:Node) (W:Option Addr) (nw cw:Nat) (B:Option Addr) (nb cb:Nat) (w:World) (ht:TensorIn t) (hd:NodeIn d)
  (ha:Sl (tInt .i8) w (blo w.heap.size) A n cap t.data) (hw:Sl (tInt .i8) w (blo w.heap.size) W nw cw d.w) (hb:Sl (tInt .i32) w (blo w.heap.size) B nb cb d.bias) (mw:nw≤2000∧nb≤200) :
  Calls Tryz.prog 49 #[.agg (nN d.kind d.a d.b d.k d.s d.p d.out d.za d.zb W nw cw B nb cb d.qm d.qs d.qz d.rm d.rs d.rz d.lo d.hi),.agg #[.int .i64 t.h,.int .i64 t.v,.int .i64 t.c,.slice A n cap]] w (RetT .i8 (sumQ t d).1 (sumQ t d).2 w):=by
 have HA:=zH ha
 have HW:=zH hw
 have HB:=zH hb
 have SM:=zH (fun w (ha:Sl (tInt .i8) w (blo w.heap.size) A n cap t.data) (hw:Sl (tInt .i8) w (blo w.heap.size) W nw cw d.w) (hb:Sl (tInt .i32) w (blo w.heap.size) B nb cb d.bias)=>runSum_any t A n cap d W nw cw B nb cb w ht hd ha hw hb mw)
 have SN:=zH (sum_nat t d)
 unfold sumQ
 obtain ⟨⟨y,k⟩,hy⟩:∃ q,sumOf t d=q:=⟨_,rfl⟩
 rw [hy] at SM SN ⊢
 obtain ⟨x,hx⟩:∃ x,(if k=0 then putQ y d else (noTensor,k))=x:=⟨_,rfl⟩
 rw [show (if (y,k).2=0 then putQ (y,k).1 d else (noTensor,(y,k).2))=x from hx]
 have HX:=zH hx
 have HD:=zH hd
 have FR:=zH (Far.refl w)
 obtain ⟨w1,hw_w1,BN,k_w1⟩:=nB w (nN d.kind d.a d.b d.k d.s d.p d.out d.za d.zb W nw cw B nb cb d.qm d.qs d.qz d.rm d.rs d.rz d.lo d.hi) 44
 replace FR:=zH (FR.out.fut k_w1)
 clear k_w1
 obtain ⟨w2,hw_w2,BA,k_w2⟩:=nB w1 #[.int .i64 t.h,.int .i64 t.v,.int .i64 t.c,.slice A n cap] 27
 replace FR:=zH (FR.out.fut k_w2)
 replace BN:=zH (BN.out.fut k_w2)
 clear k_w2
 obtain ⟨w3,hw_w3,BR,k_w3⟩:=nB w2 #[.int .i64 0,.int .i64 0,.int .i64 0,.slice none 0 0] 27
 replace FR:=zH (FR.out.fut k_w3)
 replace BN:=zH (BN.out.fut k_w3)
 replace BA:=zH (BA.out.fut k_w3)
 clear k_w3
 have l1:w.heap.size < w1.heap.size:=by rw [← hw_w1];simp
 have l2:w1.heap.size < w2.heap.size:=by rw [← hw_w2];simp
 have l3:w2.heap.size < w3.heap.size:=by rw [← hw_w3];simp
 clear ht hd ha hw hb hy mw hx
 go_enter Tryz.func49,Tryz.ntmps49
 go_wp2_with (first|(refine lB 44 (.tmp 2) w.heap.size BN.out Tryz.underlying44 ?_)|(refine lB 27 (.tmp 3) w1.heap.size BA.out Tryz.underlying27 ?_))
 refine (SM.out _ ((Old.now HA.out).fut FR.out.out).all ((Old.now HW.out).fut FR.out.out).all ((Old.now HB.out).fut FR.out.out).all).mono ?_
 rintro e w4 ⟨RA,rn,rc,rfl,rs,hb⟩
 have RS:=zH (show New w3 (tInt .i32) w4 RA rn rc y.data from ⟨rs⟩)
 have ern:=rs.n_eq
 have l4:=hb.size
 clear rs hw_w1 hw_w2 hw_w3
 replace FR:=zH (FR.out.fut hb)
 replace BN:=zH (BN.out.fut hb)
 replace BA:=zH (BA.out.fut hb)
 replace BR:=zH (BR.out.fut hb)
 clear hb
 obtain ⟨w5,hw_w5,BX,k_w5⟩:=nB w4 #[.int .i64 y.h,.int .i64 y.v,.int .i64 y.c,.slice RA rn rc] 78
 replace FR:=zH (FR.out.fut k_w5)
 replace BN:=zH (BN.out.fut k_w5)
 replace BA:=zH (BA.out.fut k_w5)
 replace BR:=zH (BR.out.fut k_w5)
 replace RS:=zH (RS.out.fut k_w5)
 clear k_w5
 have l5:w4.heap.size < w5.heap.size:=by rw [← hw_w5];simp
 by_cases k0:k=0
 ·subst k0
  have hx:=HX.out
  rw [if_pos rfl] at hx
  obtain ⟨e1,e2,e3,e4⟩:=SN.out rfl
  simp only [ern] at e1 e2 e3
  have AP:=zH (fun w ha=>actPut_any y RA rn rc d W nw cw B nb cb w e4 HD.out ha e1 e2 e3)
  rw [hx] at AP
  clear e1 e2 e3 e4 hx SN ern
  go_wp2_with (first|(refine lB 78 (.tmp 6) w4.heap.size BX.out Tryz.underlying78 ?_)|(refine lB 44 (.tmp 2) w.heap.size BN.out Tryz.underlying44 ?_))
  refine (AP.out _ RS.out.old).mono ?_
  rintro e wm ⟨RA,rn,rc,rfl,rs,hb⟩
  have RS:=zH (show New w5 (tInt .i8) wm RA rn rc x.1.data from ⟨rs⟩)
  have lbr:=BR.out.lt
  have lfr:=FR.out.size
  replace BR:=zH (BR.out.fut hb)
  replace FR:=zH (FR.out.fut hb)
  clear hb rs hw_w5
  go_wp2_with (refine sB 27 (.tmp 4) (.tmp 21) w2.heap.size #[.int .i64 x.1.h,.int .i64 x.1.v,.int .i64 x.1.c,.slice RA rn rc] BR.out ?_;intro w9 B9 g9)
  refine ret_cell_tmp rfl B9 rfl Tryz.underlying27 (by kernel_rfl) rfl ?_
  exact ⟨RA,rn,rc,rfl,(RS.out.away g9 lbr).out.more (bin_more lfr (Nat.le_refl _)),(FR.out.away g9 (by omega)).out⟩
 ·have hx:=HX.out
  rw [if_neg k0] at hx
  subst hx
  have hk2:(k != 0)=true:=by rw [bne_iff_ne];exact k0
  clear k0 SN ern
  go_wp2_with (refine sB 27 (.tmp 4) (.tmp 16) w2.heap.size #[.int .i64 0,.int .i64 0,.int .i64 0,.slice none 0 0] BR.out ?_;intro w9 B9 g9)
  refine ret_cell_tmp rfl B9 rfl Tryz.underlying27 (by kernel_rfl) rfl ?_
  exact RetT.none (FR.out.away g9 (by omega)).out
theorem ei_int:EI Tryz.prog 46 3 (.int .i64 0) 1 8:=⟨Tryz.underlying46,by kernel_rfl,rfl,by decide⟩
end Go.Proofs.YtjkmjpjknmghlaaGreat
