/-
  What a node makes that sums (layer 26: run.summed).
  The shape of the next value (layer 27): next.
  The shapes of all values of nodes (layer 27), in numbers: node by node.
  The shapes of all values (layer 27): graph.Shapes.
-/
import Derived.Test.YtjkmjpjknmghlaaGreatJ44
import Derived.Test.YtjkmjpjknmghlaaGreatJ43
import Derived.Test.YtjkmjpjknmghlaaGreatJ45
set_option linter.unusedVariables false
set_option linter.unusedSimpArgs false
namespace Go.Proofs.YtjkmjpjknmghlaaGreat
open Go.RowKit Go.ChangeShapes Go.WideShapes
set_option maxRecDepth 100000
set_option maxHeartbeats 4000000
theorem sum_nat (t:Tensor) (d:Node) (h:(sumOf t d).2=0):elems (sumOf t d).1.h (sumOf t d).1.v (sumOf t d).1.c=((sumOf t d).1.data.length:Int)∧0 < (sumOf t d).1.data.length∧(sumOf t d).1.data.length≤1024∧TensorIn (sumOf t d).1:=by
 unfold sumOf at h ⊢
 by_cases k1:d.kind=1
 ·rw [if_pos k1] at h ⊢
  unfold convOf at h
  by_cases c1:t.ok=true
  ·rw [if_pos c1] at h
   by_cases c2:(convV t.h t.v t.c d).2=0
   ·obtain ⟨H,V,C,K,S,P,Ho,Wo,Co,TK,WK,hx,lw,lb,ho,el,ev⟩:=conv_nat c1 c2
    rw [ev]
    have p1:=WK.ho1
    have p2:=WK.wo1
    have p3:=WK.co1
    have p4:=WK.no
    have p5:0 < Ho*Wo*Co:=Nat.mul_pos (Nat.mul_pos (by omega) (by omega)) (by omega)
    simp only [List.length_map,List.length_range]
    exact ⟨el,p5,p4,⟨show InK .i64 (Ho:Int) by rw [inK_i64];omega,show InK .i64 (Wo:Int) by rw [inK_i64];omega,show InK .i64 (Co:Int) by rw [inK_i64];omega⟩⟩
   ·rw [if_neg c2] at h;exact absurd h c2
  ·rw [if_neg c1] at h;cases h
 rw [if_neg k1] at h ⊢
 by_cases k2:d.kind=2
 ·rw [if_pos k2] at h ⊢
  unfold depthOf at h
  by_cases c1:t.ok=true
  ·rw [if_pos c1] at h
   by_cases c2:(depthV t.h t.v t.c d).2=0
   ·obtain ⟨H,V,C,K,S,P,Ho,Wo,TK,WK,hx,lw,lb,el,ev⟩:=depth_nat c1 c2
    rw [ev]
    have p1:=WK.ho1
    have p2:=WK.wo1
    have p3:=WK.co1
    have p4:=WK.no
    have p5:0 < Ho*Wo*C:=Nat.mul_pos (Nat.mul_pos (by omega) (by omega)) (by omega)
    simp only [List.length_map,List.length_range]
    exact ⟨el,p5,p4,⟨show InK .i64 (Ho:Int) by rw [inK_i64];omega,show InK .i64 (Wo:Int) by rw [inK_i64];omega,show InK .i64 (C:Int) by rw [inK_i64];omega⟩⟩
   ·rw [if_neg c2] at h;exact absurd h c2
  ·rw [if_neg c1] at h;cases h
 rw [if_neg k2] at h ⊢
 by_cases k3:d.kind=3
 ·rw [if_pos k3] at h ⊢
  unfold denseOf at h ⊢
  by_cases c1:t.ok=true
  ·rw [if_pos c1] at h ⊢
   by_cases c2:denseCode t.h t.v t.c d=0
   ·rw [if_pos c2]
    have c3:=c2
    unfold denseCode at c3
    split at c3
    ·cases c3
    ·rename_i q
     split at c3
     ·cases c3
     ·rename_i r
      have e1:¬ elems 1 1 d.out=0:=fun e=>q (.inr e)
      have e2:(d.bias.length:Int)=d.out:=Decidable.byContradiction fun e=>r (.inr (.inr e))
      obtain ⟨a1,a2,a3,b1,b2,b3,b4,b5,b6,b7,b8⟩:=elems_nat e1
      have c4:=c1
      simp only [Tensor.ok,decide_eq_true_eq] at c4
      have e6:(d.w.length:Int)=d.out*elems t.h t.v t.c:=Decidable.byContradiction fun e=>r (.inl e)
      have e7:d.w.length=t.data.length*d.bias.length:=by
       rw [c4.2,← e2,← Int.natCast_mul,Nat.mul_comm] at e6
       omega
      have hl:(denseLine t.data d.w d.bias d.za).length=d.bias.length:=by
       unfold denseLine
       rw [if_neg (by rintro (h|h|h) <;> first|omega|exact h e7)]
       simp
      have e3:a1=1:=by omega
      have e4:a2=1:=by omega
      subst e3 e4
      simp only [Nat.one_mul] at b7 b8
      refine ⟨?_,?_,?_,⟨show InK .i64 (1:Int) by rw [inK_i64];omega,show InK .i64 (1:Int) by rw [inK_i64];omega,?_⟩⟩
      ·show elems 1 1 d.out=_
       rw [b7,hl];omega
      ·show 0 < (denseLine t.data d.w d.bias d.za).length
       rw [hl];omega
      ·show (denseLine t.data d.w d.bias d.za).length≤1024
       rw [hl];omega
      ·show InK .i64 d.out
       rw [inK_i64];omega
   ·rw [if_neg c2] at h;exact absurd h c2
  ·rw [if_neg c1] at h;cases h
 rw [if_neg k3] at h
 cases h
def sumQ (t:Tensor) (d:Node):Tensor × Int:=if (sumOf t d).2=0 then putQ (sumOf t d).1 d else (noTensor,(sumOf t d).2)
theorem summed_any (t:Tensor) (A:Option Addr) (n cap:Nat) (d:Node) (W:Option Addr) (nw cw:Nat) (B:Option Addr) (nb cb:Nat) (w:World) (ht:TensorIn t) (hd:NodeIn d)
  (ha:Sl (tInt .i8) w (blo w.heap.size) A n cap t.data) (hw:Sl (tInt .i8) w (blo w.heap.size) W nw cw d.w) (hb:Sl (tInt .i32) w (blo w.heap.size) B nb cb d.bias) (mw:nw≤2000∧nb≤200) :
  Calls Tryz.prog 49 #[.agg (nN d.kind d.a d.b d.k d.s d.p d.out d.za d.zb W nw cw B nb cb d.qm d.qs d.qz d.rm d.rs d.rz d.lo d.hi),.agg (tN t.h t.v t.c A n cap)] w (RetT .i8 (sumQ t d).1 (sumQ t d).2 w):=by
 have HA:=zH ha
 have HW:=zH hw
 have HB:=zH hb
 have SM:=zH (fun w (ha:Sl (tInt .i8) w (blo w.heap.size) A n cap t.data) (hw:Sl (tInt .i8) w (blo w.heap.size) W nw cw d.w) (hb:Sl (tInt .i32) w (blo w.heap.size) B nb cb d.bias)=>runSum_any t A n cap d W nw cw B nb cb w ht hd ha hw hb mw)
 have SN:=zH (sum_nat t d)
 unfold sumQ
 obtain ⟨⟨y,k⟩,hy⟩:∃ q,sumOf t d=q:=⟨_,rfl⟩
 rw [hy] at SM SN ⊢
 obtain ⟨x,hx⟩:∃ x,(if k=0 then putQ y d else (noTensor,k))=x:=⟨_,rfl⟩
 rw [show (if (y,k).2=0 then putQ (y,k).1 d else (noTensor,(y,k).2))=x from hx]
 have HX:=zH hx
 have HD:=zH hd
 have FR:=zH (Far.refl w)
 obtain ⟨w1,hw_w1,BN,k_w1⟩:=nB w (nN d.kind d.a d.b d.k d.s d.p d.out d.za d.zb W nw cw B nb cb d.qm d.qs d.qz d.rm d.rs d.rz d.lo d.hi) 44
 replace FR:=zH (FR.out.fut k_w1)
 clear k_w1
 obtain ⟨w2,hw_w2,BA,k_w2⟩:=nB w1 (tN t.h t.v t.c A n cap) 27
 replace FR:=zH (FR.out.fut k_w2)
 replace BN:=zH (BN.out.fut k_w2)
 clear k_w2
 obtain ⟨w3,hw_w3,BR,k_w3⟩:=nB w2 (tN 0 0 0 none 0 0) 27
 replace FR:=zH (FR.out.fut k_w3)
 replace BN:=zH (BN.out.fut k_w3)
 replace BA:=zH (BA.out.fut k_w3)
 clear k_w3
 have l1:w.heap.size < w1.heap.size:=by rw [← hw_w1];simp
 have l2:w1.heap.size < w2.heap.size:=by rw [← hw_w2];simp
 have l3:w2.heap.size < w3.heap.size:=by rw [← hw_w3];simp
 clear ht hd ha hw hb hy mw hx
 go_enter Tryz.func49,Tryz.ntmps49
 go_wp2_with (first|(refine lB 44 (.tmp 2) w.heap.size BN.out Tryz.underlying44 ?_)|(refine lB 27 (.tmp 3) w1.heap.size BA.out Tryz.underlying27 ?_))
 refine (SM.out _ ((Old.now HA.out).fut FR.out.out).all ((Old.now HW.out).fut FR.out.out).all ((Old.now HB.out).fut FR.out.out).all).mono ?_
 rintro e w4 ⟨RA,rn,rc,rfl,rs,hb⟩
 have RS:=zH (show New w3 (tInt .i32) w4 RA rn rc y.data from ⟨rs⟩)
 have ern:=rs.n_eq
 have l4:=hb.size
 clear rs hw_w1 hw_w2 hw_w3
 replace FR:=zH (FR.out.fut hb)
 replace BN:=zH (BN.out.fut hb)
 replace BA:=zH (BA.out.fut hb)
 replace BR:=zH (BR.out.fut hb)
 clear hb
 obtain ⟨w5,hw_w5,BX,k_w5⟩:=nB w4 (tN y.h y.v y.c RA rn rc) 78
 replace FR:=zH (FR.out.fut k_w5)
 replace BN:=zH (BN.out.fut k_w5)
 replace BA:=zH (BA.out.fut k_w5)
 replace BR:=zH (BR.out.fut k_w5)
 replace RS:=zH (RS.out.fut k_w5)
 clear k_w5
 have l5:w4.heap.size < w5.heap.size:=by rw [← hw_w5];simp
 by_cases k0:k=0
 ·subst k0
  have hx:=HX.out
  rw [if_pos rfl] at hx
  obtain ⟨e1,e2,e3,e4⟩:=SN.out rfl
  simp only [ern] at e1 e2 e3
  have AP:=zH (fun w ha=>actPut_any y RA rn rc d W nw cw B nb cb w e4 HD.out ha e1 e2 e3)
  rw [hx] at AP
  clear e1 e2 e3 e4 hx SN ern
  go_wp2_with (first|(refine lB 78 (.tmp 6) w4.heap.size BX.out Tryz.underlying78 ?_)|(refine lB 44 (.tmp 2) w.heap.size BN.out Tryz.underlying44 ?_))
  refine (AP.out _ RS.out.old).mono ?_
  rintro e wm ⟨RA,rn,rc,rfl,rs,hb⟩
  have RS:=zH (show New w5 (tInt .i8) wm RA rn rc x.1.data from ⟨rs⟩)
  have lbr:=BR.out.lt
  have lfr:=FR.out.size
  replace BR:=zH (BR.out.fut hb)
  replace FR:=zH (FR.out.fut hb)
  clear hb rs hw_w5
  go_wp2_with (refine sB 27 (.tmp 4) (.tmp 21) w2.heap.size (tN x.1.h x.1.v x.1.c RA rn rc) BR.out ?_;intro w9 B9 g9)
  refine rC B9 Tryz.underlying27 ?_
  exact ⟨RA,rn,rc,rfl,(RS.out.away g9 lbr).out.more (bin_more lfr (Nat.le_refl _)),(FR.out.away g9 (by omega)).out⟩
 ·have hx:=HX.out
  rw [if_neg k0] at hx
  subst hx
  have hk2:(k != 0)=true:=by rw [bne_iff_ne];exact k0
  clear k0 SN ern
  go_wp2_with (refine sB 27 (.tmp 4) (.tmp 16) w2.heap.size (tN 0 0 0 none 0 0) BR.out ?_;intro w9 B9 g9)
  refine rC B9 Tryz.underlying27 ?_
  exact RetT.none (FR.out.away g9 (by omega)).out
abbrev Sh3:=Int × Int × Int
theorem Sl.shape_at {w:World} {S:Nat → Prop} {A:Option Addr} {n cap:Nat} {l:List Sh3} (h:Sl tShape w S A n cap l) (i:Nat) (hi:i < n) :
  ∃ b off,A=some ⟨b,off,none⟩∧S b∧b < w.heap.size∧InK .i64 (l.getD i (0,0,0)).1∧InK .i64 (l.getD i (0,0,0)).2.1∧InK .i64 (l.getD i (0,0,0)).2.2∧l[i]?=some (l.getD i (0,0,0)) ∧
   w.rangeAt b (off+i*3) [.int .i64 (l.getD i (0,0,0)).1,.int .i64 (l.getD i (0,0,0)).2.1,.int .i64 (l.getD i (0,0,0)).2.2]:=by
 obtain ⟨x,b,off,xs,hx,hA,hS,hb,hr,hl,hc⟩:=h.cells i hi (by decide)
 obtain ⟨_,_,rfl,⟨rfl,h1⟩,_,_,rfl,⟨rfl,h2⟩,rfl,h3⟩:=hr
 have e:l.getD i (0,0,0)=x:=by rw [List.getD_eq_getElem?_getD,hx];rfl
 rw [e]
 refine ⟨b,off,hA,hS,hb,h1,h2,h3,hx,fun j v hv=>?_⟩
 have:=hc j v hv
 rwa [show tShape.size=3 from rfl,← Nat.add_assoc] at this
def nextV (d:Node) (l:List Sh3):ShE :=
 if checkV d ≠ 0 then noS (checkV d) else if thereV d l.length=false then noS 8
 else shapeV (l.getD d.a.toNat (0,0,0)).1 (l.getD d.a.toNat (0,0,0)).2.1 (l.getD d.a.toNat (0,0,0)).2.2 (l.getD (secondV d).toNat (0,0,0)).1 (l.getD (secondV d).toNat (0,0,0)).2.1 (l.getD (secondV d).toNat (0,0,0)).2.2 d
theorem check_kind {d:Node} (h:checkV d=0):1≤d.kind∧d.kind≤9:=by
 unfold checkV at h
 by_cases hk:kindOk d.kind
 ·exact hk
 ·rw [if_pos hk] at h;cases h
theorem there_bd {d:Node} {n:Int} (h:thereV d n=true):0≤d.a∧d.a < n∧0≤secondV d∧secondV d < n:=by
 unfold thereV at h
 unfold secondV
 simp only [Bool.and_eq_true,Bool.or_eq_true,decide_eq_true_eq] at h
 split <;> omega
set_option maxHeartbeats 16000000 in
theorem next_any (d:Node) (W:Option Addr) (nw cw:Nat) (B:Option Addr) (nb cb:Nat) (A:Option Addr) (n cap:Nat) (l:List Sh3) (w:World) (hd:NodeIn d) (hw:Sl (tInt .i8) w (blo w.heap.size) W nw cw d.w) (hb:Sl (tInt .i32) w (blo w.heap.size) B nb cb d.bias) (mw:nw≤1048576) (mb:nb≤1048576) (hs:Sl tShape w (blo w.heap.size) A n cap l) :
  Calls Tryz.prog 25 #[.agg (nN d.kind d.a d.b d.k d.s d.p d.out d.za d.zb W nw cw B nb cb d.qm d.qs d.qz d.rm d.rs d.rz d.lo d.hi),.slice A n cap] w fun e w'=>e=retS (nextV d l)∧Below w.heap.size w w':=by
 have hn:=hs.n_eq
 have hm:n≤9223372036854775807:=Nat.le_trans hs.cap_le hs.max_le
 obtain ⟨r,hr⟩:∃ r,nextV d l=r:=⟨_,rfl⟩
 rw [hr]
 unfold nextV at hr
 rw [hn] at hr
 have CK:=zH (fun (w':World) (hb':Below w.heap.size w w')=>kcheck_any d W nw cw B nb cb w' (hw.later hb' (Nat.le_refl _)) (hb.later hb' (Nat.le_refl _)) mw mb)
 have TH:=zH (fun w=>there_any d W nw cw B nb cb n w hd.a hd.b)
 have OF:=zH (fun w=>of_any d W nw cw B nb cb w hd.a hd.b)
 have HW:=zH hw.n_eq
 have HB:=zH hb.n_eq
 have HS:=zH hs
 have HD:=zH hd
 have KD:=zH (check_kind (d:=d))
 have TB:=zH (there_bd (d:=d) (n:=n))
 have VV:=zH hr.symm
 clear hr hw hb hs hd hn
 obtain ⟨ck,hck⟩:∃ x,checkV d=x:=⟨_,rfl⟩
 obtain ⟨th,hth⟩:∃ x,thereV d n=x:=⟨_,rfl⟩
 rw [hck] at CK KD VV
 rw [hth] at TH TB VV
 clear hck hth
 have FR:=zH (Far.refl w)
 obtain ⟨w1,hw_w1,BN,k_w1⟩:=nB w (nN d.kind d.a d.b d.k d.s d.p d.out d.za d.zb W nw cw B nb cb d.qm d.qs d.qz d.rm d.rs d.rz d.lo d.hi) 44
 replace FR:=zH (FR.out.fut k_w1)
 clear k_w1
 obtain ⟨w2,hw_w2,BR,k_w2⟩:=nB w1 (sN 0 0 0) 24
 replace FR:=zH (FR.out.fut k_w2)
 replace BN:=zH (BN.out.fut k_w2)
 clear k_w2
 have l1:w.heap.size < w1.heap.size:=by rw [← hw_w1];simp
 have l2:w1.heap.size < w2.heap.size:=by rw [← hw_w2];simp
 by_cases c1:ck=0
 rotate_left
 ·have t1:(ck != 0)=true:=by simpa using c1
  have R:=zH (show r=noS ck by rw [VV.out,if_pos c1])
  clear c1 VV
  go_enter Tryz.func25,Tryz.ntmps25
  go_wp2_with (refine lB 44 (.tmp 2) w.heap.size BN.out Tryz.underlying44 ?_)
  clear hw_w1 hw_w2
  refine (CK.out _ FR.out.out).mono ?_
  rintro e w3 ⟨rfl,hb⟩
  replace FR:=zH (FR.out.fut hb)
  replace BN:=zH (BN.out.fut hb)
  replace BR:=zH (BR.out.fut hb)
  clear hb
  go_wp2_with (refine sB 24 (.tmp 4) (.tmp 11) w1.heap.size (sN 0 0 0) BR.out ?_;intro w7 BR7 g7)
  refine rC BR7 Tryz.underlying24 ?_;exact ⟨by rw [R.out];rfl,(FR.out.away g7 (by omega)).out⟩
 subst c1
 have t1:((0:Int) != 0)=false:=rfl
 cases th with
 | false =>
  have R:=zH (show r=noS 8 by rw [VV.out,if_neg (by decide),if_pos rfl])
  clear VV
  go_enter Tryz.func25,Tryz.ntmps25
  go_wp2_with (refine lB 44 (.tmp 2) w.heap.size BN.out Tryz.underlying44 ?_)
  clear hw_w1 hw_w2
  refine (CK.out _ FR.out.out).mono ?_
  rintro e w3 ⟨rfl,hb⟩
  replace FR:=zH (FR.out.fut hb)
  replace BN:=zH (BN.out.fut hb)
  replace BR:=zH (BR.out.fut hb)
  clear hb
  go_wp2_with (refine lB 44 (.tmp 2) w.heap.size BN.out Tryz.underlying44 ?_)
  refine (TH.out _).mono ?_
  rintro e w4 ⟨rfl,hb⟩
  replace FR:=zH (FR.out.fut hb)
  replace BN:=zH (BN.out.fut hb)
  replace BR:=zH (BR.out.fut hb)
  clear hb
  go_wp2_with (refine sB 24 (.tmp 4) (.tmp 18) w1.heap.size (sN 0 0 0) BR.out ?_;intro w7 BR7 g7)
  refine rC BR7 Tryz.underlying24 ?_;exact ⟨by rw [R.out];rfl,(FR.out.away g7 (by omega)).out⟩
 | true =>
  obtain ⟨p1,p2,p3,p4⟩:=TB.out rfl
  have hk:=KD.out rfl
  obtain ⟨ia,hia⟩:∃ ia,d.a.toNat=ia:=⟨_,rfl⟩
  obtain ⟨ib,hib⟩:∃ ib,(secondV d).toNat=ib:=⟨_,rfl⟩
  obtain ⟨b0,off0,rfl,_,_,k1,k2,k3,_,q1⟩:=HS.out.shape_at ia (by omega)
  obtain ⟨b0',off0',e0,_,_,k4,k5,k6,_,q2⟩:=HS.out.shape_at ib (by omega)
  obtain ⟨rfl,rfl⟩:b0=b0'∧off0=off0':=by simpa using e0
  have V2:=zH (show r=shapeV (l.getD ia (0,0,0)).1 (l.getD ia (0,0,0)).2.1 (l.getD ia (0,0,0)).2.2 (l.getD ib (0,0,0)).1 (l.getD ib (0,0,0)).2.1 (l.getD ib (0,0,0)).2.2 d by rw [VV.out,if_neg (by decide),if_neg (by decide),hia,hib])
  obtain ⟨⟨x,y,z⟩,hx⟩:∃ s,l.getD ia (0,0,0)=s:=⟨_,rfl⟩
  obtain ⟨⟨x',y',z'⟩,hx'⟩:∃ s,l.getD ib (0,0,0)=s:=⟨_,rfl⟩
  rw [hx] at q1 k1 k2 k3 V2
  rw [hx'] at q2 k4 k5 k6 V2
  simp only at q1 q2 k1 k2 k3 k4 k5 k6 V2
  have Q1:=zH q1
  have Q2:=zH q2
  obtain ⟨sc,hsc⟩:∃ s,secondV d=s:=⟨_,rfl⟩
  rw [hsc] at p3 p4 OF hib
  have KS:=zH (fun w=>kshape_any x y z x' y' z' d W nw cw B nb cb w k1 k2 k3 HD.out.out HD.out.p HW.out.symm HB.out.symm mw mb hk)
  obtain ⟨⟨⟨x1,x2,x3⟩,xe⟩,hxx⟩:∃ s,shapeV x y z x' y' z' d=s:=⟨_,rfl⟩
  rw [hxx] at KS V2
  simp only [retS] at KS
  have R:=zH V2.out
  clear VV V2 hx hx' hxx hsc k1 k2 k3 k4 k5 k6 q1 q2 e0 hk KD TB HD
  go_enter Tryz.func25,Tryz.ntmps25
  go_wp2_with (refine lB 44 (.tmp 2) w.heap.size BN.out Tryz.underlying44 ?_)
  clear hw_w1 hw_w2
  refine (CK.out _ FR.out.out).mono ?_
  rintro e w3 ⟨rfl,hb⟩
  replace FR:=zH (FR.out.fut hb)
  replace BN:=zH (BN.out.fut hb)
  replace BR:=zH (BR.out.fut hb)
  clear hb
  go_wp2_with (refine lB 44 (.tmp 2) w.heap.size BN.out Tryz.underlying44 ?_)
  refine (TH.out _).mono ?_
  rintro e w4 ⟨rfl,hb⟩
  replace FR:=zH (FR.out.fut hb)
  replace BN:=zH (BN.out.fut hb)
  replace BR:=zH (BR.out.fut hb)
  clear hb
  clear CK TH
  go_wp2_with fail
  refine wp_region_held_drew (S:=fun w'=>w'.cell? ⟨w.heap.size,1,none⟩=some (.int .i64 d.a)∧Blk w' w.heap.size 44 (nN d.kind d.a d.b d.k d.s d.p d.out d.za d.zb W nw cw B nb cb d.qm d.qs d.qz d.rm d.rs d.rz d.lo d.hi)∧Below w.heap.size w w') (by kernel_rfl) ?_ (fun hS=>?_)
  ·exact ⟨BN.out.drew.cell 1,BN.out.drew,FR.out.out.drew⟩
  refine tkH 0 rfl (yieldsIf_load_blk (by rfl) 44 (.tmp 2) rfl w.heap.size 0 rfl _ _ (nN d.kind d.a d.b d.k d.s d.p d.out d.za d.zb W nw cw B nb cb d.qm d.qs d.qz d.rm d.rs d.rz d.lo d.hi) _ (fun w hs=>hs.2.1) Tryz.underlying44 rfl (by kernel_rfl) rfl) hS ?_
  try simp only [pX]
  refine kH 1 rfl hS ?_
  try simp only [pX]
  refine kH 2 rfl hS ?_
  try simp only [pX]
  refine kH 3 rfl hS ?_
  try simp only [pX]
  refine kH 4 rfl hS ?_
  try simp only [pX]
  refine tkH 5 rfl (yieldsIf_load_mid (by rfl) 24 (.tmp 23) rfl b0 (off0+ia*3) (by rw [← hia];rfl) _ _ (fun w hs j v hv=>cell_later hs.2.2 (Q1.out j v hv)) Tryz.underlying24 rfl (by kernel_rfl)) hS ?_
  try simp only [pX]
  refine kH 6 rfl hS ?_
  try simp only [pX]
  refine tkH 7 rfl (yieldsIf_load_blk (by rfl) 44 (.tmp 2) rfl w.heap.size 0 rfl _ _ (nN d.kind d.a d.b d.k d.s d.p d.out d.za d.zb W nw cw B nb cb d.qm d.qs d.qz d.rm d.rs d.rz d.lo d.hi) _ (fun w hs=>hs.2.1) Tryz.underlying44 rfl (by kernel_rfl) rfl) hS ?_
  try simp only [pX]
  refine rH 8 rfl (fun K hK=>?_)
  go_simp
  refine (OF.out _).mono ?_;rintro e w5 ⟨rfl,hb⟩;have BR5:=zH (BR.out.drew.later hb)
  refine hK.out _ _ ?_ (fun hS=>?_)
  ·exact ⟨(by first|exact cell_later hb hS.1|exact Blk.later hS.1 hb),(by first|exact cell_later hb hS.2.1|exact Blk.later hS.2.1 hb),below_later hb hS.2.2⟩
  clear hK K
  try simp only [pX]
  refine kH 9 rfl hS ?_
  try simp only [pX]
  refine tkH 10 rfl (yieldsIf_load_mid (by rfl) 24 (.tmp 28) rfl b0 (off0+ib*3) (by rw [← hib];rfl) _ _ (fun w hs j v hv=>cell_later hs.2.2 (Q2.out j v hv)) Tryz.underlying24 rfl (by kernel_rfl)) hS ?_
  try simp only [pX]
  refine rH 11 rfl (fun K hK=>?_)
  go_simp
  refine (KS.out _).mono ?_;rintro e w6 ⟨rfl,hb⟩;have BR6:=zH (BR5.out.later hb)
  refine hK.out _ _ ?_ (fun hS=>?_)
  ·exact ⟨(by first|exact cell_later hb hS.1|exact Blk.later hS.1 hb),(by first|exact cell_later hb hS.2.1|exact Blk.later hS.2.1 hb),below_later hb hS.2.2⟩
  clear hK K
  try simp only [pX]
  refine kH 12 rfl hS ?_
  try simp only [pX]
  refine kH 13 rfl hS ?_
  try simp only [pX]
  refine rH 14 rfl (fun K hK=>?_)
  (rw [if_pos (by rfl)];refine oper_store_blk 24 (.tmp 4) (.tmp 31) rfl w1.heap.size 0 (sN x1 x2 x3) rfl rfl _ (sN 0 0 0) (sN x1 x2 x3) BR6.out (by simp) (by kernel_rfl) (by simp [Value.oneCell']) rfl ?_;intro w7 BR7 g7;have BN7:=hS.2.1.away g7 (by omega);refine hK.out _ _ ⟨BN7.cell 1,BN7,hS.2.2.grown g7 hS.2.2.size (fun k h=>by have:=Option.some.inj h;omega)⟩ (fun hS=>?_))
  clear hK K
  try simp only [pX]
  refine kH 15 rfl hS ?_
  try simp only [pX]
  refine wpAnyH_done (by kernel_rfl) ?_ _
  have FZ:=hS.2.2
  go_wp2_with fail
  refine rC BR7 Tryz.underlying24 ?_;exact ⟨by rw [R.out];rfl,FZ⟩
structure GoodS (x:Sh3):Prop where
 h:1≤x.1∧x.1≤1024
 v:1≤x.2.1∧x.2.1≤1024
 c:1≤x.2.2∧x.2.2≤1024
theorem GoodS.of {h v c:Int} (e:¬ elems h v c=0):GoodS (h,v,c):=by
 have:=elems_bd e
 exact ⟨by simp only;omega,by simp only;omega,by simp only;omega⟩
theorem slideV_good {h v c k s p o:Int} (e:(slideV h v c k s p o).2=0):GoodS (slideV h v c k s p o).1:=by
 unfold slideV at *
 by_cases c1:elems h v c=0
 ·rw [if_pos c1] at e;cases e
 rw [if_neg c1] at e ⊢
 by_cases c2:(stepsV h k s p).2 ≠ 0
 ·rw [if_pos c2] at e;exact absurd e c2
 rw [if_neg c2] at e ⊢
 by_cases c3:(stepsV v k s p).2 ≠ 0
 ·rw [if_pos c3] at e;exact absurd e c3
 rw [if_neg c3] at e ⊢
 by_cases c4:elems (stepsV h k s p).1 (stepsV v k s p).1 o=0
 ·rw [if_pos c4] at e;cases e
 rw [if_neg c4]
 exact .of c4
theorem fitV_good {x:ShE} {want out:Int} {d:Node} (hx:x.2=0 → GoodS x.1) (e:(fitV x want out d).2=0):GoodS (fitV x want out d).1:=by
 unfold fitV at *
 by_cases c1:x.2 ≠ 0
 ·rw [if_pos c1] at e;exact absurd e c1
 rw [if_neg c1] at e ⊢
 by_cases c2:¬ (d.w.length:Int)=want ∨ 16384 < d.w.length ∨ ¬ (d.bias.length:Int)=out
 ·rw [if_pos c2] at e;cases e
 rw [if_neg c2] at e ⊢
 exact hx e
theorem denseV_good {h v c:Int} {d:Node} (e:(denseV h v c d).2=0):GoodS (denseV h v c d).1:=by
 unfold denseV at *
 by_cases c1:elems h v c=0 ∨ elems 1 1 d.out=0
 ·rw [if_pos c1] at e;cases e
 rw [if_neg c1] at e ⊢
 by_cases c2:¬ (d.w.length:Int)=d.out*elems h v c ∨ 16384 < d.w.length ∨ ¬ (d.bias.length:Int)=d.out
 ·rw [if_pos c2] at e;cases e
 rw [if_neg c2]
 exact .of (fun h=>c1 (.inr h))
theorem aroundV_good {h v c p:Int} (e:(aroundV h v c p).2=0):GoodS (aroundV h v c p).1:=by
 unfold aroundV at *
 by_cases c1:p < 0 ∨ 4 < p
 ·rw [if_pos c1] at e;cases e
 rw [if_neg c1] at e ⊢
 by_cases c2:elems (h+2*p) (v+2*p) c=0
 ·rw [if_pos c2] at e;cases e
 rw [if_neg c2]
 exact .of c2
theorem plainV_good {k h v c h2 v2 c2 p:Int} (e:(plainV k h v c h2 v2 c2 p).2=0):GoodS (plainV k h v c h2 v2 c2 p).1:=by
 unfold plainV at *
 by_cases c1:elems h v c=0
 ·rw [if_pos c1] at e;cases e
 rw [if_neg c1] at e ⊢
 by_cases q:k=6∧([h,v,c] == [h2,v2,c2])=false
 ·rw [if_pos q] at e;cases e
 rw [if_neg q] at e ⊢
 by_cases k8:k=8
 ·rw [if_pos k8] at e ⊢;exact aroundV_good e
 rw [if_neg k8] at e ⊢
 by_cases k9:k=9
 ·rw [if_pos k9]
  have:=elems_range h v c
  exact ⟨by simp only;omega,by simp only;omega,by simp only;omega⟩
 rw [if_neg k9]
 exact .of c1
theorem shapeV_good {h v c h2 v2 c2:Int} {d:Node} (e:(shapeV h v c h2 v2 c2 d).2=0):GoodS (shapeV h v c h2 v2 c2 d).1:=by
 unfold shapeV at *
 by_cases k1:d.kind=1
 ·rw [if_pos k1] at e ⊢;exact fitV_good slideV_good e
 rw [if_neg k1] at e ⊢
 by_cases k2:d.kind=2
 ·rw [if_pos k2] at e ⊢;exact fitV_good slideV_good e
 rw [if_neg k2] at e ⊢
 by_cases k3:d.kind=3
 ·rw [if_pos k3] at e ⊢;exact denseV_good e
 rw [if_neg k3] at e ⊢
 by_cases k4:d.kind=4 ∨ d.kind=5
 ·rw [if_pos k4] at e ⊢;exact slideV_good e
 rw [if_neg k4] at e ⊢
 exact plainV_good e
theorem nextV_good {d:Node} {l:List Sh3} (e:(nextV d l).2=0):GoodS (nextV d l).1:=by
 unfold nextV at *
 by_cases c1:checkV d ≠ 0
 ·rw [if_pos c1] at e;exact absurd e c1
 rw [if_neg c1] at e ⊢
 by_cases c2:thereV d l.length=false
 ·rw [if_pos c2] at e;cases e
 rw [if_neg c2] at e ⊢
 exact shapeV_good e
theorem GoodS.rep {w:World} {S:Nat → Prop} {x y z:Int} (h:GoodS (x,y,z)):tShape.rep w S [.int .i64 x,.int .i64 y,.int .i64 z] (x,y,z):=by
 have h1:=h.h
 have h2:=h.v
 have h3:=h.c
 simp only at h1 h2 h3
 exact ⟨_,_,rfl,⟨rfl,by rw [inK_i64];simp only;omega⟩,_,_,rfl,⟨rfl,by rw [inK_i64];simp only;omega⟩,rfl,by rw [inK_i64];simp only;omega⟩
inductive Run where
 | on (out:List Sh3)
 | bad (i:Nat) (e:Int)
def noNode:Node:=⟨0,0,0,0,0,0,0,0,0,[],[],0,0,0,0,0,0,0,0⟩
def runS (l:List Node) (s:Sh3):Nat → Run
 | 0=>.on [s]
 | k+1=>match runS l s k with
  | .on out=>if (nextV (l.getD k noNode) out).2 ≠ 0 then .bad k (nextV (l.getD k noNode) out).2 else .on (out ++ [(nextV (l.getD k noNode) out).1])
  | .bad i e=>.bad i e
def endS (n:Nat):Run → List Sh3 × Int × Int
 | .on out=>(out,(n:Int),0)
 | .bad i e=>([],(i:Int),e)
def shapesV (l:List Node) (s:Sh3):List Sh3 × Int × Int :=
 if elems s.1 s.2.1 s.2.2=0 then ([],-1,5) else if l.length=0 then ([],-1,12) else if 8 < l.length then ([],-1,4)
 else endS l.length (runS l s l.length)
theorem runS_bad {l : List Node} {s : Sh3} {k i : Nat} {e : Int} (h : runS l s k = .bad i e) : ∀ m, k ≤ m → runS l s m = .bad i e := by
  intro m hm
  induction m with
  | zero => obtain rfl : k = 0 := by omega
            exact h
  | succ m ih =>
    by_cases hk : k = m + 1
    · subst hk; exact h
    · have := ih (by omega)
      show (match runS l s m with | .on out => _ | .bad i e => _) = _
      rw [this]
theorem runS_next {l:List Node} {s:Sh3} {k:Nat} {out:List Sh3} {d:Node} (h:runS l s k=.on out) (hd:l[k]?=some d) :
  runS l s (k+1)=if (nextV d out).2 ≠ 0 then .bad k (nextV d out).2 else .on (out ++ [(nextV d out).1]):=by
 have e:l.getD k noNode=d:=by rw [List.getD_eq_getElem?_getD,hd];rfl
 show (match runS l s k with|.on out=>_|.bad i e=>_)=_
 rw [h]
 simp only [e]
theorem tNode_size:tNode.size=19:=rfl
theorem Sl.node_at {w:World} {S:Nat → Prop} {A:Option Addr} {n cap:Nat} {l:List Node} (h:Sl tNode w S A n cap l) (i:Nat) (hi:i < n) :
  ∃ d b off W nw cw B nb cb,l[i]?=some d∧A=some ⟨b,off,none⟩∧S b∧b < w.heap.size∧NodeIn d∧Sl (tInt .i8) w S W nw cw d.w∧Sl (tInt .i32) w S B nb cb d.bias∧w.rangeAt b (off+i*19) [.int .i64 d.kind,.int .i64 d.a,.int .i64 d.b,.int .i64 d.k,.int .i64 d.s,.int .i64 d.p,.int .i64 d.out,.int .i8 d.za,.int .i8 d.zb,.slice W nw cw,.slice B nb cb,.int .i32 d.qm,.int .i64 d.qs,.int .i8 d.qz,.int .i32 d.rm,.int .i64 d.rs,.int .i8 d.rz,.int .i8 d.lo,.int .i8 d.hi]:=by
 obtain ⟨d,b,off,xs,hx,hA,hS,hb,hr,hl,hc⟩:=h.cells i hi (by decide)
 obtain ⟨W,nw,cw,B,nb,cb,rfl,hd,h1,h2⟩:=node_open hr
 rw [tNode_size] at hc
 exact ⟨d,b,off,W,nw,cw,B,nb,cb,hx,hA,hS,hb,hd,h1,h2,fun j v hv=>by have:=hc j v hv;rwa [← Nat.add_assoc] at this⟩
theorem ei_shape:EI Tryz.prog 49 24 (.agg (sN 0 0 0)) 3 24:=⟨Tryz.underlying49,by kernel_rfl,rfl,by decide⟩
theorem Own.one {α:Type} {t:Ty α} {W:World} {S:Nat → Prop} {E:TypeId} {base:Nat} {cs:Array Value} {x:α} (hb:base≤W.heap.size) (hr:t.rep (W.alloc (.cells cs E)) S cs.toList x) :
  Own t (W.alloc (.cells cs E)) S base E (.slice (some ⟨W.heap.size,0,none⟩) 1 1) 1 [x] :=
 have hl:=t.len hr
 ⟨cs.toList,⟨by simp [hl],.inr ⟨_,1,cs,rfl,hb,heap_alloc_new _ _,Nat.le_refl _,by decide,by simpa using hl,by rw [List.take_of_length_le (by omega)]⟩⟩,RowsOf.one hr⟩
def RetShapes (x:List Sh3 × Int × Int) (w:World) (e:Ending) (w':World):Prop :=
 ∃ A m cap,e=.returned (.tuple #[.slice A m cap,.int .i64 x.2.1,.int .i64 x.2.2])∧Sl tShape w' (bin w.heap.size w'.heap.size) A m cap x.1∧Below w.heap.size w w'
theorem RetShapes.none {i e:Int} {w w':World} (hb:Below w.heap.size w w'):RetShapes ([],i,e) w (.returned (.tuple #[.slice none 0 0,.int .i64 i,.int .i64 e])) w' :=
 ⟨Option.none,0,0,rfl,Sl.nil _ _ _,hb⟩
set_option maxHeartbeats 16000000 in
theorem shapes_any (A:Option Addr) (n cap:Nat) (l:List Node) (h v c:Int) (w:World) (hs:Sl tNode w (blo w.heap.size) A n cap l) (i0:InK .i64 h) (i1:InK .i64 v) (i2:InK .i64 c) (hf:∀ d ∈ l,d.w.length≤1000∧d.bias.length≤100) :
  Calls Tryz.prog 14 #[.slice A n cap,.agg (sN h v c)] w (RetShapes (shapesV l (h,v,c)) w):=by
 have hn:=hs.n_eq
 obtain ⟨r,hr⟩:∃ r,shapesV l (h,v,c)=r:=⟨_,rfl⟩
 rw [hr]
 unfold shapesV at hr
 simp only [hn] at hr
 have RI:=zH (fun w=>shapeRight_any h c v w i0 i1 i2)
 have m0:=(elems_range h v c).1
 have GS:=zH (GoodS.of (h:=h) (v:=v) (c:=c))
 obtain ⟨m,hm⟩:∃ m,elems h v c=m:=⟨_,rfl⟩
 rw [hm] at hr RI m0 GS
 have VV:=zH hr.symm
 have H:=zH hs
 have HF:=zH hf
 have hmax:n≤9223372036854775807:=Nat.le_trans hs.cap_le hs.max_le
 clear hr hm hs hf i0 i1 i2 hn
 have FR:=zH (Far.refl w)
 obtain ⟨w1,hw_w1,BA,k_w1⟩:=nB w (sN h v c) 24
 replace FR:=zH (FR.out.fut k_w1)
 clear k_w1
 have l1:w.heap.size < w1.heap.size:=by rw [← hw_w1];simp
 by_cases c1:m=0
 ·have t1:decide (0 < m)=false:=by simp;omega
  have R:=zH (show r=([],-1,5) by rw [VV.out,if_pos c1])
  clear c1 VV
  go_enter Tryz.func14,Tryz.ntmps14
  go_wp2_with (refine lB 24 (.tmp 3) w.heap.size BA.out Tryz.underlying24 ?_)
  clear hw_w1
  refine (RI.out _).mono ?_
  rintro e w2 ⟨rfl,hb⟩
  replace FR:=zH (FR.out.fut hb)
  replace BA:=zH (BA.out.fut hb)
  clear hb
  go_wp2_with fail
  go_ret3
  rw [R.out]
  exact RetShapes.none FR.out.out
 have t1:decide (0 < m)=true:=by simp;omega
 have good:=zH (GS.out c1)
 by_cases c2:n=0
 ·have t2:((n:Int) == 0)=true:=by simp;omega
  have R:=zH (show r=([],-1,12) by rw [VV.out,if_neg c1,if_pos c2])
  clear c1 c2 VV
  go_enter Tryz.func14,Tryz.ntmps14
  go_wp2_with (refine lB 24 (.tmp 3) w.heap.size BA.out Tryz.underlying24 ?_)
  clear hw_w1
  refine (RI.out _).mono ?_
  rintro e w2 ⟨rfl,hb⟩
  replace FR:=zH (FR.out.fut hb)
  replace BA:=zH (BA.out.fut hb)
  clear hb
  go_wp2_with fail
  go_ret3
  rw [R.out]
  exact RetShapes.none FR.out.out
 have t2:((n:Int) == 0)=false:=by simp;omega
 by_cases c3:8 < n
 ·have t3:decide (8 < (n:Int))=true:=by simp;omega
  have R:=zH (show r=([],-1,4) by rw [VV.out,if_neg c1,if_neg c2,if_pos c3])
  clear c1 c2 c3 VV
  go_enter Tryz.func14,Tryz.ntmps14
  go_wp2_with (refine lB 24 (.tmp 3) w.heap.size BA.out Tryz.underlying24 ?_)
  clear hw_w1
  refine (RI.out _).mono ?_
  rintro e w2 ⟨rfl,hb⟩
  replace FR:=zH (FR.out.fut hb)
  replace BA:=zH (BA.out.fut hb)
  clear hb
  go_wp2_with fail
  go_ret3
  rw [R.out]
  exact RetShapes.none FR.out.out
 have t3:decide (8 < (n:Int))=false:=by simp;omega
 have hn8:n≤8:=by omega
 have V2:=zH (show r=endS n (runS l (h,v,c) n) by rw [VV.out,if_neg c1,if_neg c2,if_neg c3])
 clear c1 c2 c3 VV GS
 go_enter Tryz.func14,Tryz.ntmps14
 go_wp2_with (refine lB 24 (.tmp 3) w.heap.size BA.out Tryz.underlying24 ?_)
 clear hw_w1
 refine (RI.out _).mono ?_
 rintro e w2 ⟨rfl,hb⟩
 replace FR:=zH (FR.out.fut hb)
 replace BA:=zH (BA.out.fut hb)
 clear hb
 clear RI
 go_wp2_with (first
  | (refine lB 24 (.tmp 3) w.heap.size BA.out Tryz.underlying24 ?_)
  | (refine wpList_lit1 rfl (.tmp 24) rfl ei_shape (sN h v c) rfl rfl (by decide) ?_))
 have z2:=FR.out.size
 go_loopw [7,28] (fun u i wr=>∃ (k:Nat) (out:List Sh3),k≤n∧i=.int .i64 k∧runS l (h,v,c) k=.on out∧Own tShape wr (fun _=>False) w.heap.size 24 u (k+1) out∧Below w.heap.size w wr) (fun _ i _=>n - (intOf i).toNat)
 case atStart=>exact ⟨0,[(h,v,c)],Nat.zero_le _,rfl,rfl,Own.one z2 good.out.rep,FR.out.out.alloc z2 _⟩
 case round =>
  clear FR BA z2 t1 t2 t3
  obtain ⟨k,out,hk,rfl,hrun,hown,hb⟩:=hrel
  have HB:=zH hb
  have ON:=zH hown
  have HR:=zH hrun
  obtain ⟨A1,c1,rfl,sl⟩:=hown.sl (S':=bin w.heap.size wr.heap.size) (by decide) (fun b h1 h2=>⟨h1,h2⟩) (fun _ h=>h.elim)
  have SL:=zH sl
  clear hb hown hrun sl
  by_cases hlt:k < n
  ·have p1:(k:Int) < (n:Int):=by omega
   obtain ⟨d,b0,off,W,nw,cw,B,nb,cb,hd,rfl,_,_,hin,hw8,hw32,hrg⟩:=(H.out.below HB.out (fun _ h=>h)).node_at k hlt
   have hsz:=HF.out d (List.mem_of_getElem? hd)
   have hnx:=runS_next HR.out hd
   have q8:=hw8.n_eq
   have q32:=hw32.n_eq
   have RG:=zH hrg
   have HIN:=zH hin
   have HW:=zH (hw8.more (blo_more HB.out.size))
   have HW32:=zH (hw32.more (blo_more HB.out.size))
   have NG:=zH (nextV_good (d:=d) (l:=out))
   obtain ⟨⟨⟨x1,x2,x3⟩,xe⟩,hx⟩:∃ x,nextV d out=x:=⟨_,rfl⟩
   rw [hx] at hnx NG
   simp only at hnx
   have NX:=zH hnx
   have HX:=zH hx
   clear hd hin hw8 hw32 hrg hnx hx
   have zr:=HB.out.size
   go_wp2_with (first
    | (refine wpList_load_mid rfl 44 (.tmp 31) rfl b0 (off+k*19) rfl _ _ RG.out Tryz.underlying44 rfl (by kernel_rfl) ?_)
    | (refine sB 44 (.tmp 9) (.tmp 32) wr.heap.size (nN d.kind d.a d.b d.k d.s d.p d.out d.za d.zb W nw cw B nb cb d.qm d.qs d.qz d.rm d.rs d.rz d.lo d.hi) (Blk.now _ _ _ _ rfl) ?_;intro w7 B7 g7;have G7:=zH (show Below wr.heap.size wr w7 from ((Below.refl _ _).alloc (Nat.le_refl _) _).grown g7 (by simp) (fun k h=>by have:=Option.some.inj h;omega));have BD:=zH B7;clear B7 g7)
    | (refine lB 44 (.tmp 9) wr.heap.size BD.out Tryz.underlying44 ?_))
   have z7:=G7.out.size
   refine (next_any d W nw cw B nb cb A1 (k+1) c1 out w7 HIN.out (HW.out.later G7.out (Nat.le_refl _)) (HW32.out.later G7.out (Nat.le_refl _)) (by omega) (by omega) ((SL.out.more bin_blo).later G7.out (Nat.le_refl _))).mono ?_
   rintro e w8 ⟨he,hb⟩
   rw [HX.out] at he
   simp only [retS] at he
   subst he
   have G8:=zH (below_later hb G7.out)
   have O8:=zH ((ON.out.below G7.out (Nat.le_refl _) (fun _ h=>h.elim)).below hb (Nat.le_refl _) (fun _ h=>h.elim))
   have z8:=hb.size
   clear hb HX
   by_cases hxe:xe=0
   ·subst hxe
    have t4:((0:Int) != 0)=false:=rfl
    have gx:=zH (NG.out rfl)
    rw [if_neg (by decide)] at NX
    clear NG
    go_wp2_with (first
     | (refine sB 24 (.tmp 10) (.tmp 37) w8.heap.size (sN x1 x2 x3) (Blk.now _ _ _ _ rfl) ?_;intro w9 B9 g9;have G9:=zH (show Below w8.heap.size w8 w9 from ((Below.refl _ _).alloc (Nat.le_refl _) _).grown g9 (by simp) (fun k h=>by have:=Option.some.inj h;omega));have BX:=zH B9;clear B9 g9)
     | (refine lB 24 (.tmp 10) w8.heap.size BX.out Tryz.underlying24 ?_)
     | (refine wpList_lit1 rfl (.tmp 44) rfl ei_shape (sN x1 x2 x3) rfl rfl (by decide) ?_)
     | (at_builtin;refine wpList_push (W:=w9) (cs:=(sN x1 x2 x3)) (E:=24) (t:=tShape) (S:=fun _=>False) (base:=w.heap.size) rfl (.tmp 43) (.tmp 45) rfl ei_shape rfl (O8.out.below G9.out (Nat.le_refl _) (fun _ h=>h.elim)) 1 rfl (x1,x2,x3) gx.out.rep (by unfold maxLen;omega) (by omega) (by have:=G9.out.size;omega) (fun _ h=>h.elim) ?_;intro v' wz ownz gz atz))
    have bz:=(below_later G9.out (below_later G8.out HB.out)).grown gz (by have:=G9.out.size;omega) (fun j hj=>(O8.out.lt j hj).1)
    exact ⟨⟨k+1,out ++ [(x1,x2,x3)],by omega,by go_num,NX.out,ownz,bz⟩,by simp [intOf];omega⟩
   ·have t4:(xe != 0)=true:=by simpa using hxe
    rw [if_pos hxe] at NX
    have R:=zH (show r=([],(k:Int),xe) by rw [V2.out,runS_bad NX.out n (by omega)];rfl)
    clear hxe NG NX V2
    go_wp2_with (refine sB 24 (.tmp 10) (.tmp 37) w8.heap.size (sN x1 x2 x3) (Blk.now _ _ _ _ rfl) ?_;intro w9 B9 g9;have G9:=zH (show Below w8.heap.size w8 w9 from ((Below.refl _ _).alloc (Nat.le_refl _) _).grown g9 (by simp) (fun k h=>by have:=Option.some.inj h;omega));clear B9 g9)
    go_ret3
    rw [R.out]
    exact RetShapes.none (below_later G9.out (below_later G8.out HB.out))
  ·obtain rfl:k=n:=by omega
   have R:=zH (show r=(out,(k:Int),0) by rw [V2.out,HR.out];rfl)
   clear hlt hk V2
   go_wp2_with fail
   go_ret3
   rw [R.out]
   exact ⟨A1,_,c1,rfl,SL.out,HB.out⟩
end Go.Proofs.YtjkmjpjknmghlaaGreat
