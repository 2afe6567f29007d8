/-
  The shape of the next value (layer 27): next.
  The shapes of all values of nodes (layer 27), in numbers: node by node.
  What shapes that are right tell of a block's nodes (layer 27).
  The shapes of all values (layer 27): graph.Shapes.
  From where to where all rows go, and whether they hold (layer 32, the document's shared and rows).
  The frame of a law's proof: from a walk that ends in true and leaves all old memory as it was to the given statement's inner claim; each argument opened to data.
-/
import Derived.Test.YtppcjcigekoipaaGreatJ24
import Derived.Test.YtppcjcigekoipaaGreatJ28
set_option linter.unusedVariables false
set_option linter.unusedSimpArgs false
namespace Go.Proofs.YtppcjcigekoipaaGreat
open Go.RowKit Go.ChangeShapes Go.WideShapes
set_option maxRecDepth 100000
abbrev Sh3:=Int × Int × Int
theorem Sl.shape_at {w:World} {S:Nat → Prop} {A:Option Addr} {n cap:Nat} {l:List Sh3} (h:Sl tShape w S A n cap l) (i:Nat) (hi:i < n) :
  ∃ b off,A=some ⟨b,off,none⟩∧S b∧b < w.heap.size∧InK .i64 (l.getD i (0,0,0)).1∧InK .i64 (l.getD i (0,0,0)).2.1∧InK .i64 (l.getD i (0,0,0)).2.2∧l[i]?=some (l.getD i (0,0,0)) ∧
   w.rangeAt b (off+i*3) [.int .i64 (l.getD i (0,0,0)).1,.int .i64 (l.getD i (0,0,0)).2.1,.int .i64 (l.getD i (0,0,0)).2.2]:=by
 obtain ⟨x,b,off,xs,hx,hA,hS,hb,hr,hl,hc⟩:=h.cells i hi (by decide)
 obtain ⟨_,_,rfl,⟨rfl,h1⟩,_,_,rfl,⟨rfl,h2⟩,rfl,h3⟩:=hr
 have e:l.getD i (0,0,0)=x:=by rw [List.getD_eq_getElem?_getD,hx];rfl
 rw [e]
 refine ⟨b,off,hA,hS,hb,h1,h2,h3,hx,fun j v hv=>?_⟩
 have:=hc j v hv
 rwa [show tShape.size=3 from rfl,← Nat.add_assoc] at this
def nextV (d:Node) (l:List Sh3):ShE :=
 if checkV d ≠ 0 then noS (checkV d) else if thereV d l.length=false then noS 8
 else shapeV (l.getD d.a.toNat (0,0,0)).1 (l.getD d.a.toNat (0,0,0)).2.1 (l.getD d.a.toNat (0,0,0)).2.2 (l.getD (secondV d).toNat (0,0,0)).1 (l.getD (secondV d).toNat (0,0,0)).2.1 (l.getD (secondV d).toNat (0,0,0)).2.2 d
theorem check_kind {d:Node} (h:checkV d=0):1≤d.kind∧d.kind≤9:=by
 unfold checkV at h
 by_cases hk:kindOk d.kind
 ·exact hk
 ·rw [if_pos hk] at h;cases h
theorem there_bd {d:Node} {n:Int} (h:thereV d n=true):0≤d.a∧d.a < n∧0≤secondV d∧secondV d < n:=by
 unfold thereV at h
 unfold secondV
 simp only [Bool.and_eq_true,Bool.or_eq_true,decide_eq_true_eq] at h
 split <;> omega
set_option maxHeartbeats 16000000 in
theorem next_any (d:Node) (W:Option Addr) (nw cw:Nat) (B:Option Addr) (nb cb:Nat) (A:Option Addr) (n cap:Nat) (l:List Sh3) (w:World) (hd:NodeIn d) (hw:Sl (tInt .i8) w (blo w.heap.size) W nw cw d.w) (hb:Sl (tInt .i32) w (blo w.heap.size) B nb cb d.bias) (mw:nw≤1048576) (mb:nb≤1048576) (hs:Sl tShape w (blo w.heap.size) A n cap l) :
  Calls Tryz.prog 71 #[.agg (nN d.kind d.a d.b d.k d.s d.p d.out d.za d.zb W nw cw B nb cb d.qm d.qs d.qz d.rm d.rs d.rz d.lo d.hi),.slice A n cap] w fun e w'=>e=retS (nextV d l)∧Below w.heap.size w w':=by
 have hn:=hs.n_eq
 have hm:n≤9223372036854775807:=Nat.le_trans hs.cap_le hs.max_le
 obtain ⟨r,hr⟩:∃ r,nextV d l=r:=⟨_,rfl⟩
 rw [hr]
 unfold nextV at hr
 rw [hn] at hr
 have CK:=zH (fun (w':World) (hb':Below w.heap.size w w')=>kcheck_any d W nw cw B nb cb w' (hw.later hb' (Nat.le_refl _)) (hb.later hb' (Nat.le_refl _)) mw mb)
 have TH:=zH (fun w=>there_any d W nw cw B nb cb n w hd.a hd.b)
 have OF:=zH (fun w=>of_any d W nw cw B nb cb w hd.a hd.b)
 have HW:=zH hw.n_eq
 have HB:=zH hb.n_eq
 have HS:=zH hs
 have HD:=zH hd
 have KD:=zH (check_kind (d:=d))
 have TB:=zH (there_bd (d:=d) (n:=n))
 have VV:=zH hr.symm
 clear hr hw hb hs hd hn
 obtain ⟨ck,hck⟩:∃ x,checkV d=x:=⟨_,rfl⟩
 obtain ⟨th,hth⟩:∃ x,thereV d n=x:=⟨_,rfl⟩
 rw [hck] at CK KD VV
 rw [hth] at TH TB VV
 clear hck hth
 have FR:=zH (Far.refl w)
 obtain ⟨w1,hw_w1,BN,k_w1⟩:=nB w (nN d.kind d.a d.b d.k d.s d.p d.out d.za d.zb W nw cw B nb cb d.qm d.qs d.qz d.rm d.rs d.rz d.lo d.hi) 87
 replace FR:=zH (FR.out.fut k_w1)
 clear k_w1
 obtain ⟨w2,hw_w2,BR,k_w2⟩:=nB w1 (sN 0 0 0) 23
 replace FR:=zH (FR.out.fut k_w2)
 replace BN:=zH (BN.out.fut k_w2)
 clear k_w2
 have l1:w.heap.size < w1.heap.size:=by rw [← hw_w1];simp
 have l2:w1.heap.size < w2.heap.size:=by rw [← hw_w2];simp
 by_cases c1:ck=0
 rotate_left
 ·have t1:(ck != 0)=true:=by simpa using c1
  have R:=zH (show r=noS ck by rw [VV.out,if_pos c1])
  clear c1 VV
  go_enter Tryz.func71,Tryz.ntmps71
  go_wp2_with (refine lB 87 (.tmp 2) w.heap.size BN.out Tryz.underlying87 ?_)
  clear hw_w1 hw_w2
  refine (CK.out _ FR.out.out).mono ?_
  rintro e w3 ⟨rfl,hb⟩
  replace FR:=zH (FR.out.fut hb)
  replace BN:=zH (BN.out.fut hb)
  replace BR:=zH (BR.out.fut hb)
  clear hb
  go_wp2_with (refine sB 23 (.tmp 4) (.tmp 11) w1.heap.size (sN 0 0 0) BR.out ?_;intro w7 BR7 g7)
  refine rC BR7 Tryz.underlying23 ?_;exact ⟨by rw [R.out];rfl,(FR.out.away g7 (by omega)).out⟩
 subst c1
 have t1:((0:Int) != 0)=false:=rfl
 cases th with
 | false =>
  have R:=zH (show r=noS 8 by rw [VV.out,if_neg (by decide),if_pos rfl])
  clear VV
  go_enter Tryz.func71,Tryz.ntmps71
  go_wp2_with (refine lB 87 (.tmp 2) w.heap.size BN.out Tryz.underlying87 ?_)
  clear hw_w1 hw_w2
  refine (CK.out _ FR.out.out).mono ?_
  rintro e w3 ⟨rfl,hb⟩
  replace FR:=zH (FR.out.fut hb)
  replace BN:=zH (BN.out.fut hb)
  replace BR:=zH (BR.out.fut hb)
  clear hb
  go_wp2_with (refine lB 87 (.tmp 2) w.heap.size BN.out Tryz.underlying87 ?_)
  refine (TH.out _).mono ?_
  rintro e w4 ⟨rfl,hb⟩
  replace FR:=zH (FR.out.fut hb)
  replace BN:=zH (BN.out.fut hb)
  replace BR:=zH (BR.out.fut hb)
  clear hb
  go_wp2_with (refine sB 23 (.tmp 4) (.tmp 18) w1.heap.size (sN 0 0 0) BR.out ?_;intro w7 BR7 g7)
  refine rC BR7 Tryz.underlying23 ?_;exact ⟨by rw [R.out];rfl,(FR.out.away g7 (by omega)).out⟩
 | true =>
  obtain ⟨p1,p2,p3,p4⟩:=TB.out rfl
  have hk:=KD.out rfl
  obtain ⟨ia,hia⟩:∃ ia,d.a.toNat=ia:=⟨_,rfl⟩
  obtain ⟨ib,hib⟩:∃ ib,(secondV d).toNat=ib:=⟨_,rfl⟩
  obtain ⟨b0,off0,rfl,_,_,k1,k2,k3,_,q1⟩:=HS.out.shape_at ia (by omega)
  obtain ⟨b0',off0',e0,_,_,k4,k5,k6,_,q2⟩:=HS.out.shape_at ib (by omega)
  obtain ⟨rfl,rfl⟩:b0=b0'∧off0=off0':=by simpa using e0
  have V2:=zH (show r=shapeV (l.getD ia (0,0,0)).1 (l.getD ia (0,0,0)).2.1 (l.getD ia (0,0,0)).2.2 (l.getD ib (0,0,0)).1 (l.getD ib (0,0,0)).2.1 (l.getD ib (0,0,0)).2.2 d by rw [VV.out,if_neg (by decide),if_neg (by decide),hia,hib])
  obtain ⟨⟨x,y,z⟩,hx⟩:∃ s,l.getD ia (0,0,0)=s:=⟨_,rfl⟩
  obtain ⟨⟨x',y',z'⟩,hx'⟩:∃ s,l.getD ib (0,0,0)=s:=⟨_,rfl⟩
  rw [hx] at q1 k1 k2 k3 V2
  rw [hx'] at q2 k4 k5 k6 V2
  simp only at q1 q2 k1 k2 k3 k4 k5 k6 V2
  have Q1:=zH q1
  have Q2:=zH q2
  obtain ⟨sc,hsc⟩:∃ s,secondV d=s:=⟨_,rfl⟩
  rw [hsc] at p3 p4 OF hib
  have KS:=zH (fun w=>kshape_any x y z x' y' z' d W nw cw B nb cb w k1 k2 k3 HD.out.out HD.out.p HW.out.symm HB.out.symm mw mb hk)
  obtain ⟨⟨⟨x1,x2,x3⟩,xe⟩,hxx⟩:∃ s,shapeV x y z x' y' z' d=s:=⟨_,rfl⟩
  rw [hxx] at KS V2
  simp only [retS] at KS
  have R:=zH V2.out
  clear VV V2 hx hx' hxx hsc k1 k2 k3 k4 k5 k6 q1 q2 e0 hk KD TB HD
  go_enter Tryz.func71,Tryz.ntmps71
  go_wp2_with (refine lB 87 (.tmp 2) w.heap.size BN.out Tryz.underlying87 ?_)
  clear hw_w1 hw_w2
  refine (CK.out _ FR.out.out).mono ?_
  rintro e w3 ⟨rfl,hb⟩
  replace FR:=zH (FR.out.fut hb)
  replace BN:=zH (BN.out.fut hb)
  replace BR:=zH (BR.out.fut hb)
  clear hb
  go_wp2_with (refine lB 87 (.tmp 2) w.heap.size BN.out Tryz.underlying87 ?_)
  refine (TH.out _).mono ?_
  rintro e w4 ⟨rfl,hb⟩
  replace FR:=zH (FR.out.fut hb)
  replace BN:=zH (BN.out.fut hb)
  replace BR:=zH (BR.out.fut hb)
  clear hb
  clear CK TH
  go_wp2_with fail
  refine wp_region_held_drew (S:=fun w'=>w'.cell? ⟨w.heap.size,1,none⟩=some (.int .i64 d.a)∧Blk w' w.heap.size 87 (nN d.kind d.a d.b d.k d.s d.p d.out d.za d.zb W nw cw B nb cb d.qm d.qs d.qz d.rm d.rs d.rz d.lo d.hi)∧Below w.heap.size w w') (by kernel_rfl) ?_ (fun hS=>?_)
  ·exact ⟨BN.out.drew.cell 1,BN.out.drew,FR.out.out.drew⟩
  refine tkH 0 rfl (yieldsIf_load_blk (by rfl) 87 (.tmp 2) rfl w.heap.size 0 rfl _ _ (nN d.kind d.a d.b d.k d.s d.p d.out d.za d.zb W nw cw B nb cb d.qm d.qs d.qz d.rm d.rs d.rz d.lo d.hi) _ (fun w hs=>hs.2.1) Tryz.underlying87 rfl (by kernel_rfl) rfl) hS ?_
  try simp only [pX]
  refine kH 1 rfl hS ?_
  try simp only [pX]
  refine kH 2 rfl hS ?_
  try simp only [pX]
  refine kH 3 rfl hS ?_
  try simp only [pX]
  refine kH 4 rfl hS ?_
  try simp only [pX]
  refine tkH 5 rfl (yieldsIf_load_mid (by rfl) 23 (.tmp 23) rfl b0 (off0+ia*3) (by rw [← hia];rfl) _ _ (fun w hs j v hv=>cell_later hs.2.2 (Q1.out j v hv)) Tryz.underlying23 rfl (by kernel_rfl)) hS ?_
  try simp only [pX]
  refine kH 6 rfl hS ?_
  try simp only [pX]
  refine tkH 7 rfl (yieldsIf_load_blk (by rfl) 87 (.tmp 2) rfl w.heap.size 0 rfl _ _ (nN d.kind d.a d.b d.k d.s d.p d.out d.za d.zb W nw cw B nb cb d.qm d.qs d.qz d.rm d.rs d.rz d.lo d.hi) _ (fun w hs=>hs.2.1) Tryz.underlying87 rfl (by kernel_rfl) rfl) hS ?_
  try simp only [pX]
  refine rH 8 rfl (fun K hK=>?_)
  go_simp
  refine (OF.out _).mono ?_;rintro e w5 ⟨rfl,hb⟩;have BR5:=zH (BR.out.drew.later hb)
  refine hK.out _ _ ?_ (fun hS=>?_)
  ·exact ⟨(by first|exact cell_later hb hS.1|exact Blk.later hS.1 hb),(by first|exact cell_later hb hS.2.1|exact Blk.later hS.2.1 hb),below_later hb hS.2.2⟩
  clear hK K
  try simp only [pX]
  refine kH 9 rfl hS ?_
  try simp only [pX]
  refine tkH 10 rfl (yieldsIf_load_mid (by rfl) 23 (.tmp 28) rfl b0 (off0+ib*3) (by rw [← hib];rfl) _ _ (fun w hs j v hv=>cell_later hs.2.2 (Q2.out j v hv)) Tryz.underlying23 rfl (by kernel_rfl)) hS ?_
  try simp only [pX]
  refine rH 11 rfl (fun K hK=>?_)
  go_simp
  refine (KS.out _).mono ?_;rintro e w6 ⟨rfl,hb⟩;have BR6:=zH (BR5.out.later hb)
  refine hK.out _ _ ?_ (fun hS=>?_)
  ·exact ⟨(by first|exact cell_later hb hS.1|exact Blk.later hS.1 hb),(by first|exact cell_later hb hS.2.1|exact Blk.later hS.2.1 hb),below_later hb hS.2.2⟩
  clear hK K
  try simp only [pX]
  refine kH 12 rfl hS ?_
  try simp only [pX]
  refine kH 13 rfl hS ?_
  try simp only [pX]
  refine rH 14 rfl (fun K hK=>?_)
  (rw [if_pos (by rfl)];refine oper_store_blk 23 (.tmp 4) (.tmp 31) rfl w1.heap.size 0 (sN x1 x2 x3) rfl rfl _ (sN 0 0 0) (sN x1 x2 x3) BR6.out (by simp) (by kernel_rfl) (by simp [Value.oneCell']) rfl ?_;intro w7 BR7 g7;have BN7:=hS.2.1.away g7 (by omega);refine hK.out _ _ ⟨BN7.cell 1,BN7,hS.2.2.grown g7 hS.2.2.size (fun k h=>by have:=Option.some.inj h;omega)⟩ (fun hS=>?_))
  clear hK K
  try simp only [pX]
  refine kH 15 rfl hS ?_
  try simp only [pX]
  refine wpAnyH_done (by kernel_rfl) ?_ _
  have FZ:=hS.2.2
  go_wp2_with fail
  refine rC BR7 Tryz.underlying23 ?_;exact ⟨by rw [R.out];rfl,FZ⟩
structure GoodS (x:Sh3):Prop where
 h:1≤x.1∧x.1≤1024
 v:1≤x.2.1∧x.2.1≤1024
 c:1≤x.2.2∧x.2.2≤1024
theorem GoodS.of {h v c:Int} (e:¬ elems h v c=0):GoodS (h,v,c):=by
 have:=elems_bd e
 exact ⟨by simp only;omega,by simp only;omega,by simp only;omega⟩
theorem slideV_good {h v c k s p o:Int} (e:(slideV h v c k s p o).2=0):GoodS (slideV h v c k s p o).1:=by
 unfold slideV at *
 by_cases c1:elems h v c=0
 ·rw [if_pos c1] at e;cases e
 rw [if_neg c1] at e ⊢
 by_cases c2:(stepsV h k s p).2 ≠ 0
 ·rw [if_pos c2] at e;exact absurd e c2
 rw [if_neg c2] at e ⊢
 by_cases c3:(stepsV v k s p).2 ≠ 0
 ·rw [if_pos c3] at e;exact absurd e c3
 rw [if_neg c3] at e ⊢
 by_cases c4:elems (stepsV h k s p).1 (stepsV v k s p).1 o=0
 ·rw [if_pos c4] at e;cases e
 rw [if_neg c4]
 exact .of c4
theorem fitV_good {x:ShE} {want out:Int} {d:Node} (hx:x.2=0 → GoodS x.1) (e:(fitV x want out d).2=0):GoodS (fitV x want out d).1:=by
 unfold fitV at *
 by_cases c1:x.2 ≠ 0
 ·rw [if_pos c1] at e;exact absurd e c1
 rw [if_neg c1] at e ⊢
 by_cases c2:¬ (d.w.length:Int)=want ∨ 16384 < d.w.length ∨ ¬ (d.bias.length:Int)=out
 ·rw [if_pos c2] at e;cases e
 rw [if_neg c2] at e ⊢
 exact hx e
theorem denseV_good {h v c:Int} {d:Node} (e:(denseV h v c d).2=0):GoodS (denseV h v c d).1:=by
 unfold denseV at *
 by_cases c1:elems h v c=0 ∨ elems 1 1 d.out=0
 ·rw [if_pos c1] at e;cases e
 rw [if_neg c1] at e ⊢
 by_cases c2:¬ (d.w.length:Int)=d.out*elems h v c ∨ 16384 < d.w.length ∨ ¬ (d.bias.length:Int)=d.out
 ·rw [if_pos c2] at e;cases e
 rw [if_neg c2]
 exact .of (fun h=>c1 (.inr h))
theorem aroundV_good {h v c p:Int} (e:(aroundV h v c p).2=0):GoodS (aroundV h v c p).1:=by
 unfold aroundV at *
 by_cases c1:p < 0 ∨ 4 < p
 ·rw [if_pos c1] at e;cases e
 rw [if_neg c1] at e ⊢
 by_cases c2:elems (h+2*p) (v+2*p) c=0
 ·rw [if_pos c2] at e;cases e
 rw [if_neg c2]
 exact .of c2
theorem plainV_good {k h v c h2 v2 c2 p:Int} (e:(plainV k h v c h2 v2 c2 p).2=0):GoodS (plainV k h v c h2 v2 c2 p).1:=by
 unfold plainV at *
 by_cases c1:elems h v c=0
 ·rw [if_pos c1] at e;cases e
 rw [if_neg c1] at e ⊢
 by_cases q:k=6∧([h,v,c] == [h2,v2,c2])=false
 ·rw [if_pos q] at e;cases e
 rw [if_neg q] at e ⊢
 by_cases k8:k=8
 ·rw [if_pos k8] at e ⊢;exact aroundV_good e
 rw [if_neg k8] at e ⊢
 by_cases k9:k=9
 ·rw [if_pos k9]
  have:=elems_range h v c
  exact ⟨by simp only;omega,by simp only;omega,by simp only;omega⟩
 rw [if_neg k9]
 exact .of c1
theorem shapeV_good {h v c h2 v2 c2:Int} {d:Node} (e:(shapeV h v c h2 v2 c2 d).2=0):GoodS (shapeV h v c h2 v2 c2 d).1:=by
 unfold shapeV at *
 by_cases k1:d.kind=1
 ·rw [if_pos k1] at e ⊢;exact fitV_good slideV_good e
 rw [if_neg k1] at e ⊢
 by_cases k2:d.kind=2
 ·rw [if_pos k2] at e ⊢;exact fitV_good slideV_good e
 rw [if_neg k2] at e ⊢
 by_cases k3:d.kind=3
 ·rw [if_pos k3] at e ⊢;exact denseV_good e
 rw [if_neg k3] at e ⊢
 by_cases k4:d.kind=4 ∨ d.kind=5
 ·rw [if_pos k4] at e ⊢;exact slideV_good e
 rw [if_neg k4] at e ⊢
 exact plainV_good e
theorem nextV_good {d:Node} {l:List Sh3} (e:(nextV d l).2=0):GoodS (nextV d l).1:=by
 unfold nextV at *
 by_cases c1:checkV d ≠ 0
 ·rw [if_pos c1] at e;exact absurd e c1
 rw [if_neg c1] at e ⊢
 by_cases c2:thereV d l.length=false
 ·rw [if_pos c2] at e;cases e
 rw [if_neg c2] at e ⊢
 exact shapeV_good e
theorem GoodS.rep {w:World} {S:Nat → Prop} {x y z:Int} (h:GoodS (x,y,z)):tShape.rep w S [.int .i64 x,.int .i64 y,.int .i64 z] (x,y,z):=by
 have h1:=h.h
 have h2:=h.v
 have h3:=h.c
 simp only at h1 h2 h3
 exact ⟨_,_,rfl,⟨rfl,by rw [inK_i64];simp only;omega⟩,_,_,rfl,⟨rfl,by rw [inK_i64];simp only;omega⟩,rfl,by rw [inK_i64];simp only;omega⟩
inductive Run where
 | on (out:List Sh3)
 | bad (i:Nat) (e:Int)
def noNode:Node:=⟨0,0,0,0,0,0,0,0,0,[],[],0,0,0,0,0,0,0,0⟩
def runS (l:List Node) (s:Sh3):Nat → Run
 | 0=>.on [s]
 | k+1=>match runS l s k with
  | .on out=>if (nextV (l.getD k noNode) out).2 ≠ 0 then .bad k (nextV (l.getD k noNode) out).2 else .on (out ++ [(nextV (l.getD k noNode) out).1])
  | .bad i e=>.bad i e
def endS (n:Nat):Run → List Sh3 × Int × Int
 | .on out=>(out,(n:Int),0)
 | .bad i e=>([],(i:Int),e)
def shapesV (l:List Node) (s:Sh3):List Sh3 × Int × Int :=
 if elems s.1 s.2.1 s.2.2=0 then ([],-1,5) else if l.length=0 then ([],-1,12) else if 8 < l.length then ([],-1,4)
 else endS l.length (runS l s l.length)
theorem runS_bad {l : List Node} {s : Sh3} {k i : Nat} {e : Int} (h : runS l s k = .bad i e) : ∀ m, k ≤ m → runS l s m = .bad i e := by
  intro m hm
  induction m with
  | zero => obtain rfl : k = 0 := by omega
            exact h
  | succ m ih =>
    by_cases hk : k = m + 1
    · subst hk; exact h
    · have := ih (by omega)
      show (match runS l s m with | .on out => _ | .bad i e => _) = _
      rw [this]
theorem runS_next {l:List Node} {s:Sh3} {k:Nat} {out:List Sh3} {d:Node} (h:runS l s k=.on out) (hd:l[k]?=some d) :
  runS l s (k+1)=if (nextV d out).2 ≠ 0 then .bad k (nextV d out).2 else .on (out ++ [(nextV d out).1]):=by
 have e:l.getD k noNode=d:=by rw [List.getD_eq_getElem?_getD,hd];rfl
 show (match runS l s k with|.on out=>_|.bad i e=>_)=_
 rw [h]
 simp only [e]
end Go.Proofs.YtppcjcigekoipaaGreat
namespace Go.Proofs.YtppcjcigekoipaaGreat
theorem nextV_good' {d:Node} {l:List Sh3} (e:(nextV d l).2=0):thereV d l.length=true:=by
 unfold nextV at e
 by_cases c1:checkV d ≠ 0
 ·rw [if_pos c1] at e;exact absurd e c1
 rw [if_neg c1] at e
 by_cases c2:thereV d l.length=false
 ·rw [if_pos c2] at e;cases e
 simpa using c2
structure RunOk (l:List Node) (k:Nat) (out:List Sh3):Prop where
 len:out.length=k+1
 there:∀ i,i < k → thereV (l.getD i noNode) ((i:Int)+1)=true
theorem runS_ok {l:List Node} {s:Sh3} (k:Nat):∀ {out:List Sh3},runS l s k=.on out → RunOk l k out:=by
 induction k with
 | zero=>intro out h;cases h;exact ⟨rfl,fun i hi=>absurd hi (Nat.not_lt_zero _)⟩
 | succ k ih =>
  intro out h
  unfold runS at h
  cases hr:runS l s k with
  | bad i e=>rw [hr] at h;cases h
  | on o =>
   rw [hr] at h
   have hk:=ih hr
   simp only at h
   by_cases c:(nextV (l.getD k noNode) o).2=0
   ·rw [if_neg (by simpa using c)] at h
    cases h
    have ht:=nextV_good' c
    refine ⟨by simp [hk.len],fun i hi=>?_⟩
    by_cases hik:i < k
    ·exact hk.there i hik
    ·obtain rfl:i=k:=by omega
     rw [hk.len] at ht
     simpa using ht
   ·rw [if_pos c] at h;cases h
theorem runS_err {l:List Node} {s:Sh3} (k:Nat):∀ {i:Nat} {e:Int},runS l s k=.bad i e → e ≠ 0:=by
 induction k with
 | zero=>intro i e h;cases h
 | succ k ih =>
  intro i e h
  unfold runS at h
  cases hr:runS l s k with
  | bad i' e'=>rw [hr] at h;cases h;exact ih hr
  | on o =>
   rw [hr] at h
   simp only at h
   by_cases c:(nextV (l.getD k noNode) o).2=0
   ·rw [if_neg (by simpa using c)] at h;cases h
   ·rw [if_pos c] at h;cases h;exact c
structure ShapesOk (l:List Node) (s:Sh3) (sl:List Sh3) (p:Int):Prop where
 len:sl.length=l.length+1
 at_:p=(l.length:Int)
 few:l.length≤8
 there:∀ i,i < l.length → thereV (l.getD i noNode) ((i:Int)+1)=true
theorem shapesV_ok {l:List Node} {s:Sh3} {sl:List Sh3} {p:Int} (h:shapesV l s=(sl,p,0)):ShapesOk l s sl p:=by
 unfold shapesV at h
 by_cases c1:elems s.1 s.2.1 s.2.2=0
 ·rw [if_pos c1] at h;simp at h
 rw [if_neg c1] at h
 by_cases c2:l.length=0
 ·rw [if_pos c2] at h;simp at h
 rw [if_neg c2] at h
 by_cases c3:8 < l.length
 ·rw [if_pos c3] at h;simp at h
 rw [if_neg c3] at h
 cases hr:runS l s l.length with
 | on out =>
  rw [hr] at h
  simp only [endS,Prod.mk.injEq] at h
  obtain ⟨rfl,rfl,_⟩:=h
  have:=runS_ok _ hr
  exact ⟨this.len,rfl,by omega,this.there⟩
 | bad i e =>
  rw [hr] at h
  simp only [endS,Prod.mk.injEq] at h
  exact absurd h.2.2 (runS_err _ hr)
end Go.Proofs.YtppcjcigekoipaaGreat
namespace Go.Proofs.YtppcjcigekoipaaGreat
open Go.RowKit Go.ChangeShapes Go.WideShapes
set_option maxRecDepth 100000
theorem tNode_size:tNode.size=19:=rfl
theorem Sl.node_at {w:World} {S:Nat → Prop} {A:Option Addr} {n cap:Nat} {l:List Node} (h:Sl tNode w S A n cap l) (i:Nat) (hi:i < n) :
  ∃ d b off W nw cw B nb cb,l[i]?=some d∧A=some ⟨b,off,none⟩∧S b∧b < w.heap.size∧NodeIn d∧Sl (tInt .i8) w S W nw cw d.w∧Sl (tInt .i32) w S B nb cb d.bias∧w.rangeAt b (off+i*19) [.int .i64 d.kind,.int .i64 d.a,.int .i64 d.b,.int .i64 d.k,.int .i64 d.s,.int .i64 d.p,.int .i64 d.out,.int .i8 d.za,.int .i8 d.zb,.slice W nw cw,.slice B nb cb,.int .i32 d.qm,.int .i64 d.qs,.int .i8 d.qz,.int .i32 d.rm,.int .i64 d.rs,.int .i8 d.rz,.int .i8 d.lo,.int .i8 d.hi]:=by
 obtain ⟨d,b,off,xs,hx,hA,hS,hb,hr,hl,hc⟩:=h.cells i hi (by decide)
 obtain ⟨W,nw,cw,B,nb,cb,rfl,hd,h1,h2⟩:=node_open hr
 rw [tNode_size] at hc
 exact ⟨d,b,off,W,nw,cw,B,nb,cb,hx,hA,hS,hb,hd,h1,h2,fun j v hv=>by have:=hc j v hv;rwa [← Nat.add_assoc] at this⟩
theorem ei_shape:EI Tryz.prog 71 23 (.agg (sN 0 0 0)) 3 24:=⟨Tryz.underlying71,by kernel_rfl,rfl,by decide⟩
theorem Own.one {α:Type} {t:Ty α} {W:World} {S:Nat → Prop} {E:TypeId} {base:Nat} {cs:Array Value} {x:α} (hb:base≤W.heap.size) (hr:t.rep (W.alloc (.cells cs E)) S cs.toList x) :
  Own t (W.alloc (.cells cs E)) S base E (.slice (some ⟨W.heap.size,0,none⟩) 1 1) 1 [x] :=
 have hl:=t.len hr
 ⟨cs.toList,⟨by simp [hl],.inr ⟨_,1,cs,rfl,hb,heap_alloc_new _ _,Nat.le_refl _,by decide,by simpa using hl,by rw [List.take_of_length_le (by omega)]⟩⟩,RowsOf.one hr⟩
def RetShapes (x:List Sh3 × Int × Int) (w:World) (e:Ending) (w':World):Prop :=
 ∃ A m cap,e=.returned (.tuple #[.slice A m cap,.int .i64 x.2.1,.int .i64 x.2.2])∧Sl tShape w' (bin w.heap.size w'.heap.size) A m cap x.1∧Below w.heap.size w w'
theorem RetShapes.none {i e:Int} {w w':World} (hb:Below w.heap.size w w'):RetShapes ([],i,e) w (.returned (.tuple #[.slice none 0 0,.int .i64 i,.int .i64 e])) w' :=
 ⟨Option.none,0,0,rfl,Sl.nil _ _ _,hb⟩
set_option maxHeartbeats 16000000 in
theorem shapes_any (A:Option Addr) (n cap:Nat) (l:List Node) (h v c:Int) (w:World) (hs:Sl tNode w (blo w.heap.size) A n cap l) (i0:InK .i64 h) (i1:InK .i64 v) (i2:InK .i64 c) (hf:∀ d ∈ l,d.w.length≤1000∧d.bias.length≤100) :
  Calls Tryz.prog 43 #[.slice A n cap,.agg (sN h v c)] w (RetShapes (shapesV l (h,v,c)) w):=by
 have hn:=hs.n_eq
 obtain ⟨r,hr⟩:∃ r,shapesV l (h,v,c)=r:=⟨_,rfl⟩
 rw [hr]
 unfold shapesV at hr
 simp only [hn] at hr
 have RI:=zH (fun w=>shapeRight_any h c v w i0 i1 i2)
 have m0:=(elems_range h v c).1
 have GS:=zH (GoodS.of (h:=h) (v:=v) (c:=c))
 obtain ⟨m,hm⟩:∃ m,elems h v c=m:=⟨_,rfl⟩
 rw [hm] at hr RI m0 GS
 have VV:=zH hr.symm
 have H:=zH hs
 have HF:=zH hf
 have hmax:n≤9223372036854775807:=Nat.le_trans hs.cap_le hs.max_le
 clear hr hm hs hf i0 i1 i2 hn
 have FR:=zH (Far.refl w)
 obtain ⟨w1,hw_w1,BA,k_w1⟩:=nB w (sN h v c) 23
 replace FR:=zH (FR.out.fut k_w1)
 clear k_w1
 have l1:w.heap.size < w1.heap.size:=by rw [← hw_w1];simp
 by_cases c1:m=0
 ·have t1:decide (0 < m)=false:=by simp;omega
  have R:=zH (show r=([],-1,5) by rw [VV.out,if_pos c1])
  clear c1 VV
  go_enter Tryz.func43,Tryz.ntmps43
  go_wp2_with (refine lB 23 (.tmp 3) w.heap.size BA.out Tryz.underlying23 ?_)
  clear hw_w1
  refine (RI.out _).mono ?_
  rintro e w2 ⟨rfl,hb⟩
  replace FR:=zH (FR.out.fut hb)
  replace BA:=zH (BA.out.fut hb)
  clear hb
  go_wp2_with fail
  go_ret3
  rw [R.out]
  exact RetShapes.none FR.out.out
 have t1:decide (0 < m)=true:=by simp;omega
 have good:=zH (GS.out c1)
 by_cases c2:n=0
 ·have t2:((n:Int) == 0)=true:=by simp;omega
  have R:=zH (show r=([],-1,12) by rw [VV.out,if_neg c1,if_pos c2])
  clear c1 c2 VV
  go_enter Tryz.func43,Tryz.ntmps43
  go_wp2_with (refine lB 23 (.tmp 3) w.heap.size BA.out Tryz.underlying23 ?_)
  clear hw_w1
  refine (RI.out _).mono ?_
  rintro e w2 ⟨rfl,hb⟩
  replace FR:=zH (FR.out.fut hb)
  replace BA:=zH (BA.out.fut hb)
  clear hb
  go_wp2_with fail
  go_ret3
  rw [R.out]
  exact RetShapes.none FR.out.out
 have t2:((n:Int) == 0)=false:=by simp;omega
 by_cases c3:8 < n
 ·have t3:decide (8 < (n:Int))=true:=by simp;omega
  have R:=zH (show r=([],-1,4) by rw [VV.out,if_neg c1,if_neg c2,if_pos c3])
  clear c1 c2 c3 VV
  go_enter Tryz.func43,Tryz.ntmps43
  go_wp2_with (refine lB 23 (.tmp 3) w.heap.size BA.out Tryz.underlying23 ?_)
  clear hw_w1
  refine (RI.out _).mono ?_
  rintro e w2 ⟨rfl,hb⟩
  replace FR:=zH (FR.out.fut hb)
  replace BA:=zH (BA.out.fut hb)
  clear hb
  go_wp2_with fail
  go_ret3
  rw [R.out]
  exact RetShapes.none FR.out.out
 have t3:decide (8 < (n:Int))=false:=by simp;omega
 have hn8:n≤8:=by omega
 have V2:=zH (show r=endS n (runS l (h,v,c) n) by rw [VV.out,if_neg c1,if_neg c2,if_neg c3])
 clear c1 c2 c3 VV GS
 go_enter Tryz.func43,Tryz.ntmps43
 go_wp2_with (refine lB 23 (.tmp 3) w.heap.size BA.out Tryz.underlying23 ?_)
 clear hw_w1
 refine (RI.out _).mono ?_
 rintro e w2 ⟨rfl,hb⟩
 replace FR:=zH (FR.out.fut hb)
 replace BA:=zH (BA.out.fut hb)
 clear hb
 clear RI
 go_wp2_with (first
  | (refine lB 23 (.tmp 3) w.heap.size BA.out Tryz.underlying23 ?_)
  | (refine wpList_lit1 rfl (.tmp 24) rfl ei_shape (sN h v c) rfl rfl (by decide) ?_))
 have z2:=FR.out.size
 go_loopw [7,28] (fun u i wr=>∃ (k:Nat) (out:List Sh3),k≤n∧i=.int .i64 k∧runS l (h,v,c) k=.on out∧Own tShape wr (fun _=>False) w.heap.size 23 u (k+1) out∧Below w.heap.size w wr) (fun _ i _=>n - (intOf i).toNat)
 case atStart=>exact ⟨0,[(h,v,c)],Nat.zero_le _,rfl,rfl,Own.one z2 good.out.rep,FR.out.out.alloc z2 _⟩
 case round =>
  clear FR BA z2 t1 t2 t3
  obtain ⟨k,out,hk,rfl,hrun,hown,hb⟩:=hrel
  have HB:=zH hb
  have ON:=zH hown
  have HR:=zH hrun
  obtain ⟨A1,c1,rfl,sl⟩:=hown.sl (S':=bin w.heap.size wr.heap.size) (by decide) (fun b h1 h2=>⟨h1,h2⟩) (fun _ h=>h.elim)
  have SL:=zH sl
  clear hb hown hrun sl
  by_cases hlt:k < n
  ·have p1:(k:Int) < (n:Int):=by omega
   obtain ⟨d,b0,off,W,nw,cw,B,nb,cb,hd,rfl,_,_,hin,hw8,hw32,hrg⟩:=(H.out.below HB.out (fun _ h=>h)).node_at k hlt
   have hsz:=HF.out d (List.mem_of_getElem? hd)
   have hnx:=runS_next HR.out hd
   have q8:=hw8.n_eq
   have q32:=hw32.n_eq
   have RG:=zH hrg
   have HIN:=zH hin
   have HW:=zH (hw8.more (blo_more HB.out.size))
   have HW32:=zH (hw32.more (blo_more HB.out.size))
   have NG:=zH (nextV_good (d:=d) (l:=out))
   obtain ⟨⟨⟨x1,x2,x3⟩,xe⟩,hx⟩:∃ x,nextV d out=x:=⟨_,rfl⟩
   rw [hx] at hnx NG
   simp only at hnx
   have NX:=zH hnx
   have HX:=zH hx
   clear hd hin hw8 hw32 hrg hnx hx
   have zr:=HB.out.size
   go_wp2_with (first
    | (refine wpList_load_mid rfl 87 (.tmp 31) rfl b0 (off+k*19) rfl _ _ RG.out Tryz.underlying87 rfl (by kernel_rfl) ?_)
    | (refine sB 87 (.tmp 9) (.tmp 32) wr.heap.size (nN d.kind d.a d.b d.k d.s d.p d.out d.za d.zb W nw cw B nb cb d.qm d.qs d.qz d.rm d.rs d.rz d.lo d.hi) (Blk.now _ _ _ _ rfl) ?_;intro w7 B7 g7;have G7:=zH (show Below wr.heap.size wr w7 from ((Below.refl _ _).alloc (Nat.le_refl _) _).grown g7 (by simp) (fun k h=>by have:=Option.some.inj h;omega));have BD:=zH B7;clear B7 g7)
    | (refine lB 87 (.tmp 9) wr.heap.size BD.out Tryz.underlying87 ?_))
   have z7:=G7.out.size
   refine (next_any d W nw cw B nb cb A1 (k+1) c1 out w7 HIN.out (HW.out.later G7.out (Nat.le_refl _)) (HW32.out.later G7.out (Nat.le_refl _)) (by omega) (by omega) ((SL.out.more bin_blo).later G7.out (Nat.le_refl _))).mono ?_
   rintro e w8 ⟨he,hb⟩
   rw [HX.out] at he
   simp only [retS] at he
   subst he
   have G8:=zH (below_later hb G7.out)
   have O8:=zH ((ON.out.below G7.out (Nat.le_refl _) (fun _ h=>h.elim)).below hb (Nat.le_refl _) (fun _ h=>h.elim))
   have z8:=hb.size
   clear hb HX
   by_cases hxe:xe=0
   ·subst hxe
    have t4:((0:Int) != 0)=false:=rfl
    have gx:=zH (NG.out rfl)
    rw [if_neg (by decide)] at NX
    clear NG
    go_wp2_with (first
     | (refine sB 23 (.tmp 10) (.tmp 37) w8.heap.size (sN x1 x2 x3) (Blk.now _ _ _ _ rfl) ?_;intro w9 B9 g9;have G9:=zH (show Below w8.heap.size w8 w9 from ((Below.refl _ _).alloc (Nat.le_refl _) _).grown g9 (by simp) (fun k h=>by have:=Option.some.inj h;omega));have BX:=zH B9;clear B9 g9)
     | (refine lB 23 (.tmp 10) w8.heap.size BX.out Tryz.underlying23 ?_)
     | (refine wpList_lit1 rfl (.tmp 44) rfl ei_shape (sN x1 x2 x3) rfl rfl (by decide) ?_)
     | (at_builtin;refine wpList_push (W:=w9) (cs:=(sN x1 x2 x3)) (E:=23) (t:=tShape) (S:=fun _=>False) (base:=w.heap.size) rfl (.tmp 43) (.tmp 45) rfl ei_shape rfl (O8.out.below G9.out (Nat.le_refl _) (fun _ h=>h.elim)) 1 rfl (x1,x2,x3) gx.out.rep (by unfold maxLen;omega) (by omega) (by have:=G9.out.size;omega) (fun _ h=>h.elim) ?_;intro v' wz ownz gz atz))
    have bz:=(below_later G9.out (below_later G8.out HB.out)).grown gz (by have:=G9.out.size;omega) (fun j hj=>(O8.out.lt j hj).1)
    exact ⟨⟨k+1,out ++ [(x1,x2,x3)],by omega,by go_num,NX.out,ownz,bz⟩,by simp [intOf];omega⟩
   ·have t4:(xe != 0)=true:=by simpa using hxe
    rw [if_pos hxe] at NX
    have R:=zH (show r=([],(k:Int),xe) by rw [V2.out,runS_bad NX.out n (by omega)];rfl)
    clear hxe NG NX V2
    go_wp2_with (refine sB 23 (.tmp 10) (.tmp 37) w8.heap.size (sN x1 x2 x3) (Blk.now _ _ _ _ rfl) ?_;intro w9 B9 g9;have G9:=zH (show Below w8.heap.size w8 w9 from ((Below.refl _ _).alloc (Nat.le_refl _) _).grown g9 (by simp) (fun k h=>by have:=Option.some.inj h;omega));clear B9 g9)
    go_ret3
    rw [R.out]
    exact RetShapes.none (below_later G9.out (below_later G8.out HB.out))
  ·obtain rfl:k=n:=by omega
   have R:=zH (show r=(out,(k:Int),0) by rw [V2.out,HR.out];rfl)
   clear hlt hk V2
   go_wp2_with fail
   go_ret3
   rw [R.out]
   exact ⟨A1,_,c1,rfl,SL.out,HB.out⟩
set_option maxHeartbeats 4000000
theorem rshared_any (W:Option Addr) (nw cw:Nat) (B:Option Addr) (nb cb:Nat) (w:World) (mw:nw≤maxLen) (mb:nb≤maxLen) :
  Calls Tryz.prog 74 #[.slice W nw cw,.slice B nb cb] w fun e w'=>e=.returned (.bool (decide (0 < nb) && decide (nw % nb=0)))∧Below w.heap.size w w':=by
 unfold maxLen at mw mb
 by_cases h0:nb=0
 ·subst h0
  go_enter Tryz.func74,Tryz.ntmps74
  go_wp2_with fail
  go_ret
  exact ⟨rfl,Below.refl _ _⟩
 have z0:(nb:Int) ≠ 0:=by omega
 have t0:decide ((0:Int) < (nb:Int))=true:=by simp;omega
 have t0':decide (0 < nb)=true:=by simp;omega
 obtain ⟨rm,hrm⟩:∃ x,nw % nb=x:=⟨_,rfl⟩
 have r1:(nw:Int).tmod (nb:Int)=(rm:Int):=by rw [← hrm,Int.tmod_eq_emod_of_nonneg (by omega)];simp
 have hrmb:rm < nb:=by rw [← hrm];exact Nat.mod_lt _ (by omega)
 have r2:IntKind.i64.wrap (rm:Int)=(rm:Int):=IntWalk.i64_in _ (by omega)
 have RT:=zH (show (decide (0 < nb) && decide (nw % nb=0))=((rm:Int) == 0) by rw [t0',hrm,Bool.true_and,Bool.eq_iff_iff];simp)
 clear hrm t0'
 go_enter Tryz.func74,Tryz.ntmps74
 go_wp2_with fail
 go_ret
 rw [RT.out]
 exact ⟨rfl,Below.refl _ _⟩
def runB (L:List (Int × Int)) (k:Nat):Int × Int:=if k=0 then (0,0) else bothF (L.take k) (L.getD 0 (0,0))
theorem runB_one {L:List (Int × Int)} {r:Int × Int} (h:L[0]?=some r):runB L 1=r:=by
 have h1:L.take 1=[r]:=by cases L with|nil=>cases h|cons x l=>injection h with h;subst h;rfl
 have h2:L.getD 0 (0,0)=r:=by rw [List.getD_eq_getElem?_getD,h];rfl
 unfold runB
 rw [if_neg (by decide),h1,h2]
 show (min r.1 r.1,max r.2 r.2)=r
 obtain ⟨a,b⟩:=r
 simp only
 congr 1 <;> omega
theorem runB_next {L:List (Int × Int)} {k:Nat} {r:Int × Int} (h:L[k]?=some r) (hk:k ≠ 0):runB L (k+1)=(min (runB L k).1 r.1,max (runB L k).2 r.2):=by
 unfold runB
 rw [if_neg (by omega),if_neg hk,take_snoc L k r h,bothF_snoc]
theorem runB_all {L:List (Int × Int)} {n:Nat} (h:L.length=n) (h0:n ≠ 0):runB L n=bothR L:=by
 unfold runB bothR
 rw [if_neg h0,List.take_of_length_le (by omega)]
theorem rrows_any (W:Option Addr) (nw cw:Nat) (wl:List Int) (B:Option Addr) (nb cb:Nat) (bl:List Int) (lo hi z:Int) (gaps:Bool) (w:World) (hw:Sl (tInt .i8) w (blo w.heap.size) W nw cw wl) (hb:Sl (tInt .i32) w (blo w.heap.size) B nb cb bl)
  (hz:InK .i8 z) (hlo:InK .i8 lo) (hhi:InK .i8 hi) (mw:nw≤16384) (mb:nb≤16384) (hw1:1≤nw) (h0:nb ≠ 0) (hrm:nw % nb=0) :
  Calls Tryz.prog 75 #[.slice W nw cw,.slice B nb cb,.int .i8 lo,.int .i8 hi,.int .i8 z,.bool gaps] w fun e w'=>e=.returned (.tuple #[.int .i64 (bothR (allR wl bl lo hi z gaps)).1,.int .i64 (bothR (allR wl bl lo hi z gaps)).2,.bool (holdsR (allR wl bl lo hi z gaps))])∧Below w.heap.size w w':=by
 have HB:=zH (Old.now hb)
 have HW:=zH (Old.now hw)
 have NB:=hb.n_eq
 have NW:=hw.n_eq
 have FR:=zH (Far.refl w)
 have z0:(nb:Int) ≠ 0:=by omega
 obtain ⟨E,hE⟩:∃ x,nw / nb=x:=⟨_,rfl⟩
 have q1:(nw:Int).tdiv (nb:Int)=(E:Int):=by rw [← hE];exact Int.tdiv_eq_ediv_of_nonneg (by omega)
 have q2:(nw:Int) / (nb:Int)=(E:Int):=by rw [← hE];simp
 have hE1:1≤E:=by rw [← hE];exact Nat.div_pos (Nat.le_of_dvd hw1 (Nat.dvd_of_mod_eq_zero hrm)) (by omega)
 have hEn:E≤nw:=by rw [← hE];exact Nat.div_le_self _ _
 have q3:IntKind.i64.wrap (E:Int)=(E:Int):=IntWalk.i64_in _ (by omega)
 have AL:=zH (allR_range (lo:=lo) (hi:=hi) (z:=z) (gaps:=gaps) (show ¬ bl.length=0 by rw [NB];exact h0) (show wl.length % bl.length=0 by rw [NW,NB];exact hrm))
 rw [NB,NW,hE] at AL
 have RL:=zH (fun o (ho:o < nb)=>rowL_len (w:=wl) (nb:=nb) (o:=o) (by rw [NW];exact hrm) ho)
 rw [NW,hE] at RL
 obtain ⟨L,hL⟩:∃ L,allR wl bl lo hi z gaps=L:=⟨_,rfl⟩
 rw [hL] at AL
 have LN:=zH (show L.length=nb by rw [AL.out];simp)
 have RA:=zH (runB_all LN.out h0)
 have HO:=zH (holdsR_both L)
 obtain ⟨bw,ow,hA,-,-,-,-⟩:=hw.int_at 0 (by omega)
 subst hA
 have HZ:=zH hz
 have HLO:=zH hlo
 have HHI:=zH hhi
 have cwm:nw≤cw:=hw.cap_le
 have cwm2:cw≤9223372036854775807:=hw.max_le
 rw [hL]
 clear hw hb NB NW hrm hE hz hlo hhi hL
 go_enter Tryz.func75,Tryz.ntmps75
 go_wp2_with fail
 go_loopw [15,16,18] (fun u v ii wr=>∃ k:Nat,k≤nb∧ii=.int .i64 k∧u=.int .i64 (runB L k).1∧v=.int .i64 (runB L k).2∧Below w.heap.size w wr) (fun _ _ ii _=>nb - (intOf ii).toNat)
 case atStart=>exact ⟨0,Nat.zero_le _,rfl,rfl,rfl,FR.out.out⟩
 case round =>
  obtain ⟨k,hk,rfl,rfl,rfl,hg⟩:=hrel
  replace HB:=zH (HB.out.fut hg)
  replace HW:=zH (HW.out.fut hg)
  replace FR:=zH (FR.out.fut hg)
  clear hg
  by_cases hlt:k < nb
  ·have p1:(k:Int) < (nb:Int):=by omega
   obtain ⟨bz,oz,rfl,-,-,cx,ix⟩:=HB.out.out.int_at k hlt
   obtain ⟨v1,v2⟩:=RL.out k hlt
   obtain ⟨p,hp⟩:∃ p:Nat,k*E=p:=⟨_,rfl⟩
   have hpi:(k:Int)*(E:Int)=(p:Int):=by rw [← hp];simp
   have hpj:((k:Int)+1)*(E:Int)=(p:Int)+(E:Int):=by rw [Int.add_mul,hpi];simp
   rw [hp] at v2
   have f1:IntKind.i64.wrap ((k:Int)*(E:Int))=(p:Int):=by rw [hpi];exact IntWalk.i64_in _ (by omega)
   have f2:IntKind.i64.wrap ((k:Int)+1)=(k:Int)+1:=IntWalk.i64_in _ (by omega)
   obtain ⟨p2,hp2⟩:∃ x:Nat,p+E=x:=⟨_,rfl⟩
   have f3:IntKind.i64.wrap (((k:Int)+1)*(E:Int))=(p2:Int):=by rw [hpj,← hp2];exact (IntWalk.i64_in _ (by omega)).trans (by simp)
   have s1:p≤p2:=by omega
   have s2:p2≤cw:=by omega
   have s3:p2 - p=E:=by omega
   have s4:¬ cw=p:=by omega
   have ia:InK .i32 (bl.getD k 0):=ix
   have LK:=zH (show L[k]?=some (rowR (bl.getD k 0) lo hi z gaps (rowL wl E k)) by rw [AL.out,List.getElem?_map,List.getElem?_range hlt];rfl)
   obtain ⟨x,hx⟩:∃ x,bl.getD k 0=x:=⟨_,rfl⟩
   rw [hx] at cx ia LK
   have RW:=zH (fun w' (hs':Sl (tInt .i8) w' (blo w'.heap.size) (some ⟨bw,ow,none⟩) nw cw wl)=>rspanRow_any (some ⟨bw,ow+p,none⟩) E (cw - p) (rowL wl E k) x lo hi z gaps w' (by unfold rowL;rw [hp];exact hs'.sub p E p (cw - p) (by simp [tInt]) (by omega) (by omega) (by omega)) (by omega) ia HLO.out HHI.out HZ.out)
   obtain ⟨⟨y1,y2⟩,hy⟩:∃ r,rowR x lo hi z gaps (rowL wl E k)=r:=⟨_,rfl⟩
   rw [hy] at RW LK
   simp only at RW
   have E1:=zH (fun q:Ext wr=>calls_ext q (RW.out q.1 (HW.out.all.later q.2 (Nat.le_refl _))))
   have C1:∀ q:Ext wr,q.1.cell? ⟨bz,oz+k,none⟩=some (.int .i32 x):=fun q=>ext_cell cx q
   clear ix hx hy hpi hpj v1 hp2 v2 RW cx
   go_upto_region 6 with fail
   (try simp only [Act.put])
   refine wp_region_ext wr (by kernel_rfl) (by kernel_rfl) (Below.refl _ _) ?_
   repeat (go_big_quiet_step (exact E1.out _))
   refine wpQuiet_nil ?_
   rintro _ ⟨⟨wa,hba⟩,rfl⟩
   have FA:=zH (FR.out.fut hba)
   clear hba C1 E1
   by_cases hk0:k=0
   ·have NX:=zH (show runB L (k+1)=(y1,y2) by subst hk0;exact runB_one LK.out)
    have t1:((k:Int) == 0)=true:=by simp [hk0]
    have m1:(if y1 < y1 then y1 else y1)=y1:=by simp
    have m2:(if y2 < y2 then y2 else y2)=y2:=by simp
    clear hk0
    go_wp2_with fail
    exact ⟨⟨k+1,by omega,by go_num,by rw [NX.out],by rw [NX.out],FA.out.out⟩,by simp [intOf];omega⟩
   ·have NX:=zH (runB_next LK.out hk0)
    have t1:((k:Int) == 0)=false:=by simp [hk0]
    obtain ⟨⟨a,b⟩,hab⟩:∃ r,runB L k=r:=⟨_,rfl⟩
    rw [hab] at NX
    simp only [hab] at NX ⊢
    obtain ⟨a',ha'⟩:∃ r,min a y1=r:=⟨_,rfl⟩
    obtain ⟨b',hb'⟩:∃ r,max b y2=r:=⟨_,rfl⟩
    have m1:(if y1 < a then y1 else a)=a':=by rw [mnI,ha']
    have m2:(if b < y2 then y2 else b)=b':=by rw [mxI,hb']
    rw [ha',hb'] at NX
    clear hab ha' hb'
    go_wp2_with fail
    exact ⟨⟨k+1,by omega,by go_num,by rw [NX.out],by rw [NX.out],FA.out.out⟩,by simp [intOf];omega⟩
  ·obtain rfl:k=nb:=by omega
   rw [RA.out]
   obtain ⟨⟨a,b⟩,hab⟩:∃ r,bothR L=r:=⟨_,rfl⟩
   rw [hab] at HO
   simp only [hab] at HO ⊢
   have RB:=zH hab
   clear hab RA
   by_cases ha:-2147483648≤a
   ·have t1:decide (-2147483648≤a)=true:=by simpa using ha
    go_wp2_with fail
    go_ret3
    refine ⟨?_,FR.out.out⟩
    rw [RB.out,HO.out,t1];rfl
   ·have t1:decide (-2147483648≤a)=false:=by simpa using ha
    go_wp2_with fail
    go_ret3
    refine ⟨?_,FR.out.out⟩
    rw [RB.out,HO.out,t1];rfl
end Go.Proofs.YtppcjcigekoipaaGreat
namespace Go.Proofs.YtppcjcigekoipaaGreat
open Go.RowKit Go.ChangeShapes Go.WideShapes Go.Deep Go.ChangeAt
section
variable {H:Type} {enc:TypeId × Value → H} {P:Program}
theorem trodAll_below (hl:laidOutB P=true) {W W':World} (hb:Below W.heap.size W W'):∀ {ts:List TypeId} {vs:List Value} {ds:List (DataW H)} {p:List MemPlace},
  (ts.all fun t=>P.readableRec t && decide (t < P.types.size))=true → DataW.TrodAll enc P W 0 (fun _=>true) true ts vs ds p → (∀ x ∈ p,x.block < W.heap.size) →
  DataW.TrodAll enc P W' 0 (fun b=>decide (b < W.heap.size)) true ts vs ds p
 | [],vs,ds,p,_,h,_=>by obtain ⟨rfl,rfl,rfl⟩:=trodAll_nil h;exact trodAll_mk0
 | t :: ts,vs,ds,p,ht,h,hlt=>by
  obtain ⟨v,vs',d,ds',p1,q1,rfl,rfl,rfl,h1,h2⟩:=trodAll_cons h
  simp only [List.all_cons,Bool.and_eq_true,decide_eq_true_eq] at ht
  exact ⟨p1,q1,Below.trod hl ht.1.1 ht.1.2 h1 hb (fun x hx=>hlt x (by simp [hx])),trodAll_below hl hb (by simpa using ht.2) h2 (fun x hx=>hlt x (by simp [hx])),rfl⟩
theorem trodAll_length:∀ {w:World} {base:Nat} {spare:Nat → Bool} {held:Bool} {ts:List TypeId} {vs:List Value} {ds:List (DataW H)} {p:List MemPlace},DataW.TrodAll enc P w base spare held ts vs ds p → vs.length=ts.length∧ds.length=ts.length
 | _,_,_,_,[],_,_,_,h=>by obtain ⟨rfl,rfl,rfl⟩:=trodAll_nil h;exact ⟨rfl,rfl⟩
 | _,_,_,_,_ :: _,_,_,_,h=>by
  obtain ⟨v,vs',d,ds',p1,q1,rfl,rfl,rfl,h1,h2⟩:=trodAll_cons h
  obtain ⟨a,b⟩:=trodAll_length h2
  simp [a,b]
theorem law_lift {C:Checked} {os:Os} {f:FuncId} {fn:Func} {s:ChangeSpec} {T:TypeId}
  (own:ownKnob C.prog.godebug=none) (started:os.Started) (noInit:C.prog.inits.idxOf? f=none) (hfn:C.prog.funcs[f]?=some fn)
  (witness:∃ (w:World) (tape:Tape) (i:Input),w.os=os∧(w.forCall tape i).Shaped C.prog∧i.vars=[]∧Input.okWide C.prog (w.forCall tape i) .any w.heap.size f i ∧
   s.pre6 enc C.prog fn [] false (w.forCall tape i).memory i.args∧({}:Assume).holds C.prog (lone (Frame.enter C.prog f i.args .normal) [] (w.forCall tape i)))
  (hl:laidOutB C.prog=true) (hpar:(fn.params.toList.all fun t=>C.prog.readableRec t && decide (t < C.prog.types.size))=true)
  (hres:fn.resultTypes=#[T]) (hT:C.prog.underlying T=some .bool) (hv:s.vars=[])
  (hs:∀ (ds:List (DataW H)),ds.length=fn.params.size → (s.fn H ds).results=[.lit (.bool true)]∧(s.fn H ds).args=ds∧(s.fn H ds).vars=[])
  (walk:∀ (W:World) (base:Nat) (args:Array Value) (ds:List (DataW H)) (p:List MemPlace),
   (∀ (j:Nat) t v,fn.params[j]?=some t → args[j]?=some v → Value.okWide C.prog W .any base t v) →
   DataW.TrodAll enc C.prog W 0 (fun _=>true) true fn.params.toList args.toList ds p →
   Calls C.prog f args W fun e W'=>e=.returned (.bool true)∧Below W.heap.size W W') :
  ReturnsInHanded {} C os f .any (s.pre6 enc C.prog fn [] false) (s.post enc C.prog fn false true false false):=by
 refine returnsInHanded_of_change own started noInit hfn witness ?_
 intro W base args ds gs before hval hW _ _
 have hW':=hW
 obtain ⟨p,q,hA,hV,rfl,hfz,hnd⟩:=hW
 rw [hv] at hV
 obtain ⟨rfl,rfl⟩:=trodVars_none hV
 refine (walk W base args ds p hval hA).mono fun e W' ⟨he,hb⟩=>⟨_,he,?_⟩
 obtain ⟨e1,e2,e3⟩:=hs ds (by have:=(trodAll_length hA).2;simpa using this)
 have hlt:∀ x ∈ p,x.block < W.heap.size:=fun x hx=>hW'.lt x (by simp [hx])
 refine ⟨ds,[],p ++ [],[],p,[],hW',?_,?_,?_,hb.frame _,fun h=>by cases h⟩
 ·rw [hres,List.append_nil,e1]
  exact trodAll_mk1 (shut_bool hT true)
 ·rw [List.append_nil,e2]
  exact trodAll_below hl hb hpar hA hlt
 ·rw [List.append_nil,e3,hv]
  exact rfl
variable {w:World} {spare:Nat → Bool} {held:Bool} {base:Nat}
theorem arg_struct {α:Type} {T:TypeId} {fs:Array Field} {t:Ty α} {r:Reach} {b0:Nat} {v:Value} {d:DataW H} {p:List MemPlace} (hT:P.underlying T=some (.struct fs)) (ho:Opens P T t) (hv:Value.okWide P w r b0 T v) (h:DataW.Trod enc P w base spare held T v d p) :
  ∃ cs y,v=.agg cs∧t.rep w (blo w.heap.size) cs.toList y:=by
 obtain ⟨cs,rfl,_⟩:=okWide_struct hT hv
 obtain ⟨y,hy⟩:=ho.trod h
 exact ⟨cs,y,rfl,hy⟩
end
end Go.Proofs.YtppcjcigekoipaaGreat
