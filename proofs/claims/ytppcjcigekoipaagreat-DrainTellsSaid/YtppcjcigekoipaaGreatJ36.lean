/-
  What a node costs (layer 31): lower.Work, cost.Node, the document's Node.
-/
import Derived.Test.YtppcjcigekoipaaGreatJ32
set_option linter.unusedVariables false
set_option linter.unusedSimpArgs false
namespace Go.Proofs.YtppcjcigekoipaaGreat
open Go.RowKit Go.ChangeShapes Go.WideShapes
set_option maxRecDepth 100000
set_option maxHeartbeats 4000000
theorem shapeV_in {d:Node} {x y:Sh3} (h:(shN d x y).2=0):InK .i64 (shN d x y).1.1∧InK .i64 (shN d x y).1.2.1∧InK .i64 (shN d x y).1.2.2:=by
 have g:=shapeV_good h
 have h1:=g.h
 have h2:=g.v
 have h3:=g.c
 simp only [inK_i64]
 show (_∧_)∧(_∧_)∧_
 unfold shN
 omega
structure Prods (m k c a1 a2 a3:Int):Prop where
 e1:IntKind.i64.wrap (m*k)=a1
 e2:IntKind.i64.wrap (a1*k)=a2
 e3:IntKind.i64.wrap (a2*c)=a3
theorem prods {m k c:Int} (hm:0≤m∧m≤1024) (hk:1≤k∧k≤5) (hc:0≤c∧c≤1024):∃ a1 a2 a3,Prods m k c a1 a2 a3∧a2=m*k*k∧a3=m*k*k*c:=by
 have b1:=mul_bd hm.1 hm.2 (b:=k) (n:=5) (by omega) (by omega) (by omega)
 have b2:=mul_bd b1.1 b1.2 (b:=k) (n:=5) (by omega) (by omega) (by omega)
 have b3:=mul_bd b2.1 b2.2 hc.1 hc.2 (by omega)
 exact ⟨_,_,_,⟨IntWalk.i64_in _ (by omega),IntWalk.i64_in _ (by omega),IntWalk.i64_in _ (by omega)⟩,rfl,rfl⟩
theorem work_any (d:Node) (W:Option Addr) (nw cw:Nat) (B:Option Addr) (nb cb:Nat) (x y:Sh3) (w:World) (hd:NodeIn d) (hx:InK .i64 x.1∧InK .i64 x.2.1∧InK .i64 x.2.2) (hw:nw=d.w.length) (hb:nb=d.bias.length) (mw:nw≤1048576) (mb:nb≤1048576) (hk:d.kind=1) (hs:(shN d x y).2=0) :
  Calls Tryz.prog 137 #[.agg (sN x.1 x.2.1 x.2.2),.agg (nN d.kind d.a d.b d.k d.s d.p d.out d.za d.zb W nw cw B nb cb d.qm d.qs d.qz d.rm d.rs d.rz d.lo d.hi)] w fun e w'=>e=.returned (.int .i64 (costK d (elS (shN d x y).1) x))∧Below w.heap.size w w':=by
 have es:shN d x y=convV x.1 x.2.1 x.2.2 d:=by unfold shN shapeV;rw [if_pos hk]
 have CS:=zH (fun w=>convShape_any x.1 x.2.1 x.2.2 d W nw cw B nb cb w hx.1 hx.2.1 hx.2.2 hd.out hw hb mw mb)
 simp only [← es] at CS
 have IS:=shapeV_in hs
 have KC:=shN_k hs
 have EL:=zH (fun w=>elems_any (shN d x y).1.1 (shN d x y).1.2.2 (shN d x y).1.2.1 w IS.1 IS.2.1 IS.2.2)
 obtain ⟨a1,a2,a3,PR,-,h3⟩:=prods (elS_bd (shN d x y).1) (KC.1 (.inl hk)) (show 0≤x.2.2∧x.2.2≤1024 by have:=KC.2 hk;omega)
 have HV:=zH (show costK d (elS (shN d x y).1) x=a3 by unfold costK;rw [if_pos hk,h3])
 rw [HV.out]
 unfold elS at PR
 obtain ⟨⟨⟨y1,y2,y3⟩,ye⟩,hy⟩:∃ q,shN d x y=q:=⟨_,rfl⟩
 simp only [hy] at CS hs EL PR
 subst hs
 simp only [retS] at CS
 obtain ⟨m,hm⟩:∃ m,elems y1 y2 y3=m:=⟨_,rfl⟩
 simp only [hm] at EL PR
 obtain ⟨e1,e2,e3⟩:=PR
 obtain ⟨x1,x2,x3⟩:=x
 simp only at e3 CS
 have H:=zH (Far.refl w)
 clear hd hx hw hb mw mb hk es IS KC h3 HV hy hm
 obtain ⟨w1,hw_w1,B1,k1⟩:=nB w (sN x1 x2 x3) 23
 replace H:=zN k1 H B1
 clear B1 k1
 obtain ⟨w2,hw_w2,B2,k2⟩:=nB w1 (nN d.kind d.a d.b d.k d.s d.p d.out d.za d.zb W nw cw B nb cb d.qm d.qs d.qz d.rm d.rs d.rz d.lo d.hi) 87
 replace H:=zN k2 H B2
 clear B2 k2
 go_enter Tryz.func137,Tryz.ntmps137
 go_wp2_with (first|(refine lB 23 (.tmp 2) w.heap.size H.out.1.2 Tryz.underlying23 ?_)|(refine lB 87 (.tmp 3) w1.heap.size H.out.2 Tryz.underlying87 ?_))
 refine (CS.out _).mono ?_
 rintro e w3 ⟨rfl,hb⟩
 replace H:=zF hb H
 clear hb hw_w1 hw_w2
 have l3:=H.out.2.lt
 have l2:=H.out.1.2.lt
 obtain ⟨w4,hw_w4,B4,k4⟩:=nB w3 (sN 0 0 0) 23
 replace H:=zN k4 H B4
 clear B4 k4
 go_upto_region 4 with (refine sB 23 (.tmp 5) (.tmp 11) w3.heap.size (sN y1 y2 y3) H.out.2 ?_;intro w5 b5 g5;replace H:=zS g5 b5 H;clear g5 b5 hw_w4)
 have R0:=zH (fun z:Ext w5=>range_blk (off:=0) (vs:=[.int .i64 y1,.int .i64 y2,.int .i64 y3]) (H.out.2.ext z) rfl)
 have E1:=zH (fun z:Ext w5=>calls_ext z (EL.out z.1))
 have c3:∀ z:Ext w5,z.1.cell? ⟨w1.heap.size,3,none⟩=some (.int .i64 d.k):=fun z=>(H.out.1.2.ext z).cell 3
 have c2:∀ z:Ext w5,z.1.cell? ⟨w.heap.size,2,none⟩=some (.int .i64 x3):=fun z=>(H.out.1.1.2.ext z).cell 2
 refine wp_region_ext w5 (by kernel_rfl) (by kernel_rfl) (Below.refl _ _) ?_
 refine wpQuiet_load_mid (by kernel_rfl) 23 (.tmp 5) rfl w3.heap.size 0 rfl _ _ (by rintro _ ⟨z,rfl⟩;exact R0.out z) Tryz.underlying23 rfl (by kernel_rfl) ?_
 simp only [pX]
 repeat (go_big_quiet_step ((with_reducible exact E1.out _)))
 refine wpQuiet_nil ?_
 rintro wa ⟨⟨_,hb⟩,rfl⟩
 replace H:=zF hb H
 clear hb
 go_wp2_with fail
 go_ret
 exact ⟨rfl,H.out.1.1.1.out⟩
theorem costNode_any (d:Node) (W:Option Addr) (nw cw:Nat) (B:Option Addr) (nb cb:Nat) (x y:Sh3) (w:World) (hd:NodeIn d) (hx:InK .i64 x.1∧InK .i64 x.2.1∧InK .i64 x.2.2) (hw:nw=d.w.length) (hb:nb=d.bias.length) (mw:nw≤1048576) (mb:nb≤1048576) (hk9:1≤d.kind∧d.kind≤9) :
  Calls Tryz.prog 104 #[.agg (nN d.kind d.a d.b d.k d.s d.p d.out d.za d.zb W nw cw B nb cb d.qm d.qs d.qz d.rm d.rs d.rz d.lo d.hi),.agg (sN x.1 x.2.1 x.2.2),.agg (sN y.1 y.2.1 y.2.2)] w fun e w'=>e=.returned (.int .i64 (costN d x y))∧Below w.heap.size w w':=by
 have KS:=zH (fun w=>kshape_any x.1 x.2.1 x.2.2 y.1 y.2.1 y.2.2 d W nw cw B nb cb w hx.1 hx.2.1 hx.2.2 hd.out hd.p hw hb mw mb hk9)
 have KX:=zH (fun w=>elems_any x.1 x.2.2 x.2.1 w hx.1 hx.2.1 hx.2.2)
 have HV:=zH (show costN d x y=if (shN d x y).2 ≠ 0 then 0 else costK d (elS (shN d x y).1) x from rfl)
 have IS:=zH (shapeV_in (d:=d) (x:=x) (y:=y))
 have KC:=zH (shN_k (d:=d) (x:=x) (y:=y))
 have WK:=zH (fun w hk hs=>work_any d W nw cw B nb cb x y w hd hx hw hb mw mb hk hs)
 have EB:=zH (elS_bd x)
 have MB:=zH (elS_bd (shN d x y).1)
 obtain ⟨r,hr⟩:∃ r,costN d x y=r:=⟨_,rfl⟩
 rw [hr] at HV
 rw [hr]
 rw [show shapeV x.1 x.2.1 x.2.2 y.1 y.2.1 y.2.2 d=shN d x y from rfl] at KS
 have H:=zH (Far.refl w)
 obtain ⟨⟨⟨s1,s2,s3⟩,se⟩,hs⟩:∃ q,shN d x y=q:=⟨_,rfl⟩
 simp only [hs] at KS HV IS KC MB WK
 simp only [retS] at KS
 unfold elS at MB EB
 obtain ⟨m,hm⟩:∃ m,elems s1 s2 s3=m:=⟨_,rfl⟩
 obtain ⟨mx,hmx⟩:∃ m,elems x.1 x.2.1 x.2.2=m:=⟨_,rfl⟩
 rw [show elS (s1,s2,s3)=m from hm] at HV
 rw [show elS (s1,s2,s3)=m from hm] at WK
 simp only [hm] at MB
 simp only [hmx] at KX EB
 have CK:=zH (show costK d m x=if d.kind=1 then m*d.k*d.k*x.2.2 else if d.kind=2 ∨ d.kind=4 ∨ d.kind=5 then m*d.k*d.k else if d.kind=3 then m*mx else m by unfold costK elS;rw [hmx])
 have EL:=zH (fun h=>show ∀ w,Calls Tryz.prog 101 #[.agg (sN s1 s2 s3)] w fun e w'=>e=.returned (.int .i64 m)∧Below w.heap.size w w' from fun w=>by have:=elems_any s1 s3 s2 w (IS.out h).1 (IS.out h).2.1 (IS.out h).2.2;rw [hm] at this;exact this)
 obtain ⟨x1,x2,x3⟩:=x
 obtain ⟨y1,y2,y3⟩:=y
 simp only at KS KX CK KC
 clear hd hx hw hb mw mb hr hs hm hmx IS
 obtain ⟨w1,hw_w1,B1,k1⟩:=nB w (nN d.kind d.a d.b d.k d.s d.p d.out d.za d.zb W nw cw B nb cb d.qm d.qs d.qz d.rm d.rs d.rz d.lo d.hi) 87
 replace H:=zN k1 H B1
 clear B1 k1
 obtain ⟨w2,hw_w2,B2,k2⟩:=nB w1 (sN x1 x2 x3) 23
 replace H:=zN k2 H B2
 clear B2 k2
 obtain ⟨w3,hw_w3,B3,k3⟩:=nB w2 (sN y1 y2 y3) 23
 replace H:=zN k3 H B3
 clear B3 k3
 go_enter Tryz.func104,Tryz.ntmps104
 go_wp2_with (first|(refine lB 87 (.tmp 3) w.heap.size H.out.1.1.2 Tryz.underlying87 ?_)|(refine lB 23 (.tmp 4) w1.heap.size H.out.1.2 Tryz.underlying23 ?_)|(refine lB 23 (.tmp 5) w2.heap.size H.out.2 Tryz.underlying23 ?_))
 refine (KS.out _).mono ?_
 rintro e w4 ⟨rfl,hb⟩
 replace H:=zF hb H
 clear hb hw_w1 hw_w2 hw_w3
 have l4:=H.out.1.1.2.lt
 have l5:=H.out.1.2.lt
 have l6:=H.out.2.lt
 have l7:=H.out.1.1.1.size
 obtain ⟨w5,hw_w5,B5,k5⟩:=nB w4 (sN 0 0 0) 23
 replace H:=zN k5 H B5
 clear B5 k5
 by_cases c0:se=0
 rotate_left
 ·have t0:(se != 0)=true:=by simpa using c0
  rw [if_pos c0] at HV
  clear c0
  go_wp2_with (refine sB 23 (.tmp 7) (.tmp 15) w4.heap.size (sN s1 s2 s3) H.out.2 ?_;intro w6 b6 g6;replace H:=zS g6 b6 H;clear g6 b6 hw_w5)
  go_ret
  exact ⟨by rw [HV.out] <;> rfl,H.out.1.1.1.1.out⟩
 subst c0
 rw [if_neg (by decide),CK.out] at HV
 replace EL:=zH (EL.out (by trivial))
 replace KC:=zH (KC.out (by trivial))
 have q1:=MB.out
 have q2:=EB.out
 by_cases k1:d.kind=1
 ·have s1':(d.kind == 1)=true:=by simp [k1]
  rw [if_pos k1] at HV
  have RV:=zH (HV.out.trans (show m*d.k*d.k*x3=costK d m (x1,x2,x3) by rw [CK.out,if_pos k1]))
  replace WK:=zH (fun w=>WK.out w k1 rfl)
  clear KC HV CK KX MB EB q1 q2 k1
  go_wp2_with (first|(refine sB 23 (.tmp 7) (.tmp 15) w4.heap.size (sN s1 s2 s3) H.out.2 ?_;intro w6 b6 g6;replace H:=zS g6 b6 H;clear g6 b6 hw_w5)|(refine lB 23 (.tmp 7) w4.heap.size H.out.2 Tryz.underlying23 ?_)|(go_at_call 101;with_reducible refine (EL.out _).mono ?_;rintro e w7 ⟨rfl,hb⟩;replace H:=zF hb H;clear hb;have cN:=fun i=>H.out.1.1.1.2.cell i;have cX:=fun i=>H.out.1.1.2.cell i)|(refine lB 23 (.tmp 4) w1.heap.size H.out.1.1.2 Tryz.underlying23 ?_)|(refine lB 87 (.tmp 3) w.heap.size H.out.1.1.1.2 Tryz.underlying87 ?_)|(go_at_call 137;with_reducible refine (WK.out _).mono ?_;rintro e w8 ⟨rfl,hb⟩;replace H:=zF hb H;clear hb))
  go_ret
  exact ⟨by rw [RV.out] <;> rfl,H.out.1.1.1.1.out⟩
 have n1:(d.kind == 1)=false:=by simpa using k1
 rw [if_neg k1] at HV
 by_cases k2:d.kind=2 ∨ d.kind=4 ∨ d.kind=5
 ·rw [if_pos k2] at HV
  obtain ⟨a1,a2,a3,⟨e1,e2,-⟩,h2,-⟩:=prods q1 (KC.out.1 (.inr k2)) (c:=0) (by omega)
  rw [← h2] at HV
  clear KC CK KX MB EB q1 q2 k1 h2
  rcases k2 with k2|k2|k2
  ·have n2:(d.kind == 2)=true:=by rw [k2];rfl
   have n4:(d.kind == 4)=false:=by rw [k2];rfl
   have n5:(d.kind == 5)=false:=by rw [k2];rfl
   clear k2
   go_wp2_with (first|(refine sB 23 (.tmp 7) (.tmp 15) w4.heap.size (sN s1 s2 s3) H.out.2 ?_;intro w6 b6 g6;replace H:=zS g6 b6 H;clear g6 b6 hw_w5)|(refine lB 23 (.tmp 7) w4.heap.size H.out.2 Tryz.underlying23 ?_)|(go_at_call 101;with_reducible refine (EL.out _).mono ?_;rintro e w7 ⟨rfl,hb⟩;replace H:=zF hb H;clear hb;have cN:=fun i=>H.out.1.1.1.2.cell i;have cX:=fun i=>H.out.1.1.2.cell i))
   go_ret
   exact ⟨by rw [HV.out] <;> rfl,H.out.1.1.1.1.out⟩
  ·have n2:(d.kind == 2)=false:=by rw [k2];rfl
   have n4:(d.kind == 4)=true:=by rw [k2];rfl
   have n5:(d.kind == 5)=false:=by rw [k2];rfl
   clear k2
   go_wp2_with (first|(refine sB 23 (.tmp 7) (.tmp 15) w4.heap.size (sN s1 s2 s3) H.out.2 ?_;intro w6 b6 g6;replace H:=zS g6 b6 H;clear g6 b6 hw_w5)|(refine lB 23 (.tmp 7) w4.heap.size H.out.2 Tryz.underlying23 ?_)|(go_at_call 101;with_reducible refine (EL.out _).mono ?_;rintro e w7 ⟨rfl,hb⟩;replace H:=zF hb H;clear hb;have cN:=fun i=>H.out.1.1.1.2.cell i;have cX:=fun i=>H.out.1.1.2.cell i))
   go_ret
   exact ⟨by rw [HV.out] <;> rfl,H.out.1.1.1.1.out⟩
  ·have n2:(d.kind == 2)=false:=by rw [k2];rfl
   have n4:(d.kind == 4)=false:=by rw [k2];rfl
   have n5:(d.kind == 5)=true:=by rw [k2];rfl
   clear k2
   go_wp2_with (first|(refine sB 23 (.tmp 7) (.tmp 15) w4.heap.size (sN s1 s2 s3) H.out.2 ?_;intro w6 b6 g6;replace H:=zS g6 b6 H;clear g6 b6 hw_w5)|(refine lB 23 (.tmp 7) w4.heap.size H.out.2 Tryz.underlying23 ?_)|(go_at_call 101;with_reducible refine (EL.out _).mono ?_;rintro e w7 ⟨rfl,hb⟩;replace H:=zF hb H;clear hb;have cN:=fun i=>H.out.1.1.1.2.cell i;have cX:=fun i=>H.out.1.1.2.cell i))
   go_ret
   exact ⟨by rw [HV.out] <;> rfl,H.out.1.1.1.1.out⟩
 rw [if_neg k2] at HV
 have n2:(d.kind == 2)=false:=by simp;omega
 have n4:(d.kind == 4)=false:=by simp;omega
 have n5:(d.kind == 5)=false:=by simp;omega
 by_cases k3:d.kind=3
 ·have n3:(d.kind == 3)=true:=by simp [k3]
  rw [if_pos k3] at HV
  have b1:=mul_bd q1.1 q1.2 q2.1 q2.2 (by omega)
  obtain ⟨p,hp⟩:∃ p,m*mx=p:=⟨_,rfl⟩
  have e1:IntKind.i64.wrap (m*mx)=p:=by rw [← hp];exact IntWalk.i64_in _ (by omega)
  rw [hp] at HV
  clear KC CK MB EB q1 q2 k1 k2 k3 hp b1
  go_wp2_with (first|(refine sB 23 (.tmp 7) (.tmp 15) w4.heap.size (sN s1 s2 s3) H.out.2 ?_;intro w6 b6 g6;replace H:=zS g6 b6 H;clear g6 b6 hw_w5)|(refine lB 23 (.tmp 7) w4.heap.size H.out.2 Tryz.underlying23 ?_)|(go_at_call 101;with_reducible refine (EL.out _).mono ?_;rintro e w7 ⟨rfl,hb⟩;replace H:=zF hb H;clear hb;have cN:=fun i=>H.out.1.1.1.2.cell i;have cX:=fun i=>H.out.1.1.2.cell i)|(refine lB 23 (.tmp 4) w1.heap.size H.out.1.1.2 Tryz.underlying23 ?_)|(go_at_call 101;with_reducible refine (KX.out _).mono ?_;rintro e w8 ⟨rfl,hb⟩;replace H:=zF hb H;clear hb))
  go_ret
  exact ⟨by rw [HV.out] <;> rfl,H.out.1.1.1.1.out⟩
 ·have n3:(d.kind == 3)=false:=by simpa using k3
  rw [if_neg k3] at HV
  clear KC CK KX MB EB q1 q2 k1 k2 k3
  go_wp2_with (first|(refine sB 23 (.tmp 7) (.tmp 15) w4.heap.size (sN s1 s2 s3) H.out.2 ?_;intro w6 b6 g6;replace H:=zS g6 b6 H;clear g6 b6 hw_w5)|(refine lB 23 (.tmp 7) w4.heap.size H.out.2 Tryz.underlying23 ?_)|(go_at_call 101;with_reducible refine (EL.out _).mono ?_;rintro e w7 ⟨rfl,hb⟩;replace H:=zF hb H;clear hb;have cN:=fun i=>H.out.1.1.1.2.cell i;have cX:=fun i=>H.out.1.1.2.cell i))
  go_ret
  exact ⟨by rw [HV.out] <;> rfl,H.out.1.1.1.1.out⟩
theorem rcostNode_any (d:Node) (W:Option Addr) (nw cw:Nat) (B:Option Addr) (nb cb:Nat) (x y:Sh3) (w:World) (hd:NodeIn d) (hx:InK .i64 x.1∧InK .i64 x.2.1∧InK .i64 x.2.2) (hw:nw=d.w.length) (hb:nb=d.bias.length) (mw:nw≤1048576) (mb:nb≤1048576) (hk9:1≤d.kind∧d.kind≤9) :
  Calls Tryz.prog 72 #[.agg (nN d.kind d.a d.b d.k d.s d.p d.out d.za d.zb W nw cw B nb cb d.qm d.qs d.qz d.rm d.rs d.rz d.lo d.hi),.agg (sN x.1 x.2.1 x.2.2),.agg (sN y.1 y.2.1 y.2.2)] w fun e w'=>e=.returned (.int .i64 (costN d x y))∧Below w.heap.size w w':=by
 have KS:=zH (fun w=>rkshape_any x.1 x.2.1 x.2.2 y.1 y.2.1 y.2.2 d W nw cw B nb cb w hx.1 hx.2.1 hx.2.2 hd.out hd.p hw hb mw mb hk9)
 have KX:=zH (fun w=>relems_any x.1 x.2.2 x.2.1 w hx.1 hx.2.1 hx.2.2)
 have HV:=zH (show costN d x y=if (shN d x y).2 ≠ 0 then 0 else costK d (elS (shN d x y).1) x from rfl)
 have IS:=zH (shapeV_in (d:=d) (x:=x) (y:=y))
 have KC:=zH (shN_k (d:=d) (x:=x) (y:=y))
 have EB:=zH (elS_bd x)
 have MB:=zH (elS_bd (shN d x y).1)
 obtain ⟨r,hr⟩:∃ r,costN d x y=r:=⟨_,rfl⟩
 rw [hr] at HV
 rw [hr]
 rw [show shapeV x.1 x.2.1 x.2.2 y.1 y.2.1 y.2.2 d=shN d x y from rfl] at KS
 have H:=zH (Far.refl w)
 obtain ⟨⟨⟨s1,s2,s3⟩,se⟩,hs⟩:∃ q,shN d x y=q:=⟨_,rfl⟩
 simp only [hs] at KS HV IS KC MB
 simp only [retS] at KS
 unfold elS at MB EB
 obtain ⟨m,hm⟩:∃ m,elems s1 s2 s3=m:=⟨_,rfl⟩
 obtain ⟨mx,hmx⟩:∃ m,elems x.1 x.2.1 x.2.2=m:=⟨_,rfl⟩
 rw [show elS (s1,s2,s3)=m from hm] at HV
 skip
 simp only [hm] at MB
 simp only [hmx] at KX EB
 have CK:=zH (show costK d m x=if d.kind=1 then m*d.k*d.k*x.2.2 else if d.kind=2 ∨ d.kind=4 ∨ d.kind=5 then m*d.k*d.k else if d.kind=3 then m*mx else m by unfold costK elS;rw [hmx])
 have EL:=zH (fun h=>show ∀ w,Calls Tryz.prog 28 #[.agg (sN s1 s2 s3)] w fun e w'=>e=.returned (.int .i64 m)∧Below w.heap.size w w' from fun w=>by have:=relems_any s1 s3 s2 w (IS.out h).1 (IS.out h).2.1 (IS.out h).2.2;rw [hm] at this;exact this)
 obtain ⟨x1,x2,x3⟩:=x
 obtain ⟨y1,y2,y3⟩:=y
 simp only at KS KX CK KC
 clear hd hx hw hb mw mb hr hs hm hmx IS
 obtain ⟨w1,hw_w1,B1,k1⟩:=nB w (nN d.kind d.a d.b d.k d.s d.p d.out d.za d.zb W nw cw B nb cb d.qm d.qs d.qz d.rm d.rs d.rz d.lo d.hi) 87
 replace H:=zN k1 H B1
 clear B1 k1
 obtain ⟨w2,hw_w2,B2,k2⟩:=nB w1 (sN x1 x2 x3) 23
 replace H:=zN k2 H B2
 clear B2 k2
 obtain ⟨w3,hw_w3,B3,k3⟩:=nB w2 (sN y1 y2 y3) 23
 replace H:=zN k3 H B3
 clear B3 k3
 go_enter Tryz.func72,Tryz.ntmps72
 go_wp2_with (first|(refine lB 87 (.tmp 3) w.heap.size H.out.1.1.2 Tryz.underlying87 ?_)|(refine lB 23 (.tmp 4) w1.heap.size H.out.1.2 Tryz.underlying23 ?_)|(refine lB 23 (.tmp 5) w2.heap.size H.out.2 Tryz.underlying23 ?_))
 refine (KS.out _).mono ?_
 rintro e w4 ⟨rfl,hb⟩
 replace H:=zF hb H
 clear hb hw_w1 hw_w2 hw_w3
 have l4:=H.out.1.1.2.lt
 have l5:=H.out.1.2.lt
 have l6:=H.out.2.lt
 have l7:=H.out.1.1.1.size
 obtain ⟨w5,hw_w5,B5,k5⟩:=nB w4 (sN 0 0 0) 23
 replace H:=zN k5 H B5
 clear B5 k5
 by_cases c0:se=0
 rotate_left
 ·have t0:(se != 0)=true:=by simpa using c0
  rw [if_pos c0] at HV
  clear c0
  go_wp2_with (refine sB 23 (.tmp 7) (.tmp 15) w4.heap.size (sN s1 s2 s3) H.out.2 ?_;intro w6 b6 g6;replace H:=zS g6 b6 H;clear g6 b6 hw_w5)
  go_ret
  exact ⟨by rw [HV.out] <;> rfl,H.out.1.1.1.1.out⟩
 subst c0
 rw [if_neg (by decide),CK.out] at HV
 replace EL:=zH (EL.out (by trivial))
 replace KC:=zH (KC.out (by trivial))
 have q1:=MB.out
 have q2:=EB.out
 by_cases k1:d.kind=1
 ·have s1':(d.kind == 1)=true:=by simp [k1]
  rw [if_pos k1] at HV
  obtain ⟨a1,a2,a3,⟨e1,e2,e3⟩,-,h3⟩:=prods q1 (KC.out.1 (.inl k1)) (show 0≤x3∧x3≤1024 by have:=KC.out.2 k1;omega)
  rw [← h3] at HV
  clear KC CK KX MB EB q1 q2 k1 h3
  go_wp2_with (first|(refine sB 23 (.tmp 7) (.tmp 15) w4.heap.size (sN s1 s2 s3) H.out.2 ?_;intro w6 b6 g6;replace H:=zS g6 b6 H;clear g6 b6 hw_w5)|(refine lB 23 (.tmp 7) w4.heap.size H.out.2 Tryz.underlying23 ?_)|(go_at_call 28;with_reducible refine (EL.out _).mono ?_;rintro e w7 ⟨rfl,hb⟩;replace H:=zF hb H;clear hb;have cN:=fun i=>H.out.1.1.1.2.cell i;have cX:=fun i=>H.out.1.1.2.cell i))
  go_ret
  exact ⟨by rw [HV.out] <;> rfl,H.out.1.1.1.1.out⟩
 have n1:(d.kind == 1)=false:=by simpa using k1
 rw [if_neg k1] at HV
 by_cases k2:d.kind=2 ∨ d.kind=4 ∨ d.kind=5
 ·rw [if_pos k2] at HV
  obtain ⟨a1,a2,a3,⟨e1,e2,-⟩,h2,-⟩:=prods q1 (KC.out.1 (.inr k2)) (c:=0) (by omega)
  rw [← h2] at HV
  clear KC CK KX MB EB q1 q2 k1 h2
  rcases k2 with k2|k2|k2
  ·have n2:(d.kind == 2)=true:=by rw [k2];rfl
   have n4:(d.kind == 4)=false:=by rw [k2];rfl
   have n5:(d.kind == 5)=false:=by rw [k2];rfl
   clear k2
   go_wp2_with (first|(refine sB 23 (.tmp 7) (.tmp 15) w4.heap.size (sN s1 s2 s3) H.out.2 ?_;intro w6 b6 g6;replace H:=zS g6 b6 H;clear g6 b6 hw_w5)|(refine lB 23 (.tmp 7) w4.heap.size H.out.2 Tryz.underlying23 ?_)|(go_at_call 28;with_reducible refine (EL.out _).mono ?_;rintro e w7 ⟨rfl,hb⟩;replace H:=zF hb H;clear hb;have cN:=fun i=>H.out.1.1.1.2.cell i;have cX:=fun i=>H.out.1.1.2.cell i))
   go_ret
   exact ⟨by rw [HV.out] <;> rfl,H.out.1.1.1.1.out⟩
  ·have n2:(d.kind == 2)=false:=by rw [k2];rfl
   have n4:(d.kind == 4)=true:=by rw [k2];rfl
   have n5:(d.kind == 5)=false:=by rw [k2];rfl
   clear k2
   go_wp2_with (first|(refine sB 23 (.tmp 7) (.tmp 15) w4.heap.size (sN s1 s2 s3) H.out.2 ?_;intro w6 b6 g6;replace H:=zS g6 b6 H;clear g6 b6 hw_w5)|(refine lB 23 (.tmp 7) w4.heap.size H.out.2 Tryz.underlying23 ?_)|(go_at_call 28;with_reducible refine (EL.out _).mono ?_;rintro e w7 ⟨rfl,hb⟩;replace H:=zF hb H;clear hb;have cN:=fun i=>H.out.1.1.1.2.cell i;have cX:=fun i=>H.out.1.1.2.cell i))
   go_ret
   exact ⟨by rw [HV.out] <;> rfl,H.out.1.1.1.1.out⟩
  ·have n2:(d.kind == 2)=false:=by rw [k2];rfl
   have n4:(d.kind == 4)=false:=by rw [k2];rfl
   have n5:(d.kind == 5)=true:=by rw [k2];rfl
   clear k2
   go_wp2_with (first|(refine sB 23 (.tmp 7) (.tmp 15) w4.heap.size (sN s1 s2 s3) H.out.2 ?_;intro w6 b6 g6;replace H:=zS g6 b6 H;clear g6 b6 hw_w5)|(refine lB 23 (.tmp 7) w4.heap.size H.out.2 Tryz.underlying23 ?_)|(go_at_call 28;with_reducible refine (EL.out _).mono ?_;rintro e w7 ⟨rfl,hb⟩;replace H:=zF hb H;clear hb;have cN:=fun i=>H.out.1.1.1.2.cell i;have cX:=fun i=>H.out.1.1.2.cell i))
   go_ret
   exact ⟨by rw [HV.out] <;> rfl,H.out.1.1.1.1.out⟩
 rw [if_neg k2] at HV
 have n2:(d.kind == 2)=false:=by simp;omega
 have n4:(d.kind == 4)=false:=by simp;omega
 have n5:(d.kind == 5)=false:=by simp;omega
 by_cases k3:d.kind=3
 ·have n3:(d.kind == 3)=true:=by simp [k3]
  rw [if_pos k3] at HV
  have b1:=mul_bd q1.1 q1.2 q2.1 q2.2 (by omega)
  obtain ⟨p,hp⟩:∃ p,m*mx=p:=⟨_,rfl⟩
  have e1:IntKind.i64.wrap (m*mx)=p:=by rw [← hp];exact IntWalk.i64_in _ (by omega)
  rw [hp] at HV
  clear KC CK MB EB q1 q2 k1 k2 k3 hp b1
  go_wp2_with (first|(refine sB 23 (.tmp 7) (.tmp 15) w4.heap.size (sN s1 s2 s3) H.out.2 ?_;intro w6 b6 g6;replace H:=zS g6 b6 H;clear g6 b6 hw_w5)|(refine lB 23 (.tmp 7) w4.heap.size H.out.2 Tryz.underlying23 ?_)|(go_at_call 28;with_reducible refine (EL.out _).mono ?_;rintro e w7 ⟨rfl,hb⟩;replace H:=zF hb H;clear hb;have cN:=fun i=>H.out.1.1.1.2.cell i;have cX:=fun i=>H.out.1.1.2.cell i)|(refine lB 23 (.tmp 4) w1.heap.size H.out.1.1.2 Tryz.underlying23 ?_)|(go_at_call 28;with_reducible refine (KX.out _).mono ?_;rintro e w8 ⟨rfl,hb⟩;replace H:=zF hb H;clear hb))
  go_ret
  exact ⟨by rw [HV.out] <;> rfl,H.out.1.1.1.1.out⟩
 ·have n3:(d.kind == 3)=false:=by simpa using k3
  rw [if_neg k3] at HV
  clear KC CK KX MB EB q1 q2 k1 k2 k3
  go_wp2_with (first|(refine sB 23 (.tmp 7) (.tmp 15) w4.heap.size (sN s1 s2 s3) H.out.2 ?_;intro w6 b6 g6;replace H:=zS g6 b6 H;clear g6 b6 hw_w5)|(refine lB 23 (.tmp 7) w4.heap.size H.out.2 Tryz.underlying23 ?_)|(go_at_call 28;with_reducible refine (EL.out _).mono ?_;rintro e w7 ⟨rfl,hb⟩;replace H:=zF hb H;clear hb;have cN:=fun i=>H.out.1.1.1.2.cell i;have cX:=fun i=>H.out.1.1.2.cell i))
  go_ret
  exact ⟨by rw [HV.out] <;> rfl,H.out.1.1.1.1.out⟩
end Go.Proofs.YtppcjcigekoipaaGreat
