/-
  Exits (layer 30): Check, the program's and the document's; a head opened.
  The shape that a node makes (layers 18, 25): the document's Shape.
  The shape that a node makes (layers 18, 25): the document's Shape.
-/
import Derived.Test.YthjmghjfklkmbaaGreatJ10
import Derived.Test.YthjmghjfklkmbaaGreatJ11
import Derived.Test.YthjmghjfklkmbaaGreatJ12
import Derived.Deep.DeepCutAuto
import Derived.Deep.CutBlock
set_option linter.unusedVariables false
set_option linter.unusedSimpArgs false
namespace Go.Proofs.YthjmghjfklkmbaaGreat
open Go.RowKit Go.ChangeShapes Go.WideShapes
set_option maxRecDepth 100000
structure Hd where
 w:List Int
 bias:List Int
 need:Int
def tHd:Ty Hd:=tMap (fun (x:List Int × List Int × Int)=>⟨x.1,x.2.1,x.2.2⟩) (tPair (tSlice (tInt .i8)) (tPair (tSlice (tInt .i32)) (tInt .i32)))
theorem hd_open {w:World} {S:Nat → Prop} {cs:List Value} {d:Hd} (h:tHd.rep w S cs d) :
  ∃ W nw cw B nb cb,cs=[.slice W nw cw,.slice B nb cb,.int .i32 d.need]∧InK .i32 d.need∧Sl (tInt .i8) w S W nw cw d.w∧Sl (tInt .i32) w S B nb cb d.bias:=by
 obtain ⟨⟨a,b,c⟩,rfl,_,_,rfl,hw,_,_,rfl,hb,rfl,hc⟩:=h
 obtain ⟨W,cw,rfl,hw'⟩:=tSlice_iff.1 hw
 obtain ⟨B,cb,rfl,hb'⟩:=tSlice_iff.1 hb
 exact ⟨W,_,cw,B,_,cb,rfl,hc,hw',hb'⟩
theorem opens_hd:Opens Tryz.prog 63 tHd:=opens_map _ (opens_struct Tryz.underlying63 (by kernel_rfl) (opensFrom_cons rfl opens_i8s (opensFrom_cons rfl opens_i32s (opensFrom_last rfl opens_i32))))
def checkI (m:Int) (nw nb:Nat) (need cl:Int):Int :=
 if m=0 then 5 else if cl < 2 ∨ 16 < cl then 2 else if (nw:Int) ≠ cl*m ∨ 16384 < nw ∨ (nb:Int) ≠ cl then 9 else if need < 0 then 11 else 0
theorem elems_bdv (h v c:Int):0≤elems h v c∧elems h v c≤1024:=by
 rw [elems_iff]
 split
 ·rename_i hh
  refine ⟨?_,hh.2.2.2.2.2.2⟩
  exact Int.mul_nonneg (Int.mul_nonneg (by omega) (by omega)) (by omega)
 ·omega
theorem verdCheck_any (h v c:Int) (W:Option Addr) (nw cw:Nat) (B:Option Addr) (nb cb:Nat) (need cl:Int) (w:World) (h0:InK .i64 h) (h1:InK .i64 v) (h2:InK .i64 c) (hnw:nw≤maxLen) (hnb:nb≤maxLen) (hcl:InK .i64 cl) :
  Calls Tryz.prog 82 #[.agg (sN h v c),.agg #[.slice W nw cw,.slice B nb cb,.int .i32 need],.int .i64 cl] w fun e w' =>
   e=.returned (.int .i64 (checkI (elems h v c) nw nb need cl))∧Below w.heap.size w w':=by
 have H:=zH (And.intro h0 (And.intro h1 h2))
 unfold maxLen at hnw hnb
 rw [inK_i64] at hcl
 clear h0 h1 h2
 obtain ⟨mb1,mb2⟩:=elems_bdv h v c
 have EL:=zH (fun w=>elems_any h c v w H.out.1 H.out.2.1 H.out.2.2)
 generalize elems h v c=m at *
 have FR:=zH (Far.refl w)
 obtain ⟨w1,hw_w1,BS,k_w1⟩:=nB w (sN h v c) 23
 replace FR:=zH (FR.out.fut k_w1)
 clear k_w1
 obtain ⟨w2,hw_w2,BH,k_w2⟩:=nB w1 #[.slice W nw cw,.slice B nb cb,.int .i32 need] 63
 replace FR:=zH (FR.out.fut k_w2)
 replace BS:=zH (BS.out.fut k_w2)
 clear k_w2
 have cS:=fun i=>BS.out.cell i
 have cH:=fun i=>BH.out.cell i
 by_cases z:m=0
 ·subst z
  have C:=zH (show (5:Int)=checkI 0 nw nb need cl by unfold checkI;rw [if_pos rfl])
  go_enter Tryz.func82,Tryz.ntmps82
  go_wp2_with fail
  clear hw_w1 hw_w2
  refine (EL.out _).mono ?_
  rintro e w3 ⟨rfl,hb⟩
  replace FR:=zH (FR.out.fut hb)
  clear hb
  go_wp2_with fail
  go_ret
  exact ⟨ret_int C.out,FR.out.out⟩
 have t0:(m == 0)=false:=by simp;exact z
 by_cases c1:cl < 2
 ·have t1:decide (cl < 2)=true:=by simp;exact c1
  have C:=zH (show (2:Int)=checkI m nw nb need cl by unfold checkI;rw [if_neg z,if_pos (.inl c1)])
  clear z c1
  go_enter Tryz.func82,Tryz.ntmps82
  go_wp2_with fail
  clear hw_w1 hw_w2
  refine (EL.out _).mono ?_
  rintro e w3 ⟨rfl,hb⟩
  replace FR:=zH (FR.out.fut hb)
  clear hb
  go_wp2_with fail
  go_ret
  exact ⟨ret_int C.out,FR.out.out⟩
 have t1:decide (cl < 2)=false:=by simp;omega
 by_cases c2:16 < cl
 ·have t2:decide (16 < cl)=true:=by simp;exact c2
  have C:=zH (show (2:Int)=checkI m nw nb need cl by unfold checkI;rw [if_neg z,if_pos (.inr c2)])
  clear z c1 c2
  go_enter Tryz.func82,Tryz.ntmps82
  go_wp2_with fail
  clear hw_w1 hw_w2
  refine (EL.out _).mono ?_
  rintro e w3 ⟨rfl,hb⟩
  replace FR:=zH (FR.out.fut hb)
  clear hb
  go_wp2_with fail
  go_ret
  exact ⟨ret_int C.out,FR.out.out⟩
 have t2:decide (16 < cl)=false:=by simp;omega
 have pb:0≤cl*m∧cl*m≤16*1024:=⟨Int.mul_nonneg (by omega) (by omega),Int.mul_le_mul (by omega) (by omega) (by omega) (by omega)⟩
 have C0:checkI m nw nb need cl=if (nw:Int) ≠ cl*m ∨ 16384 < nw ∨ (nb:Int) ≠ cl then 9 else if need < 0 then 11 else 0:=by unfold checkI;rw [if_neg z,if_neg (by omega)]
 have CC:=zH C0
 have e1:IntKind.i64.wrap (cl*m)=cl*m:=IntWalk.i64_in _ (by omega)
 clear C0
 obtain ⟨p,hp⟩:∃ p,cl*m=p:=⟨_,rfl⟩
 rw [hp] at e1 CC pb
 have e2:IntKind.i64.wrap (cl*m)=p:=by rw [hp];exact e1
 have E2:=zH e2
 clear hp e1 c1 c2 z e2
 have bad:(nw:Int) ≠ p ∨ 16384 < nw ∨ (nb:Int) ≠ cl → Calls Tryz.prog 82 #[.agg (sN h v c),.agg #[.slice W nw cw,.slice B nb cb,.int .i32 need],.int .i64 cl] w fun e w'=>e=.returned (.int .i64 9)∧Below w.heap.size w w':=by
  intro hbad
  by_cases d1:(nw:Int)=p
  ·have u1:((nw:Int) != p)=false:=by simp;exact d1
   by_cases d2:16384 < nw
   ·have u2:decide ((16384:Int) < (nw:Int))=true:=by simp;omega
    clear hbad d1 CC
    have e2:=E2.out
    go_enter Tryz.func82,Tryz.ntmps82
    go_wp2_with fail
    clear hw_w1 hw_w2 cS cH
    refine (EL.out _).mono ?_
    rintro e w3 ⟨rfl,hb⟩
    replace FR:=zH (FR.out.fut hb)
    replace BH:=zH (BH.out.fut hb)
    clear hb
    have cH:=fun i=>BH.out.cell i
    go_wp2_with fail
    go_ret
    exact ⟨rfl,FR.out.out⟩
   ·have u2:decide ((16384:Int) < (nw:Int))=false:=by simp;omega
    have u3:((nb:Int) != cl)=true:=by simp;omega
    clear hbad d1 CC
    have e2:=E2.out
    go_enter Tryz.func82,Tryz.ntmps82
    go_wp2_with fail
    clear hw_w1 hw_w2 cS cH
    refine (EL.out _).mono ?_
    rintro e w3 ⟨rfl,hb⟩
    replace FR:=zH (FR.out.fut hb)
    replace BH:=zH (BH.out.fut hb)
    clear hb
    have cH:=fun i=>BH.out.cell i
    go_wp2_with fail
    go_ret
    exact ⟨rfl,FR.out.out⟩
  ·have u1:((nw:Int) != p)=true:=by simp;exact d1
   clear hbad d1 CC
   have e2:=E2.out
   go_enter Tryz.func82,Tryz.ntmps82
   go_wp2_with fail
   clear hw_w1 hw_w2 cS cH
   refine (EL.out _).mono ?_
   rintro e w3 ⟨rfl,hb⟩
   replace FR:=zH (FR.out.fut hb)
   replace BH:=zH (BH.out.fut hb)
   clear hb
   have cH:=fun i=>BH.out.cell i
   go_wp2_with fail
   go_ret
   exact ⟨rfl,FR.out.out⟩
 rw [CC.out]
 by_cases hbad:(nw:Int) ≠ p ∨ 16384 < nw ∨ (nb:Int) ≠ cl
 ·rw [if_pos hbad];exact bad hbad
 ·rw [if_neg hbad]
  have u1:((nw:Int) != p)=false:=by simp;omega
  have u2:decide ((16384:Int) < (nw:Int))=false:=by simp;omega
  have u3:((nb:Int) != cl)=false:=by simp;omega
  clear bad hbad CC
  have e2:=E2.out
  by_cases d:need < 0
  ·have u4:decide (need < 0)=true:=by simp;exact d
   rw [if_pos d]
   clear d
   go_enter Tryz.func82,Tryz.ntmps82
   go_wp2_with fail
   clear hw_w1 hw_w2 cS cH
   refine (EL.out _).mono ?_
   rintro e w3 ⟨rfl,hb⟩
   replace FR:=zH (FR.out.fut hb)
   replace BH:=zH (BH.out.fut hb)
   clear hb
   have cH:=fun i=>BH.out.cell i
   go_wp2_with fail
   go_ret
   exact ⟨rfl,FR.out.out⟩
  ·have u4:decide (need < 0)=false:=by simp;omega
   rw [if_neg d]
   clear d
   go_enter Tryz.func82,Tryz.ntmps82
   go_wp2_with fail
   clear hw_w1 hw_w2 cS cH
   refine (EL.out _).mono ?_
   rintro e w3 ⟨rfl,hb⟩
   replace FR:=zH (FR.out.fut hb)
   replace BH:=zH (BH.out.fut hb)
   clear hb
   have cH:=fun i=>BH.out.cell i
   go_wp2_with fail
   go_ret
   exact ⟨rfl,FR.out.out⟩
set_option maxHeartbeats 16000000 in
theorem rkshape_any_1 (h v c h2 v2 c2:Int) (d:Node) (W:Option Addr) (nw cw:Nat) (B:Option Addr) (nb cb:Nat) (w:World) (i0:InK .i64 h) (i1:InK .i64 v) (i2:InK .i64 c) (hout:InK .i64 d.out) (hp:InK .i64 d.p) (hnw:nw=d.w.length) (hnb:nb=d.bias.length) (mw:nw≤1048576) (mb:nb≤1048576) (e:d.kind=1) :
  Calls Tryz.prog 41 #[.agg (nN d.kind d.a d.b d.k d.s d.p d.out d.za d.zb W nw cw B nb cb d.qm d.qs d.qz d.rm d.rs d.rz d.lo d.hi),.agg (sN h v c),.agg (sN h2 v2 c2)] w fun e w'=>e=retS (shapeV h v c h2 v2 c2 d)∧Below w.heap.size w w':=by
 obtain ⟨r,hr⟩:∃ r,shapeV h v c h2 v2 c2 d=r:=⟨_,rfl⟩
 rw [hr]
 unfold shapeV at hr
 have VV:=zH hr.symm
 clear hr
 have FR:=zH (Far.refl w)
 obtain ⟨w1,hw_w1,BN,k_w1⟩:=nB w (nN d.kind d.a d.b d.k d.s d.p d.out d.za d.zb W nw cw B nb cb d.qm d.qs d.qz d.rm d.rs d.rz d.lo d.hi) 70
 replace FR:=zH (FR.out.fut k_w1)
 clear k_w1
 obtain ⟨w2,hw_w2,BA,k_w2⟩:=nB w1 (sN h v c) 23
 replace FR:=zH (FR.out.fut k_w2)
 replace BN:=zH (BN.out.fut k_w2)
 clear k_w2
 obtain ⟨w3,hw_w3,BB,k_w3⟩:=nB w2 (sN h2 v2 c2) 23
 replace FR:=zH (FR.out.fut k_w3)
 replace BN:=zH (BN.out.fut k_w3)
 replace BA:=zH (BA.out.fut k_w3)
 clear k_w3
 obtain ⟨w4,hw_w4,BR,k_w4⟩:=nB w3 (sN 0 0 0) 23
 replace FR:=zH (FR.out.fut k_w4)
 replace BN:=zH (BN.out.fut k_w4)
 replace BA:=zH (BA.out.fut k_w4)
 replace BB:=zH (BB.out.fut k_w4)
 clear k_w4
 have l1:w.heap.size < w1.heap.size:=by rw [← hw_w1];simp
 have l2:w1.heap.size < w2.heap.size:=by rw [← hw_w2];simp
 have l3:w2.heap.size < w3.heap.size:=by rw [← hw_w3];simp
 have l4:w3.heap.size < w4.heap.size:=by rw [← hw_w4];simp
 have n0:=BN.out.cell 0
 ·skip
  have k1:(d.kind == 1)=true:=by simp [e]
  have k2:(d.kind == 2)=false:=by simp [e]
  have k3:(d.kind == 3)=false:=by simp [e]
  have k4:(d.kind == 4)=false:=by simp [e]
  have k5:(d.kind == 5)=false:=by simp [e]
  have k6:(d.kind == 6)=false:=by simp [e]
  have k8:(d.kind == 8)=false:=by simp [e]
  have k9:(d.kind == 9)=false:=by simp [e]
  have kl:decide (d.kind < 1)=false:=by simp [e]
  have kg:decide (9 < d.kind)=false:=by simp [e]
  have CN:=zH (fun w=>rconvShape_any h v c d W nw cw B nb cb w i0 i1 i2 hout hnw hnb mw mb)
  obtain ⟨⟨⟨x1,x2,x3⟩,xe⟩,hx⟩:∃ x,convV h v c d=x:=⟨_,rfl⟩
  have R:=zH (show r=((x1,x2,x3),xe) by rw [VV.out,← hx];simp [e])
  rw [hx] at CN
  simp only [retS] at CN
  clear VV hx e i0 i1 i2 hout hp hnw hnb mw mb
  go_enter Tryz.func41,Tryz.ntmps41
  go_wp2_with (first
   | (refine lB 23 (.tmp 4) w1.heap.size BA.out Tryz.underlying23 ?_)
   | (refine lB 70 (.tmp 3) w.heap.size BN.out Tryz.underlying70 ?_))
  clear hw_w1 hw_w2 hw_w3 hw_w4 n0
  refine (CN.out _).mono ?_
  rintro e w5 ⟨rfl,hb⟩
  replace FR:=zH (FR.out.fut hb)
  replace BN:=zH (BN.out.fut hb)
  replace BA:=zH (BA.out.fut hb)
  replace BB:=zH (BB.out.fut hb)
  replace BR:=zH (BR.out.fut hb)
  clear hb
  go_wp2_with (first
   | (refine sB 23 (.tmp 6) (.tmp 15) w3.heap.size (sN x1 x2 x3) BR.out ?_;intro w7 BR7 g7))
  refine rC BR7 Tryz.underlying23 ?_;exact ⟨by rw [R.out];rfl,(FR.out.away g7 (by omega)).out⟩
set_option maxHeartbeats 16000000 in
theorem rkshape_any_2 (h v c h2 v2 c2:Int) (d:Node) (W:Option Addr) (nw cw:Nat) (B:Option Addr) (nb cb:Nat) (w:World) (i0:InK .i64 h) (i1:InK .i64 v) (i2:InK .i64 c) (hout:InK .i64 d.out) (hp:InK .i64 d.p) (hnw:nw=d.w.length) (hnb:nb=d.bias.length) (mw:nw≤1048576) (mb:nb≤1048576) (e:d.kind=2) :
  Calls Tryz.prog 41 #[.agg (nN d.kind d.a d.b d.k d.s d.p d.out d.za d.zb W nw cw B nb cb d.qm d.qs d.qz d.rm d.rs d.rz d.lo d.hi),.agg (sN h v c),.agg (sN h2 v2 c2)] w fun e w'=>e=retS (shapeV h v c h2 v2 c2 d)∧Below w.heap.size w w':=by
 obtain ⟨r,hr⟩:∃ r,shapeV h v c h2 v2 c2 d=r:=⟨_,rfl⟩
 rw [hr]
 unfold shapeV at hr
 have VV:=zH hr.symm
 clear hr
 have FR:=zH (Far.refl w)
 obtain ⟨w1,hw_w1,BN,k_w1⟩:=nB w (nN d.kind d.a d.b d.k d.s d.p d.out d.za d.zb W nw cw B nb cb d.qm d.qs d.qz d.rm d.rs d.rz d.lo d.hi) 70
 replace FR:=zH (FR.out.fut k_w1)
 clear k_w1
 obtain ⟨w2,hw_w2,BA,k_w2⟩:=nB w1 (sN h v c) 23
 replace FR:=zH (FR.out.fut k_w2)
 replace BN:=zH (BN.out.fut k_w2)
 clear k_w2
 obtain ⟨w3,hw_w3,BB,k_w3⟩:=nB w2 (sN h2 v2 c2) 23
 replace FR:=zH (FR.out.fut k_w3)
 replace BN:=zH (BN.out.fut k_w3)
 replace BA:=zH (BA.out.fut k_w3)
 clear k_w3
 obtain ⟨w4,hw_w4,BR,k_w4⟩:=nB w3 (sN 0 0 0) 23
 replace FR:=zH (FR.out.fut k_w4)
 replace BN:=zH (BN.out.fut k_w4)
 replace BA:=zH (BA.out.fut k_w4)
 replace BB:=zH (BB.out.fut k_w4)
 clear k_w4
 have l1:w.heap.size < w1.heap.size:=by rw [← hw_w1];simp
 have l2:w1.heap.size < w2.heap.size:=by rw [← hw_w2];simp
 have l3:w2.heap.size < w3.heap.size:=by rw [← hw_w3];simp
 have l4:w3.heap.size < w4.heap.size:=by rw [← hw_w4];simp
 have n0:=BN.out.cell 0
 ·skip
  have k1:(d.kind == 1)=false:=by simp [e]
  have k2:(d.kind == 2)=true:=by simp [e]
  have k3:(d.kind == 3)=false:=by simp [e]
  have k4:(d.kind == 4)=false:=by simp [e]
  have k5:(d.kind == 5)=false:=by simp [e]
  have k6:(d.kind == 6)=false:=by simp [e]
  have k8:(d.kind == 8)=false:=by simp [e]
  have k9:(d.kind == 9)=false:=by simp [e]
  have kl:decide (d.kind < 1)=false:=by simp [e]
  have kg:decide (9 < d.kind)=false:=by simp [e]
  have CN:=zH (fun w=>rdepthShape_any h v c d W nw cw B nb cb w i0 i1 i2 hout hnw hnb mw mb)
  obtain ⟨⟨⟨x1,x2,x3⟩,xe⟩,hx⟩:∃ x,depthV h v c d=x:=⟨_,rfl⟩
  have R:=zH (show r=((x1,x2,x3),xe) by rw [VV.out,← hx];simp [e])
  rw [hx] at CN
  simp only [retS] at CN
  clear VV hx e i0 i1 i2 hout hp hnw hnb mw mb
  go_enter Tryz.func41,Tryz.ntmps41
  go_wp2_with (first
   | (refine lB 23 (.tmp 4) w1.heap.size BA.out Tryz.underlying23 ?_)
   | (refine lB 70 (.tmp 3) w.heap.size BN.out Tryz.underlying70 ?_))
  clear hw_w1 hw_w2 hw_w3 hw_w4 n0
  refine (CN.out _).mono ?_
  rintro e w5 ⟨rfl,hb⟩
  replace FR:=zH (FR.out.fut hb)
  replace BN:=zH (BN.out.fut hb)
  replace BA:=zH (BA.out.fut hb)
  replace BB:=zH (BB.out.fut hb)
  replace BR:=zH (BR.out.fut hb)
  clear hb
  go_wp2_with (first
   | (refine sB 23 (.tmp 6) (.tmp 23) w3.heap.size (sN x1 x2 x3) BR.out ?_;intro w7 BR7 g7))
  refine rC BR7 Tryz.underlying23 ?_;exact ⟨by rw [R.out];rfl,(FR.out.away g7 (by omega)).out⟩
set_option maxHeartbeats 16000000 in
theorem rkshape_any_3 (h v c h2 v2 c2:Int) (d:Node) (W:Option Addr) (nw cw:Nat) (B:Option Addr) (nb cb:Nat) (w:World) (i0:InK .i64 h) (i1:InK .i64 v) (i2:InK .i64 c) (hout:InK .i64 d.out) (hp:InK .i64 d.p) (hnw:nw=d.w.length) (hnb:nb=d.bias.length) (mw:nw≤1048576) (mb:nb≤1048576) (e:d.kind=3) :
  Calls Tryz.prog 41 #[.agg (nN d.kind d.a d.b d.k d.s d.p d.out d.za d.zb W nw cw B nb cb d.qm d.qs d.qz d.rm d.rs d.rz d.lo d.hi),.agg (sN h v c),.agg (sN h2 v2 c2)] w fun e w'=>e=retS (shapeV h v c h2 v2 c2 d)∧Below w.heap.size w w':=by
 obtain ⟨r,hr⟩:∃ r,shapeV h v c h2 v2 c2 d=r:=⟨_,rfl⟩
 rw [hr]
 unfold shapeV at hr
 have VV:=zH hr.symm
 clear hr
 have FR:=zH (Far.refl w)
 obtain ⟨w1,hw_w1,BN,k_w1⟩:=nB w (nN d.kind d.a d.b d.k d.s d.p d.out d.za d.zb W nw cw B nb cb d.qm d.qs d.qz d.rm d.rs d.rz d.lo d.hi) 70
 replace FR:=zH (FR.out.fut k_w1)
 clear k_w1
 obtain ⟨w2,hw_w2,BA,k_w2⟩:=nB w1 (sN h v c) 23
 replace FR:=zH (FR.out.fut k_w2)
 replace BN:=zH (BN.out.fut k_w2)
 clear k_w2
 obtain ⟨w3,hw_w3,BB,k_w3⟩:=nB w2 (sN h2 v2 c2) 23
 replace FR:=zH (FR.out.fut k_w3)
 replace BN:=zH (BN.out.fut k_w3)
 replace BA:=zH (BA.out.fut k_w3)
 clear k_w3
 obtain ⟨w4,hw_w4,BR,k_w4⟩:=nB w3 (sN 0 0 0) 23
 replace FR:=zH (FR.out.fut k_w4)
 replace BN:=zH (BN.out.fut k_w4)
 replace BA:=zH (BA.out.fut k_w4)
 replace BB:=zH (BB.out.fut k_w4)
 clear k_w4
 have l1:w.heap.size < w1.heap.size:=by rw [← hw_w1];simp
 have l2:w1.heap.size < w2.heap.size:=by rw [← hw_w2];simp
 have l3:w2.heap.size < w3.heap.size:=by rw [← hw_w3];simp
 have l4:w3.heap.size < w4.heap.size:=by rw [← hw_w4];simp
 have n0:=BN.out.cell 0
 ·skip
  have k1:(d.kind == 1)=false:=by simp [e]
  have k2:(d.kind == 2)=false:=by simp [e]
  have k3:(d.kind == 3)=true:=by simp [e]
  have k4:(d.kind == 4)=false:=by simp [e]
  have k5:(d.kind == 5)=false:=by simp [e]
  have k6:(d.kind == 6)=false:=by simp [e]
  have k8:(d.kind == 8)=false:=by simp [e]
  have k9:(d.kind == 9)=false:=by simp [e]
  have kl:decide (d.kind < 1)=false:=by simp [e]
  have kg:decide (9 < d.kind)=false:=by simp [e]
  have CN:=zH (fun w=>rdense25_any h v c d W nw cw B nb cb w i0 i1 i2 hout hnw hnb mw mb)
  obtain ⟨⟨⟨x1,x2,x3⟩,xe⟩,hx⟩:∃ x,denseV h v c d=x:=⟨_,rfl⟩
  have R:=zH (show r=((x1,x2,x3),xe) by rw [VV.out,← hx];simp [e])
  rw [hx] at CN
  simp only [retS] at CN
  clear VV hx e i0 i1 i2 hout hp hnw hnb mw mb
  go_enter Tryz.func41,Tryz.ntmps41
  go_wp2_with (first
   | (refine lB 23 (.tmp 4) w1.heap.size BA.out Tryz.underlying23 ?_)
   | (refine lB 70 (.tmp 3) w.heap.size BN.out Tryz.underlying70 ?_))
  clear hw_w1 hw_w2 hw_w3 hw_w4 n0
  refine (CN.out _).mono ?_
  rintro e w5 ⟨rfl,hb⟩
  replace FR:=zH (FR.out.fut hb)
  replace BN:=zH (BN.out.fut hb)
  replace BA:=zH (BA.out.fut hb)
  replace BB:=zH (BB.out.fut hb)
  replace BR:=zH (BR.out.fut hb)
  clear hb
  go_wp2_with (first
   | (refine sB 23 (.tmp 6) (.tmp 31) w3.heap.size (sN x1 x2 x3) BR.out ?_;intro w7 BR7 g7))
  refine rC BR7 Tryz.underlying23 ?_;exact ⟨by rw [R.out];rfl,(FR.out.away g7 (by omega)).out⟩
set_option maxHeartbeats 16000000 in
theorem rkshape_any_4 (h v c h2 v2 c2:Int) (d:Node) (W:Option Addr) (nw cw:Nat) (B:Option Addr) (nb cb:Nat) (w:World) (i0:InK .i64 h) (i1:InK .i64 v) (i2:InK .i64 c) (hout:InK .i64 d.out) (hp:InK .i64 d.p) (hnw:nw=d.w.length) (hnb:nb=d.bias.length) (mw:nw≤1048576) (mb:nb≤1048576) (e:d.kind=4) :
  Calls Tryz.prog 41 #[.agg (nN d.kind d.a d.b d.k d.s d.p d.out d.za d.zb W nw cw B nb cb d.qm d.qs d.qz d.rm d.rs d.rz d.lo d.hi),.agg (sN h v c),.agg (sN h2 v2 c2)] w fun e w'=>e=retS (shapeV h v c h2 v2 c2 d)∧Below w.heap.size w w':=by
 obtain ⟨r,hr⟩:∃ r,shapeV h v c h2 v2 c2 d=r:=⟨_,rfl⟩
 rw [hr]
 unfold shapeV at hr
 have VV:=zH hr.symm
 clear hr
 have FR:=zH (Far.refl w)
 obtain ⟨w1,hw_w1,BN,k_w1⟩:=nB w (nN d.kind d.a d.b d.k d.s d.p d.out d.za d.zb W nw cw B nb cb d.qm d.qs d.qz d.rm d.rs d.rz d.lo d.hi) 70
 replace FR:=zH (FR.out.fut k_w1)
 clear k_w1
 obtain ⟨w2,hw_w2,BA,k_w2⟩:=nB w1 (sN h v c) 23
 replace FR:=zH (FR.out.fut k_w2)
 replace BN:=zH (BN.out.fut k_w2)
 clear k_w2
 obtain ⟨w3,hw_w3,BB,k_w3⟩:=nB w2 (sN h2 v2 c2) 23
 replace FR:=zH (FR.out.fut k_w3)
 replace BN:=zH (BN.out.fut k_w3)
 replace BA:=zH (BA.out.fut k_w3)
 clear k_w3
 obtain ⟨w4,hw_w4,BR,k_w4⟩:=nB w3 (sN 0 0 0) 23
 replace FR:=zH (FR.out.fut k_w4)
 replace BN:=zH (BN.out.fut k_w4)
 replace BA:=zH (BA.out.fut k_w4)
 replace BB:=zH (BB.out.fut k_w4)
 clear k_w4
 have l1:w.heap.size < w1.heap.size:=by rw [← hw_w1];simp
 have l2:w1.heap.size < w2.heap.size:=by rw [← hw_w2];simp
 have l3:w2.heap.size < w3.heap.size:=by rw [← hw_w3];simp
 have l4:w3.heap.size < w4.heap.size:=by rw [← hw_w4];simp
 have n0:=BN.out.cell 0
 ·skip
  have k1:(d.kind == 1)=false:=by simp [e]
  have k2:(d.kind == 2)=false:=by simp [e]
  have k3:(d.kind == 3)=false:=by simp [e]
  have k4:(d.kind == 4)=true:=by simp [e]
  have k5:(d.kind == 5)=false:=by simp [e]
  have k6:(d.kind == 6)=false:=by simp [e]
  have k8:(d.kind == 8)=false:=by simp [e]
  have k9:(d.kind == 9)=false:=by simp [e]
  have kl:decide (d.kind < 1)=false:=by simp [e]
  have kg:decide (9 < d.kind)=false:=by simp [e]
  have CN:=zH (fun w=>rslide_any h v c d.k d.s d.p c w i0 i1 i2 i2)
  have n3:=BN.out.cell 3
  have n4:=BN.out.cell 4
  have n5:=BN.out.cell 5
  have a2:=BA.out.cell 2
  obtain ⟨⟨⟨x1,x2,x3⟩,xe⟩,hx⟩:∃ x,slideV h v c d.k d.s d.p c=x:=⟨_,rfl⟩
  have R:=zH (show r=((x1,x2,x3),xe) by rw [VV.out,← hx];simp [e])
  rw [hx] at CN
  simp only [retS] at CN
  clear VV hx e i0 i1 i2 hout hp hnw hnb mw mb
  go_enter Tryz.func41,Tryz.ntmps41
  go_wp2_with (first
   | (refine lB 23 (.tmp 4) w1.heap.size BA.out Tryz.underlying23 ?_))
  clear hw_w1 hw_w2 hw_w3 hw_w4 n0 n3 n4 n5 a2
  refine (CN.out _).mono ?_
  rintro e w5 ⟨rfl,hb⟩
  replace FR:=zH (FR.out.fut hb)
  replace BN:=zH (BN.out.fut hb)
  replace BA:=zH (BA.out.fut hb)
  replace BB:=zH (BB.out.fut hb)
  replace BR:=zH (BR.out.fut hb)
  clear hb
  go_wp2_with (first
   | (refine sB 23 (.tmp 6) (.tmp 51) w3.heap.size (sN x1 x2 x3) BR.out ?_;intro w7 BR7 g7))
  refine rC BR7 Tryz.underlying23 ?_;exact ⟨by rw [R.out];rfl,(FR.out.away g7 (by omega)).out⟩
set_option maxHeartbeats 16000000 in
theorem rkshape_any_5 (h v c h2 v2 c2:Int) (d:Node) (W:Option Addr) (nw cw:Nat) (B:Option Addr) (nb cb:Nat) (w:World) (i0:InK .i64 h) (i1:InK .i64 v) (i2:InK .i64 c) (hout:InK .i64 d.out) (hp:InK .i64 d.p) (hnw:nw=d.w.length) (hnb:nb=d.bias.length) (mw:nw≤1048576) (mb:nb≤1048576) (e:d.kind=5) :
  Calls Tryz.prog 41 #[.agg (nN d.kind d.a d.b d.k d.s d.p d.out d.za d.zb W nw cw B nb cb d.qm d.qs d.qz d.rm d.rs d.rz d.lo d.hi),.agg (sN h v c),.agg (sN h2 v2 c2)] w fun e w'=>e=retS (shapeV h v c h2 v2 c2 d)∧Below w.heap.size w w':=by
 obtain ⟨r,hr⟩:∃ r,shapeV h v c h2 v2 c2 d=r:=⟨_,rfl⟩
 rw [hr]
 unfold shapeV at hr
 have VV:=zH hr.symm
 clear hr
 have FR:=zH (Far.refl w)
 obtain ⟨w1,hw_w1,BN,k_w1⟩:=nB w (nN d.kind d.a d.b d.k d.s d.p d.out d.za d.zb W nw cw B nb cb d.qm d.qs d.qz d.rm d.rs d.rz d.lo d.hi) 70
 replace FR:=zH (FR.out.fut k_w1)
 clear k_w1
 obtain ⟨w2,hw_w2,BA,k_w2⟩:=nB w1 (sN h v c) 23
 replace FR:=zH (FR.out.fut k_w2)
 replace BN:=zH (BN.out.fut k_w2)
 clear k_w2
 obtain ⟨w3,hw_w3,BB,k_w3⟩:=nB w2 (sN h2 v2 c2) 23
 replace FR:=zH (FR.out.fut k_w3)
 replace BN:=zH (BN.out.fut k_w3)
 replace BA:=zH (BA.out.fut k_w3)
 clear k_w3
 obtain ⟨w4,hw_w4,BR,k_w4⟩:=nB w3 (sN 0 0 0) 23
 replace FR:=zH (FR.out.fut k_w4)
 replace BN:=zH (BN.out.fut k_w4)
 replace BA:=zH (BA.out.fut k_w4)
 replace BB:=zH (BB.out.fut k_w4)
 clear k_w4
 have l1:w.heap.size < w1.heap.size:=by rw [← hw_w1];simp
 have l2:w1.heap.size < w2.heap.size:=by rw [← hw_w2];simp
 have l3:w2.heap.size < w3.heap.size:=by rw [← hw_w3];simp
 have l4:w3.heap.size < w4.heap.size:=by rw [← hw_w4];simp
 have n0:=BN.out.cell 0
 ·skip
  have k1:(d.kind == 1)=false:=by simp [e]
  have k2:(d.kind == 2)=false:=by simp [e]
  have k3:(d.kind == 3)=false:=by simp [e]
  have k4:(d.kind == 4)=false:=by simp [e]
  have k5:(d.kind == 5)=true:=by simp [e]
  have k6:(d.kind == 6)=false:=by simp [e]
  have k8:(d.kind == 8)=false:=by simp [e]
  have k9:(d.kind == 9)=false:=by simp [e]
  have kl:decide (d.kind < 1)=false:=by simp [e]
  have kg:decide (9 < d.kind)=false:=by simp [e]
  have CN:=zH (fun w=>rslide_any h v c d.k d.s d.p c w i0 i1 i2 i2)
  have n3:=BN.out.cell 3
  have n4:=BN.out.cell 4
  have n5:=BN.out.cell 5
  have a2:=BA.out.cell 2
  obtain ⟨⟨⟨x1,x2,x3⟩,xe⟩,hx⟩:∃ x,slideV h v c d.k d.s d.p c=x:=⟨_,rfl⟩
  have R:=zH (show r=((x1,x2,x3),xe) by rw [VV.out,← hx];simp [e])
  rw [hx] at CN
  simp only [retS] at CN
  clear VV hx e i0 i1 i2 hout hp hnw hnb mw mb
  go_enter Tryz.func41,Tryz.ntmps41
  go_wp2_with (first
   | (refine lB 23 (.tmp 4) w1.heap.size BA.out Tryz.underlying23 ?_))
  clear hw_w1 hw_w2 hw_w3 hw_w4 n0 n3 n4 n5 a2
  refine (CN.out _).mono ?_
  rintro e w5 ⟨rfl,hb⟩
  replace FR:=zH (FR.out.fut hb)
  replace BN:=zH (BN.out.fut hb)
  replace BA:=zH (BA.out.fut hb)
  replace BB:=zH (BB.out.fut hb)
  replace BR:=zH (BR.out.fut hb)
  clear hb
  go_wp2_with (first
   | (refine sB 23 (.tmp 6) (.tmp 51) w3.heap.size (sN x1 x2 x3) BR.out ?_;intro w7 BR7 g7))
  refine rC BR7 Tryz.underlying23 ?_;exact ⟨by rw [R.out];rfl,(FR.out.away g7 (by omega)).out⟩
set_option maxHeartbeats 16000000 in
theorem rkshape_any_9 (h v c h2 v2 c2:Int) (d:Node) (W:Option Addr) (nw cw:Nat) (B:Option Addr) (nb cb:Nat) (w:World) (i0:InK .i64 h) (i1:InK .i64 v) (i2:InK .i64 c) (hout:InK .i64 d.out) (hp:InK .i64 d.p) (hnw:nw=d.w.length) (hnb:nb=d.bias.length) (mw:nw≤1048576) (mb:nb≤1048576) (e:d.kind=9) :
  Calls Tryz.prog 41 #[.agg (nN d.kind d.a d.b d.k d.s d.p d.out d.za d.zb W nw cw B nb cb d.qm d.qs d.qz d.rm d.rs d.rz d.lo d.hi),.agg (sN h v c),.agg (sN h2 v2 c2)] w fun e w'=>e=retS (shapeV h v c h2 v2 c2 d)∧Below w.heap.size w w':=by
 obtain ⟨r,hr⟩:∃ r,shapeV h v c h2 v2 c2 d=r:=⟨_,rfl⟩
 rw [hr]
 unfold shapeV at hr
 have VV:=zH hr.symm
 clear hr
 have FR:=zH (Far.refl w)
 obtain ⟨w1,hw_w1,BN,k_w1⟩:=nB w (nN d.kind d.a d.b d.k d.s d.p d.out d.za d.zb W nw cw B nb cb d.qm d.qs d.qz d.rm d.rs d.rz d.lo d.hi) 70
 replace FR:=zH (FR.out.fut k_w1)
 clear k_w1
 obtain ⟨w2,hw_w2,BA,k_w2⟩:=nB w1 (sN h v c) 23
 replace FR:=zH (FR.out.fut k_w2)
 replace BN:=zH (BN.out.fut k_w2)
 clear k_w2
 obtain ⟨w3,hw_w3,BB,k_w3⟩:=nB w2 (sN h2 v2 c2) 23
 replace FR:=zH (FR.out.fut k_w3)
 replace BN:=zH (BN.out.fut k_w3)
 replace BA:=zH (BA.out.fut k_w3)
 clear k_w3
 obtain ⟨w4,hw_w4,BR,k_w4⟩:=nB w3 (sN 0 0 0) 23
 replace FR:=zH (FR.out.fut k_w4)
 replace BN:=zH (BN.out.fut k_w4)
 replace BA:=zH (BA.out.fut k_w4)
 replace BB:=zH (BB.out.fut k_w4)
 clear k_w4
 have l1:w.heap.size < w1.heap.size:=by rw [← hw_w1];simp
 have l2:w1.heap.size < w2.heap.size:=by rw [← hw_w2];simp
 have l3:w2.heap.size < w3.heap.size:=by rw [← hw_w3];simp
 have l4:w3.heap.size < w4.heap.size:=by rw [← hw_w4];simp
 have n0:=BN.out.cell 0
 ·skip
  have k1:(d.kind == 1)=false:=by simp [e]
  have k2:(d.kind == 2)=false:=by simp [e]
  have k3:(d.kind == 3)=false:=by simp [e]
  have k4:(d.kind == 4)=false:=by simp [e]
  have k5:(d.kind == 5)=false:=by simp [e]
  have k6:(d.kind == 6)=false:=by simp [e]
  have k8:(d.kind == 8)=false:=by simp [e]
  have k9:(d.kind == 9)=true:=by simp [e]
  have kl:decide (d.kind < 1)=false:=by simp [e]
  have kg:decide (9 < d.kind)=false:=by simp [e]
  have RE:=zH (fun w=>relems_any h c v w i0 i1 i2)
  have EB:=zH (elems_bd (h:=h) (v:=v) (c:=c))
  have m0:=(elems_range h v c).1
  have V1:=zH (show r=plainV d.kind h v c h2 v2 c2 d.p by rw [VV.out];simp [e])
  have V1':=V1.out
  unfold plainV at V1'
  obtain ⟨m,hm⟩:∃ m,elems h v c=m:=⟨_,rfl⟩
  obtain ⟨eq,he⟩:∃ x,([h,v,c] == [h2,v2,c2])=x:=⟨_,rfl⟩
  have QE:=zH (fun w=>eq_shape w h v c h2 v2 c2)
  rw [hm,he] at V1'
  rw [hm] at RE EB m0
  rw [he] at QE
  replace V1:=zH V1'
  clear V1' hm he VV i0 i1 i2 hout hp hnw hnb mw mb
  by_cases c1:m=0
  ·have t1:(m == 0)=true:=by simp [c1]
   have R:=zH (show r=noS 5 by rw [V1.out,if_pos c1])
   clear c1 V1 m0 EB e
   go_enter Tryz.func41,Tryz.ntmps41
   go_wp2_with (first
    | (refine lB 23 (.tmp 4) w1.heap.size BA.out Tryz.underlying23 ?_))
   clear hw_w1 hw_w2 hw_w3 hw_w4 n0
   refine (RE.out _).mono ?_
   rintro e w5 ⟨rfl,hb⟩
   replace FR:=zH (FR.out.fut hb)
   replace BN:=zH (BN.out.fut hb)
   replace BA:=zH (BA.out.fut hb)
   replace BB:=zH (BB.out.fut hb)
   replace BR:=zH (BR.out.fut hb)
   clear hb
   have n0:=BN.out.cell 0
   go_upto_region 12 with (fail)
   go_wp2_with (first
    | (refine sB 23 (.tmp 6) (.tmp 75) w3.heap.size (sN 0 0 0) BR.out ?_;intro w7 BR7 g7))
   refine rC BR7 Tryz.underlying23 ?_;exact ⟨by rw [R.out];rfl,(FR.out.away g7 (by omega)).out⟩
  have t1:(m == 0)=false:=by simpa using c1
  have V2:=zH (show r=(if d.kind=6∧eq=false then noS 5 else if d.kind=8 then aroundV h v c d.p else if d.kind=9 then ((1,1,m),0) else ((h,v,c),0)) by rw [V1.out,if_neg c1])
  have eb:=EB.out c1
  clear V1 c1 m0 EB
  have R:=zH (show r=((1,1,m),0) by rw [V2.out];simp [e])
  clear V2 e QE eb
  go_enter Tryz.func41,Tryz.ntmps41
  go_wp2_with (first
   | (refine lB 23 (.tmp 4) w1.heap.size BA.out Tryz.underlying23 ?_))
  clear hw_w1 hw_w2 hw_w3 hw_w4 n0
  refine (RE.out _).mono ?_
  rintro e w5 ⟨rfl,hb⟩
  replace FR:=zH (FR.out.fut hb)
  replace BN:=zH (BN.out.fut hb)
  replace BA:=zH (BA.out.fut hb)
  replace BB:=zH (BB.out.fut hb)
  replace BR:=zH (BR.out.fut hb)
  clear hb
  have n0:=BN.out.cell 0
  go_upto_region 14 with (fail)
  go_wp2_with (first
   | (refine lB 23 (.tmp 4) w1.heap.size BA.out Tryz.underlying23 ?_))
  clear n0
  refine (RE.out _).mono ?_
  rintro e w6 ⟨rfl,hb⟩
  replace FR:=zH (FR.out.fut hb)
  replace BN:=zH (BN.out.fut hb)
  replace BA:=zH (BA.out.fut hb)
  replace BB:=zH (BB.out.fut hb)
  replace BR:=zH (BR.out.fut hb)
  clear hb
  go_wp2_with (first
   | (refine sB 23 (.tmp 6) (.tmp 81) w3.heap.size (sN 1 1 m) BR.out ?_;intro w7 BR7 g7))
  refine rC BR7 Tryz.underlying23 ?_;exact ⟨by rw [R.out];rfl,(FR.out.away g7 (by omega)).out⟩
end Go.Proofs.YthjmghjfklkmbaaGreat
