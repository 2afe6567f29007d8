/-
  Between which numbers lies the next value (layer 32): guard.step.
-/
import Derived.Test.YtppcjcigekoipaaGreatJ29
set_option linter.unusedVariables false
set_option linter.unusedSimpArgs false
namespace Go.Proofs.YtppcjcigekoipaaGreat
open Go.RowKit Go.ChangeShapes Go.WideShapes
set_option maxRecDepth 100000
set_option maxHeartbeats 8000000
def stepR (d:Node) (out:List (Int × Int)):(Int × Int) × Int:=if thereV d out.length=false then ((0,0),8) else nodeR d (out.getD d.a.toNat (0,0)) (out.getD (secondV d).toNat (0,0))
theorem _root_.Go.World.rangeAt.fut {w w':World} {b o:Nat} {vs:List Value} (h:w.rangeAt b o vs) (hb:Below w.heap.size w w'):w'.rangeAt b o vs:=fun j v hv=>cell_later hb (h j v hv)
theorem guardStep_any (d:Node) (W:Option Addr) (nw cw:Nat) (B:Option Addr) (nb cb:Nat) (A:Option Addr) (n cap:Nat) (out:List (Int × Int)) (w:World) (hw:Sl (tInt .i8) w (blo w.heap.size) W nw cw d.w) (hb:Sl (tInt .i32) w (blo w.heap.size) B nb cb d.bias) (hd:NodeIn d)
  (hs:Sl (tRg .i8) w (blo w.heap.size) A n cap out) (mw:nw≤16384) (mb:nb≤16384) (hw1:sumsK d.kind=true → 1≤nw) :
  Calls Tryz.prog 133 #[.agg (nN d.kind d.a d.b d.k d.s d.p d.out d.za d.zb W nw cw B nb cb d.qm d.qs d.qz d.rm d.rs d.rz d.lo d.hi),.slice A n cap] w (RetR (stepR d out) w):=by
 have GN:=zH (fun x x' y y' w hw hb x1 x2 y1 y2=>guardNode_any d W nw cw B nb cb x x' y y' w hw hb hd x1 x2 y1 y2 mw mb hw1)
 have HB:=zH (Old.now hb)
 have HW:=zH (Old.now hw)
 have HS:=zH (Old.now hs)
 have HN:=zH hs.n_eq
 have HD:=zH hd
 have hmax:n≤9223372036854775807:=Nat.le_trans hs.cap_le hs.max_le
 have FR:=zH (Far.refl w)
 obtain ⟨r,hr⟩:∃ r,stepR d out=r:=⟨_,rfl⟩
 rw [hr]
 clear hw hb hd hs
 obtain ⟨w1,hw_w1,BN,k_w1⟩:=nB w (nN d.kind d.a d.b d.k d.s d.p d.out d.za d.zb W nw cw B nb cb d.qm d.qs d.qz d.rm d.rs d.rz d.lo d.hi) 87
 replace FR:=zH (FR.out.fut k_w1)
 replace HS:=zH (HS.out.fut k_w1)
 clear k_w1
 obtain ⟨w2,hw_w2,BR,k_w2⟩:=nB w1 #[.int .i8 0,.int .i8 0] 196
 replace FR:=zH (FR.out.fut k_w2)
 replace BN:=zH (BN.out.fut k_w2)
 replace HS:=zH (HS.out.fut k_w2)
 clear k_w2
 have l1:w.heap.size < w1.heap.size:=by rw [← hw_w1];simp
 have l2:w1.heap.size < w2.heap.size:=by rw [← hw_w2];simp
 go_enter Tryz.func133,Tryz.ntmps133
 obtain ⟨k6,hk6⟩:∃ b,(d.kind == 6)=b:=⟨_,rfl⟩
 cases k6 with
 | true =>
  have t6:(d.kind == 6)=true:=hk6
  have HSE:=zH (show secondV d=d.b by unfold secondV;rw [if_pos (by simpa using hk6)])
  by_cases ct:thereV d n=true
  rotate_left
  ·have VV:=zH (show r=((0,0),8) by rw [hr.symm];unfold stepR;rw [HN.out,if_pos (by simpa using ct)])
   have CC:=zH (show min d.a d.b < 0 ∨ ¬ max d.a d.b < (n:Int) by
    by_cases q:min d.a d.b < 0
    ·exact .inl q
    ·refine .inr fun q2=>ct ?_
     unfold thereV
     rw [decide_eq_true (by omega),Bool.true_and]
     rw [decide_eq_true (show 0≤d.b∧d.b < (n:Int) by omega),Bool.or_true])
   obtain ⟨u,hu⟩:∃ u,min d.a d.b=u:=⟨_,rfl⟩
   obtain ⟨v,hv⟩:∃ u,max d.a d.b=u:=⟨_,rfl⟩
   have OF:=zH (show ofR d.a [d.b]=(u,v) by rw [← hu,← hv];rfl)
   rw [hu,hv] at CC
   have n0:=BN.out.cell 0
   have n1:=BN.out.cell 1
   have n2:=BN.out.cell 2
   simp only [gX] at n0 n1 n2
   clear hu hv ct hr hk6
   obtain ⟨w3,hw_w3,BL,k_w3⟩:=nB w2 #[.int .i64 d.b] 3
   replace FR:=zH (FR.out.fut k_w3)
   replace BR:=zH (BR.out.fut k_w3)
   clear k_w3
   by_cases cu:u < 0
   ·have tu:decide (u < 0)=true:=by simpa using cu
    go_wp2_with (first|(go_at_call 164;refine (ends_int d.a _ 1 1 [d.b] _ (Sl.lit _ BL.out.heap rfl (by intro x hx;simp only [List.mem_cons,List.not_mem_nil,or_false] at hx;subst hx;exact HD.out.b) BL.out.lt rfl rfl (by unfold maxLen;simp))).mono ?_;rintro e w4 ⟨rfl,rfl⟩;rw [OF.out];clear hw_w1 hw_w2 hw_w3)|(refine sB 196 (.tmp 4) (.tmp 32) w1.heap.size #[.int .i8 0,.int .i8 0] BR.out ?_;intro w9 B9 g9))
    refine rC B9 Tryz.underlying196 ?_
    exact ⟨by rw [VV.out] <;> rfl,(FR.out.away g9 (by omega)).out⟩
   ·have tu:decide (u < 0)=false:=by simpa using cu
    have tv:decide ((n:Int)≤v)=true:=by have:=CC.out;simp;omega
    go_wp2_with (first|(go_at_call 164;refine (ends_int d.a _ 1 1 [d.b] _ (Sl.lit _ BL.out.heap rfl (by intro x hx;simp only [List.mem_cons,List.not_mem_nil,or_false] at hx;subst hx;exact HD.out.b) BL.out.lt rfl rfl (by unfold maxLen;simp))).mono ?_;rintro e w4 ⟨rfl,rfl⟩;rw [OF.out];clear hw_w1 hw_w2 hw_w3)|(refine sB 196 (.tmp 4) (.tmp 32) w1.heap.size #[.int .i8 0,.int .i8 0] BR.out ?_;intro w9 B9 g9))
    refine rC B9 Tryz.underlying196 ?_
    exact ⟨by rw [VV.out] <;> rfl,(FR.out.away g9 (by omega)).out⟩
  ·have e1:(0≤d.a∧d.a < (n:Int))∧(0≤d.b∧d.b < (n:Int)):=by
    unfold thereV at ct
    rw [Bool.and_eq_true,decide_eq_true_eq] at ct
    have c2:=ct.2;rw [Bool.or_eq_true,decide_eq_true_eq,decide_eq_true_eq] at c2;exact ⟨ct.1,c2.resolve_left (by simpa using hk6)⟩
   obtain ⟨ia,hia⟩:∃ k:Nat,d.a=k:=⟨d.a.toNat,by omega⟩
   obtain ⟨ib,hib⟩:∃ k:Nat,d.b=k:=⟨d.b.toNat,by omega⟩
   have VV:=zH (show r=nodeR d (out.getD ia (0,0)) (out.getD ib (0,0)) by rw [hr.symm];unfold stepR;rw [HN.out,if_neg (by rw [ct];decide),HSE.out,show d.a.toNat=ia by omega,show d.b.toNat=ib by omega])
   obtain ⟨u,hu⟩:∃ u,min (ia:Int) (ib:Int)=u:=⟨_,rfl⟩
   obtain ⟨v,hv⟩:∃ u,max (ia:Int) (ib:Int)=u:=⟨_,rfl⟩
   have OF:=zH (show ofR (ia:Int) [(ib:Int)]=(u,v) by rw [← hu,← hv];rfl)
   have tu:decide (u < 0)=false:=by simp;omega
   have tv:decide ((n:Int)≤v)=false:=by simp;omega
   have IB:=zH (show InK .i64 (ib:Int) by have:=HD.out.b;rwa [hib] at this)
   have pa:(ia:Int) < (n:Int):=by omega
   have pb:(ib:Int) < (n:Int):=by omega
   obtain ⟨x,bo,oo,hx,rfl,-,-,x1,x2,q1⟩:=HS.out.out.rg_at ia (by omega)
   obtain ⟨y,bo',oo',hy,hA,-,-,y1,y2,q2⟩:=HS.out.out.rg_at ib (by omega)
   obtain ⟨rfl,rfl⟩:bo=bo'∧oo=oo':=by simpa using hA
   have Q1:=zH q1
   have Q2:=zH q2
   rw [show out.getD ia (0,0)=x by rw [List.getD_eq_getElem?_getD,hx];rfl,show out.getD ib (0,0)=y by rw [List.getD_eq_getElem?_getD,hy];rfl] at VV
   obtain ⟨x,x'⟩:=x
   obtain ⟨y,y'⟩:=y
   simp only at Q1 Q2 x1 x2 y1 y2
   replace GN:=zH (fun w hw hb=>GN.out x x' y y' w hw hb x1 x2 y1 y2)
   obtain ⟨⟨⟨z1,z2⟩,z3⟩,hz⟩:∃ z,nodeR d (x,x') (y,y')=z:=⟨_,rfl⟩
   rw [hz] at GN VV
   have n0:=BN.out.cell 0
   have n1:=BN.out.cell 1
   have n2:=BN.out.cell 2
   simp only [gX] at n0 n1 n2
   rw [hia] at n1
   rw [hib] at n2
   have BNa:=zH (show ∀ w',Blk w' w.heap.size 87 (nN d.kind d.a d.b d.k d.s d.p d.out d.za d.zb W nw cw B nb cb d.qm d.qs d.qz d.rm d.rs d.rz d.lo d.hi) → w'.cell? ⟨w.heap.size,1,none⟩=some (.int .i64 (ia:Int)) from fun w' h=>by have:=h.cell 1;simp only [gX] at this;rw [← hia];exact this)
   
   clear hu hv ct hr hk6 e1 hx hy hA q1 q2 x1 x2 y1 y2 hz hib
   clear hia
   obtain ⟨w3,hw_w3,BL,k_w3⟩:=nB w2 #[.int .i64 (ib:Int)] 3
   replace FR:=zH (FR.out.fut k_w3)
   replace BR:=zH (BR.out.fut k_w3)
   replace BN:=zH (BN.out.fut k_w3)
   replace HS:=zH (HS.out.fut k_w3)
   replace Q1:=zH (Q1.out.fut k_w3)
   replace Q2:=zH (Q2.out.fut k_w3)
   clear k_w3
   go_wp2_with (go_at_call 164;refine (ends_int (ia:Int) _ 1 1 [(ib:Int)] _ (Sl.lit _ BL.out.heap rfl (by intro x hx;simp only [List.mem_cons,List.not_mem_nil,or_false] at hx;subst hx;exact IB.out) BL.out.lt rfl rfl (by unfold maxLen;simp))).mono ?_;rintro e w4 ⟨rfl,rfl⟩;rw [OF.out])
   obtain ⟨w4,rfl⟩:∃ x,x=w3:=⟨_,rfl⟩
   clear hw_w1 hw_w2 hw_w3 n0 n1 n2
   have BND:=BN.out.drew
   refine wp_region_T (fun w'=>w'.cell? ⟨w.heap.size,1,none⟩=some (.int .i64 (ia:Int))∧Blk w' w.heap.size 87 (nN d.kind d.a d.b d.k d.s d.p d.out d.za d.zb W nw cw B nb cb d.qm d.qs d.qz d.rm d.rs d.rz d.lo d.hi)∧Below w4.heap.size w4 w') 13 (by kernel_rfl) ?_ (fun hS=>?_)
   ·exact ⟨BNa.out _ BND,BND,(Below.refl _ _).drew⟩
   refine tkT 0 rfl (yB 87 (.tmp 2) w.heap.size (fun w hs=>hs.2.1) Tryz.underlying87) hS ?_
   try simp only [pX]
   refine kT 1 rfl hS ?_
   try simp only [pX]
   refine kT 2 rfl hS ?_
   try simp only [pX]
   refine kT 3 rfl hS ?_
   try simp only [pX]
   refine kT 4 rfl hS ?_
   try simp only [pX]
   refine tkT 5 rfl (yieldsIf_load_mid (by rfl) 196 (.tmp 37) rfl bo (oo+ia*2) rfl _ _ (fun w hs j v hv=>cell_later hs.2.2 (Q1.out j v hv)) Tryz.underlying196 rfl (by kernel_rfl)) hS ?_
   try simp only [pX]
   refine kT 6 rfl hS ?_
   try simp only [pX]
   refine kT 7 rfl hS ?_
   try simp only [pX]
   refine kT 8 rfl hS ?_
   try simp only [pX]
   refine tkT 9 rfl (yieldsIf_load_mid (by rfl) 196 (.tmp 41) rfl bo (oo+ib*2) rfl _ _ (fun w hs j v hv=>cell_later hs.2.2 (Q2.out j v hv)) Tryz.underlying196 rfl (by kernel_rfl)) hS ?_
   try simp only [pX]
   refine wpAnyT_one (i:=10) (by kernel_rfl) rfl rfl (fun K hK=>?_)
   go_simp
   refine (GN.out _ (HW.out.fut (FR.out.fut hS.2.2).out).all (HB.out.fut (FR.out.fut hS.2.2).out).all).mono ?_;rintro e wm ⟨rfl,hb⟩
   refine hK.out _ _ ?_ (fun hS=>?_)
   ·exact ⟨(by first|exact cell_later hb hS.1|exact Blk.later hS.1 hb),(by first|exact cell_later hb hS.2.1|exact Blk.later hS.2.1 hb),(by first|exact below_later hb hS.2.2|exact grown_below hS.2.2 hb)⟩
   clear hK K
   try simp only [pX]
   refine kT 11 rfl hS ?_
   try simp only [pX]
   refine kT 12 rfl hS ?_
   try simp only [pX]
   refine wpAnyT_tail _ _ rfl rfl (by kernel_rfl) ?_
   have kd:=hS.2.2
   replace FR:=zH (FR.out.fut kd)
   replace BR:=zH (BR.out.fut kd)
   clear hS kd hb BND
   go_wp2_with (refine sB 196 (.tmp 4) (.tmp 44) w1.heap.size #[.int .i8 z1,.int .i8 z2] BR.out ?_;intro w9 B9 g9)
   refine rC B9 Tryz.underlying196 ?_
   exact ⟨by rw [VV.out] <;> rfl,(FR.out.away g9 (by omega)).out⟩
 | false =>
  have t6:(d.kind == 6)=false:=hk6
  have HSE:=zH (show secondV d=d.a by unfold secondV;rw [if_neg (by simpa using hk6)])
  by_cases ct:thereV d n=true
  rotate_left
  ·have VV:=zH (show r=((0,0),8) by rw [hr.symm];unfold stepR;rw [HN.out,if_pos (by simpa using ct)])
   have CC:=zH (show min d.a d.a < 0 ∨ ¬ max d.a d.a < (n:Int) by
    by_cases q:min d.a d.a < 0
    ·exact .inl q
    ·refine .inr fun q2=>ct ?_
     unfold thereV
     rw [decide_eq_true (by omega),Bool.true_and]
     rw [decide_eq_true (show d.kind ≠ 6 by simpa using hk6),Bool.true_or])
   obtain ⟨u,hu⟩:∃ u,min d.a d.a=u:=⟨_,rfl⟩
   obtain ⟨v,hv⟩:∃ u,max d.a d.a=u:=⟨_,rfl⟩
   have OF:=zH (show ofR d.a [d.a]=(u,v) by rw [← hu,← hv];rfl)
   rw [hu,hv] at CC
   have n0:=BN.out.cell 0
   have n1:=BN.out.cell 1
   have n2:=BN.out.cell 2
   simp only [gX] at n0 n1 n2
   clear hu hv ct hr hk6
   obtain ⟨w3,hw_w3,BL,k_w3⟩:=nB w2 #[.int .i64 d.a] 3
   replace FR:=zH (FR.out.fut k_w3)
   replace BR:=zH (BR.out.fut k_w3)
   clear k_w3
   by_cases cu:u < 0
   ·have tu:decide (u < 0)=true:=by simpa using cu
    go_wp2_with (first|(go_at_call 164;refine (ends_int d.a _ 1 1 [d.a] _ (Sl.lit _ BL.out.heap rfl (by intro x hx;simp only [List.mem_cons,List.not_mem_nil,or_false] at hx;subst hx;exact HD.out.a) BL.out.lt rfl rfl (by unfold maxLen;simp))).mono ?_;rintro e w4 ⟨rfl,rfl⟩;rw [OF.out];clear hw_w1 hw_w2 hw_w3)|(refine sB 196 (.tmp 4) (.tmp 32) w1.heap.size #[.int .i8 0,.int .i8 0] BR.out ?_;intro w9 B9 g9))
    refine rC B9 Tryz.underlying196 ?_
    exact ⟨by rw [VV.out] <;> rfl,(FR.out.away g9 (by omega)).out⟩
   ·have tu:decide (u < 0)=false:=by simpa using cu
    have tv:decide ((n:Int)≤v)=true:=by have:=CC.out;simp;omega
    go_wp2_with (first|(go_at_call 164;refine (ends_int d.a _ 1 1 [d.a] _ (Sl.lit _ BL.out.heap rfl (by intro x hx;simp only [List.mem_cons,List.not_mem_nil,or_false] at hx;subst hx;exact HD.out.a) BL.out.lt rfl rfl (by unfold maxLen;simp))).mono ?_;rintro e w4 ⟨rfl,rfl⟩;rw [OF.out];clear hw_w1 hw_w2 hw_w3)|(refine sB 196 (.tmp 4) (.tmp 32) w1.heap.size #[.int .i8 0,.int .i8 0] BR.out ?_;intro w9 B9 g9))
    refine rC B9 Tryz.underlying196 ?_
    exact ⟨by rw [VV.out] <;> rfl,(FR.out.away g9 (by omega)).out⟩
  ·have e1:(0≤d.a∧d.a < (n:Int))∧(0≤d.a∧d.a < (n:Int)):=by
    unfold thereV at ct
    rw [Bool.and_eq_true,decide_eq_true_eq] at ct
    exact ⟨ct.1,ct.1⟩
   obtain ⟨ia,hia⟩:∃ k:Nat,d.a=k:=⟨d.a.toNat,by omega⟩
   obtain ⟨ib,hib⟩:∃ k:Nat,d.a=k:=⟨d.a.toNat,by omega⟩
   have VV:=zH (show r=nodeR d (out.getD ia (0,0)) (out.getD ib (0,0)) by rw [hr.symm];unfold stepR;rw [HN.out,if_neg (by rw [ct];decide),HSE.out,show d.a.toNat=ia by omega,show ib=ia by omega])
   obtain ⟨u,hu⟩:∃ u,min (ia:Int) (ib:Int)=u:=⟨_,rfl⟩
   obtain ⟨v,hv⟩:∃ u,max (ia:Int) (ib:Int)=u:=⟨_,rfl⟩
   have OF:=zH (show ofR (ia:Int) [(ib:Int)]=(u,v) by rw [← hu,← hv];rfl)
   have tu:decide (u < 0)=false:=by simp;omega
   have tv:decide ((n:Int)≤v)=false:=by simp;omega
   have IB:=zH (show InK .i64 (ib:Int) by have:=HD.out.a;rwa [hib] at this)
   have pa:(ia:Int) < (n:Int):=by omega
   have pb:(ib:Int) < (n:Int):=by omega
   obtain ⟨x,bo,oo,hx,rfl,-,-,x1,x2,q1⟩:=HS.out.out.rg_at ia (by omega)
   obtain ⟨y,bo',oo',hy,hA,-,-,y1,y2,q2⟩:=HS.out.out.rg_at ib (by omega)
   obtain ⟨rfl,rfl⟩:bo=bo'∧oo=oo':=by simpa using hA
   have Q1:=zH q1
   have Q2:=zH q2
   rw [show out.getD ia (0,0)=x by rw [List.getD_eq_getElem?_getD,hx];rfl,show out.getD ib (0,0)=y by rw [List.getD_eq_getElem?_getD,hy];rfl] at VV
   obtain ⟨x,x'⟩:=x
   obtain ⟨y,y'⟩:=y
   simp only at Q1 Q2 x1 x2 y1 y2
   replace GN:=zH (fun w hw hb=>GN.out x x' y y' w hw hb x1 x2 y1 y2)
   obtain ⟨⟨⟨z1,z2⟩,z3⟩,hz⟩:∃ z,nodeR d (x,x') (y,y')=z:=⟨_,rfl⟩
   rw [hz] at GN VV
   have n0:=BN.out.cell 0
   have n1:=BN.out.cell 1
   have n2:=BN.out.cell 2
   simp only [gX] at n0 n1 n2
   rw [hia] at n1
   
   have BNa:=zH (show ∀ w',Blk w' w.heap.size 87 (nN d.kind d.a d.b d.k d.s d.p d.out d.za d.zb W nw cw B nb cb d.qm d.qs d.qz d.rm d.rs d.rz d.lo d.hi) → w'.cell? ⟨w.heap.size,1,none⟩=some (.int .i64 (ia:Int)) from fun w' h=>by have:=h.cell 1;simp only [gX] at this;rw [← hia];exact this)
   obtain rfl:ia=ib:=by omega
   clear hu hv ct hr hk6 e1 hx hy hA q1 q2 x1 x2 y1 y2 hz hib
   clear hia
   obtain ⟨w3,hw_w3,BL,k_w3⟩:=nB w2 #[.int .i64 (ia:Int)] 3
   replace FR:=zH (FR.out.fut k_w3)
   replace BR:=zH (BR.out.fut k_w3)
   replace BN:=zH (BN.out.fut k_w3)
   replace HS:=zH (HS.out.fut k_w3)
   replace Q1:=zH (Q1.out.fut k_w3)
   replace Q2:=zH (Q2.out.fut k_w3)
   clear k_w3
   go_wp2_with (go_at_call 164;refine (ends_int (ia:Int) _ 1 1 [(ia:Int)] _ (Sl.lit _ BL.out.heap rfl (by intro x hx;simp only [List.mem_cons,List.not_mem_nil,or_false] at hx;subst hx;exact IB.out) BL.out.lt rfl rfl (by unfold maxLen;simp))).mono ?_;rintro e w4 ⟨rfl,rfl⟩;rw [OF.out])
   obtain ⟨w4,rfl⟩:∃ x,x=w3:=⟨_,rfl⟩
   clear hw_w1 hw_w2 hw_w3 n0 n1 n2
   have BND:=BN.out.drew
   refine wp_region_T (fun w'=>w'.cell? ⟨w.heap.size,1,none⟩=some (.int .i64 (ia:Int))∧Blk w' w.heap.size 87 (nN d.kind d.a d.b d.k d.s d.p d.out d.za d.zb W nw cw B nb cb d.qm d.qs d.qz d.rm d.rs d.rz d.lo d.hi)∧Below w4.heap.size w4 w') 13 (by kernel_rfl) ?_ (fun hS=>?_)
   ·exact ⟨BNa.out _ BND,BND,(Below.refl _ _).drew⟩
   refine tkT 0 rfl (yB 87 (.tmp 2) w.heap.size (fun w hs=>hs.2.1) Tryz.underlying87) hS ?_
   try simp only [pX]
   refine kT 1 rfl hS ?_
   try simp only [pX]
   refine kT 2 rfl hS ?_
   try simp only [pX]
   refine kT 3 rfl hS ?_
   try simp only [pX]
   refine kT 4 rfl hS ?_
   try simp only [pX]
   refine tkT 5 rfl (yieldsIf_load_mid (by rfl) 196 (.tmp 37) rfl bo (oo+ia*2) rfl _ _ (fun w hs j v hv=>cell_later hs.2.2 (Q1.out j v hv)) Tryz.underlying196 rfl (by kernel_rfl)) hS ?_
   try simp only [pX]
   refine kT 6 rfl hS ?_
   try simp only [pX]
   refine kT 7 rfl hS ?_
   try simp only [pX]
   refine kT 8 rfl hS ?_
   try simp only [pX]
   refine tkT 9 rfl (yieldsIf_load_mid (by rfl) 196 (.tmp 41) rfl bo (oo+ia*2) rfl _ _ (fun w hs j v hv=>cell_later hs.2.2 (Q2.out j v hv)) Tryz.underlying196 rfl (by kernel_rfl)) hS ?_
   try simp only [pX]
   refine wpAnyT_one (i:=10) (by kernel_rfl) rfl rfl (fun K hK=>?_)
   go_simp
   refine (GN.out _ (HW.out.fut (FR.out.fut hS.2.2).out).all (HB.out.fut (FR.out.fut hS.2.2).out).all).mono ?_;rintro e wm ⟨rfl,hb⟩
   refine hK.out _ _ ?_ (fun hS=>?_)
   ·exact ⟨(by first|exact cell_later hb hS.1|exact Blk.later hS.1 hb),(by first|exact cell_later hb hS.2.1|exact Blk.later hS.2.1 hb),(by first|exact below_later hb hS.2.2|exact grown_below hS.2.2 hb)⟩
   clear hK K
   try simp only [pX]
   refine kT 11 rfl hS ?_
   try simp only [pX]
   refine kT 12 rfl hS ?_
   try simp only [pX]
   refine wpAnyT_tail _ _ rfl rfl (by kernel_rfl) ?_
   have kd:=hS.2.2
   replace FR:=zH (FR.out.fut kd)
   replace BR:=zH (BR.out.fut kd)
   clear hS kd hb BND
   go_wp2_with (refine sB 196 (.tmp 4) (.tmp 44) w1.heap.size #[.int .i8 z1,.int .i8 z2] BR.out ?_;intro w9 B9 g9)
   refine rC B9 Tryz.underlying196 ?_
   exact ⟨by rw [VV.out] <;> rfl,(FR.out.away g9 (by omega)).out⟩
end Go.Proofs.YtppcjcigekoipaaGreat
