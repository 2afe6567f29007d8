/-
  What a block costs, where its shapes are right (layer 31): cost.Out, cost.Block, the document's Block.
-/
import Derived.Test.YtppcjcigekoipaaGreatJ36
import Derived.Test.YtppcjcigekoipaaGreatJ37
set_option linter.unusedVariables false
set_option linter.unusedSimpArgs false
namespace Go.Proofs.YtppcjcigekoipaaGreat
open Go.RowKit Go.ChangeShapes Go.WideShapes
set_option maxRecDepth 100000
set_option maxHeartbeats 4000000
theorem costOut_any (b:BlkD) (L:Option Addr) (n cn:Nat) (W:Option Addr) (nw cw:Nat) (B:Option Addr) (nb cb:Nat) (s:Sh3) (w:World) (hb:BlkAt b L n cn W nw cw B nb cb (blo w.heap.size) w) (hs:InK .i64 s.1∧InK .i64 s.2.1∧InK .i64 s.2.2) (hf:fewB b) (ok:(shapesV b.nodes s).2.2=0) :
  Calls Tryz.prog 21 #[.agg #[.slice L n cn,.bool b.exit,.slice W nw cw,.slice B nb cb,.int .i32 b.head.need],.agg (sN s.1 s.2.1 s.2.2)] w fun e w'=>e=.returned (.tuple #[.agg (sN (outV b s).1 (outV b s).2.1 (outV b s).2.2),.int .i64 0])∧Below w.heap.size w w':=by
 have SP:=zH (fun w h=>shapes_any L n cn b.nodes s.1 s.2.1 s.2.2 w h hs.1 hs.2.1 hs.2.2 hf.1.2)
 have SL:=zH (show (shapesV b.nodes s).1.length=n+1 by rw [shapes_len ok,hb.nodes.n_eq])
 have HN:=zH (Old.now hb.nodes)
 have LN:=zH hb.nodes.n_eq
 unfold RetShapes at SP
 have OV:=zH (show outV b s=(shapesV b.nodes s).1.getD n (0,0,0) by unfold outV;rw [hb.nodes.n_eq])
 have nb8:n≤8:=by have:=shapes_few ok;rw [hb.nodes.n_eq] at this;omega
 obtain ⟨⟨sl,sp,se⟩,hsv⟩:∃ x,shapesV b.nodes s=x:=⟨_,rfl⟩
 simp only [hsv] at SP SL OV ok
 subst ok
 (try simp only at SP)
 obtain ⟨s1,s2,s3⟩:=s
 rw [OV.out]
 (try simp only at SP)
 have H:=zH (Far.refl w)
 obtain ⟨⟨y1,y2,y3⟩,hy⟩:∃ x,sl.getD n (0,0,0)=x:=⟨_,rfl⟩
 rw [hy]
 have HY:=zH hy
 clear hb hs hf hsv OV hy
 obtain ⟨w1,hw_w1,B1,k1⟩:=nB w #[.slice L n cn,.bool b.exit,.slice W nw cw,.slice B nb cb,.int .i32 b.head.need] 49
 replace H:=zN k1 H B1
 clear B1 k1
 obtain ⟨w2,hw_w2,B2,k2⟩:=nB w1 (sN s1 s2 s3) 23
 replace H:=zN k2 H B2
 clear B2 k2
 obtain ⟨w3,hw_w3,B3,k3⟩:=nB w2 (sN 0 0 0) 23
 replace H:=zN k3 H B3
 clear B3 k3
 have cA:=fun i=>H.out.1.1.2.cell i
 go_enter Tryz.func21,Tryz.ntmps21
 go_wp2_with (refine lB 23 (.tmp 3) w1.heap.size H.out.1.2 Tryz.underlying23 ?_)
 refine (SP.out _ (HN.out.fut H.out.1.1.1.out).all).mono ?_
 rintro e w4 ⟨A,m,c,rfl,q,hb⟩
 replace H:=zF hb H
 obtain ⟨b3,o3,rfl,-,-,-,-,-,-,r3⟩:=q.old.shape_at n (by have:=q.n_eq;have:=SL.out;omega)
 have M3:m=n+1:=by rw [← q.n_eq];exact SL.out
 rw [HY.out] at r3
 have R3:=zH r3
 have e1:IntKind.i64.wrap ((m:Int) - 1)=(n:Int):=(IntWalk.i64_in _ (by omega)).trans (by omega)
 have e2:(n:Int) < (m:Int):=by omega
 have l1:=H.out.1.1.2.lt
 have l2:w.heap.size < w2.heap.size:=by rw [← hw_w2,← hw_w1];simp;omega
 have l3:w1.heap.size < w2.heap.size:=by rw [← hw_w2];simp
 clear hb q r3 cA M3 SL hw_w1 hw_w2 hw_w3
 go_wp2_with (first|(refine lM 23 (.tmp 25) R3.out Tryz.underlying23 ?_)|(refine sB 23 (.tmp 4) (.tmp 26) w2.heap.size (sN y1 y2 y3) H.out.2 ?_;intro w5 b5 g5;replace H:=zS g5 b5 H;clear b5 g5))
 refine rC H.out.2 Tryz.underlying23 ?_
 exact ⟨rfl,H.out.1.1.1.out⟩
theorem costBlock_any (b:BlkD) (L:Option Addr) (n cn:Nat) (W:Option Addr) (nw cw:Nat) (B:Option Addr) (nb cb:Nat) (s:Sh3) (cl:Int) (w:World) (hb:BlkAt b L n cn W nw cw B nb cb (blo w.heap.size) w) (hs:InK .i64 s.1∧InK .i64 s.2.1∧InK .i64 s.2.2) (hf:fewB b) (ok:(shapesV b.nodes s).2.2=0) (hcl:2≤cl∧cl≤16) :
  Calls Tryz.prog 70 #[.agg #[.slice L n cn,.bool b.exit,.slice W nw cw,.slice B nb cb,.int .i32 b.head.need],.agg (sN s.1 s.2.1 s.2.2),.int .i64 cl] w fun e w'=>e=.returned (.tuple #[.int .i64 (blockC b s cl),.int .i64 0])∧Below w.heap.size w w':=by
 have SP:=zH (fun w h=>shapes_any L n cn b.nodes s.1 s.2.1 s.2.2 w h hs.1 hs.2.1 hs.2.2 hf.1.2)
 have SL:=zH (show (shapesV b.nodes s).1.length=n+1 by rw [shapes_len ok,hb.nodes.n_eq])
 have HN:=zH (Old.now hb.nodes)
 have LN:=zH hb.nodes.n_eq
 unfold RetShapes at SP
 have OK:=zH ok
 have FW:=zH hf.1.2
 have OV:=zH (show outV b s=(shapesV b.nodes s).1.getD n (0,0,0) by unfold outV;rw [hb.nodes.n_eq])
 have HV:=zH (show blockC b s cl=sumC b.nodes (shapesV b.nodes s).1 n+exitC b (outV b s) cl by unfold blockC;rw [hb.nodes.n_eq])
 have nb8:n≤8:=by have:=shapes_few ok;rw [hb.nodes.n_eq] at this;omega
 obtain ⟨⟨sl,sp,se⟩,hsv⟩:∃ x,shapesV b.nodes s=x:=⟨_,rfl⟩
 simp only [hsv] at SP SL OV ok HV
 subst ok
 (try simp only at SP)
 obtain ⟨r,hr⟩:∃ r,blockC b s cl=r:=⟨_,rfl⟩
 rw [hr] at HV
 rw [hr]
 obtain ⟨s1,s2,s3⟩:=s
 (try simp only at SP)
 have H:=zH (Far.refl w)
 obtain ⟨⟨v1,v2,v3⟩,hy⟩:∃ x,sl.getD n (0,0,0)=x:=⟨_,rfl⟩
 rw [OV.out] at HV
 rw [hy] at HV
 have HY:=zH hy
 clear hb hs hf hsv hr hy OV
 obtain ⟨w1,hw_w1,B1,k1⟩:=nB w #[.slice L n cn,.bool b.exit,.slice W nw cw,.slice B nb cb,.int .i32 b.head.need] 49
 replace H:=zN k1 H B1
 clear B1 k1
 obtain ⟨w2,hw_w2,B2,k2⟩:=nB w1 (sN s1 s2 s3) 23
 replace H:=zN k2 H B2
 clear B2 k2
 have cA:=fun i=>H.out.1.2.cell i
 go_enter Tryz.func70,Tryz.ntmps70
 go_wp2_with (refine lB 23 (.tmp 4) w1.heap.size H.out.2 Tryz.underlying23 ?_)
 refine (SP.out _ (HN.out.fut H.out.1.1.out).all).mono ?_
 rintro e w4 ⟨A,m,c4,rfl,q,hb⟩
 have N4:=zH (New.of q H.out.1.1)
 have M3:=zH (show m=n+1 by rw [← q.n_eq];exact SL.out)
 replace H:=zN hb H N4
 clear cA q N4 SL hw_w1 hw_w2
 have cA:=fun i=>H.out.1.1.2.cell i
 clear hb
 go_wp2_with fail
 go_loopw [11,29] (fun sm i wr=>∃ k:Nat,k≤n∧i=.int .i64 k∧sm=.int .i64 (sumC b.nodes sl k)∧Below w4.heap.size w4 wr) (fun _ i _=>n - (intOf i).toNat)
 case atStart=>exact ⟨0,Nat.zero_le _,rfl,rfl,Below.refl _ _⟩
 case round =>
  obtain ⟨k,hk,rfl,rfl,hb5⟩:=hrel
  have HX:=zF hb5 H
  have cA:=fun i=>HX.out.1.1.2.cell i
  by_cases hlt:k < n
  ·have p1:(k:Int) < (n:Int):=by omega
   obtain ⟨d,gd,od,X,mx,cx,Y,my,cy,hd,hL,-,-,hin,hw8,hw32,rg⟩:=(HN.out.fut HX.out.1.1.1.out).all.node_at k hlt
   subst hL
   have NO:=shapes_node OK.out hd
   obtain ⟨hd8,hd32⟩:=FW.out d (List.mem_of_getElem? hd)
   have NX:=zH (sumC_next (sl:=sl) hd)
   have SB:=sumC_bd b.nodes sl k
   obtain ⟨ia,hia⟩:∃ ia,d.a.toNat=ia:=⟨_,rfl⟩
   obtain ⟨ib,hib⟩:∃ ib,(secondV d).toNat=ib:=⟨_,rfl⟩
   have NA:=NO.a
   have NB:=NO.b
   rw [LN.out] at NA NB
   obtain ⟨b1,o1,rfl,-,-,i1,i2,i3,-,r1⟩:=HX.out.2.old.shape_at ia (by have:=M3.out;omega)
   obtain ⟨b2,o2,e2,-,-,-,-,-,-,r2⟩:=HX.out.2.old.shape_at ib (by have:=M3.out;omega)
   injection e2 with e2
   injection e2 with e2 e3
   subst e2 e3
   obtain ⟨⟨x1,x2,x3⟩,hx⟩:∃ x,sl.getD ia (0,0,0)=x:=⟨_,rfl⟩
   obtain ⟨⟨y1,y2,y3⟩,hy⟩:∃ x,sl.getD ib (0,0,0)=x:=⟨_,rfl⟩
   rw [hx] at r1 i1 i2 i3
   rw [hy] at r2
   rw [hia,hib,hx,hy] at NX
   have CN:=zH (fun w=>costNode_any d X mx cx Y my cy (x1,x2,x3) (y1,y2,y3) w hin ⟨i1,i2,i3⟩ hw8.n_eq.symm hw32.n_eq.symm (by have:=hw8.n_eq;omega) (by have:=hw32.n_eq;omega) NO.kind)
   have CB:=costN_bd d (x1,x2,x3) (y1,y2,y3)
   obtain ⟨c,hc⟩:∃ c,costN d (x1,x2,x3) (y1,y2,y3)=c:=⟨_,rfl⟩
   simp only [hc] at CN CB NX
   obtain ⟨S0,hS⟩:∃ c,sumC b.nodes sl k=c:=⟨_,rfl⟩
   rw [hS] at NX SB ⊢
   obtain ⟨S1,hS1⟩:∃ c',S0+c=c':=⟨_,rfl⟩
   have ew:IntKind.i64.wrap (S0+c)=S1:=by rw [← hS1];exact IntWalk.i64_in _ (by have:k≤8:=Nat.le_trans hk nb8;omega)
   rw [hS1] at NX
   have ga0:=NA.1
   have ga1:d.a < (m:Int):=by have:=NA.2;have:=M3.out;omega
   have gi:IntKind.i64.wrap ((k:Int)+1)=((k+1:Nat):Int):=(IntWalk.i64_in _ (by omega)).trans (by simp)
   have NB1:secondV d < (m:Int):=by have:=NB.2;have:=M3.out;omega
   have NB0:=NB.1
   have RG:=zH rg
   clear hd hS hS1 hc CB SB hx hy i1 i2 i3 hin hw8 hw32 rg NA NB hd8 hd32
   have KF:=zH (show (d.kind=6 → secondV d=d.b)∧(d.kind ≠ 6 → secondV d=d.a) from ⟨fun h=>if_pos h,fun h=>if_neg h⟩)
   have zr:=HX.out.1.1.1.size
   by_cases c6:d.kind=6
   ·have t6:(d.kind == 6)=true:=by simp [c6]
    have hb2:=KF.out.1 c6
    rw [hb2] at hib NB0 NB1
    clear KF hb2 c6
    go_upto_region 11 with (first|(refine lM 87 (.tmp 31) RG.out Tryz.underlying87 ?_)|(refine sF 87 (.tmp 13) (.tmp 32) (nN d.kind d.a d.b d.k d.s d.p d.out d.za d.zb X mx cx Y my cy d.qm d.qs d.qz d.rm d.rs d.rz d.lo d.hi) ?_;intro w6 b6 k6;have HQ:=zN k6 HX b6;clear b6;(try clear cA);have cB:=fun i=>HQ.out.2.cell i;have cA:=fun i=>HQ.out.1.1.1.2.cell i))
    have R0:=zH (fun z:Ext w6=>range_blk (off:=0) (vs:=[.int .i64 d.kind,.int .i64 d.a,.int .i64 d.b,.int .i64 d.k,.int .i64 d.s,.int .i64 d.p,.int .i64 d.out,.int .i8 d.za,.int .i8 d.zb,.slice X mx cx,.slice Y my cy,.int .i32 d.qm,.int .i64 d.qs,.int .i8 d.qz,.int .i32 d.rm,.int .i64 d.rs,.int .i8 d.rz,.int .i8 d.lo,.int .i8 d.hi]) (HQ.out.2.ext z) rfl)
    have R1:=zH (fun z:Ext w6=>rangeF r1 (below_later z.2 k6))
    have R2:=zH (fun z:Ext w6=>rangeF r2 (below_later z.2 k6))
    have E1:=zH (fun z:Ext w6=>calls_ext z (CN.out z.1))
    have ca:∀ z:Ext w6,z.1.cell? ⟨wr.heap.size,1,none⟩=some (.int .i64 d.a):=fun z=>(HQ.out.2.ext z).cell 1
    clear r1 r2 cA cB CN
    refine wp_region_ext w6 (by kernel_rfl) (by kernel_rfl) (Below.refl _ _) ?_
    go_big_quiet_step (fail)
    refine wpQuiet_load_mid (by kernel_rfl) 87 (.tmp 13) rfl wr.heap.size 0 rfl _ _ (by rintro _ ⟨z,rfl⟩;exact R0.out z) Tryz.underlying87 rfl (by kernel_rfl) ?_
    simp only [pX]
    repeat (go_big_quiet_step (fail))
    refine wpQuiet_load_mid (by kernel_rfl) 23 (.tmp 45) rfl b1 (o1+ia*3) rfl _ _ (by rintro _ ⟨z,rfl⟩;exact R1.out z) Tryz.underlying23 rfl (by kernel_rfl) ?_
    simp only [pX]
    repeat (go_big_quiet_step (fail))
    refine wpQuiet_load_mid (by kernel_rfl) 23 (.tmp 49) rfl b1 (o1+ib*3) rfl _ _ (by rintro _ ⟨z,rfl⟩;exact R2.out z) Tryz.underlying23 rfl (by kernel_rfl) ?_
    simp only [pX]
    repeat (go_big_quiet_step ((with_reducible exact E1.out _)))
    refine wpQuiet_nil ?_
    rintro wa ⟨⟨_,hb⟩,rfl⟩
    go_wp2_with fail
    exact ⟨⟨k+1,by omega,by go_num,by rw [NX.out],below_later hb (below_later k6 hb5)⟩,by simp [intOf];omega⟩
   have t6:(d.kind == 6)=false:=by simpa using c6
   have hb2:=KF.out.2 c6
   rw [hb2] at hib NB0 NB1
   obtain rfl:ia=ib:=hia.symm.trans hib
   clear KF hb2 c6
   go_upto_region 11 with (first|(refine lM 87 (.tmp 31) RG.out Tryz.underlying87 ?_)|(refine sF 87 (.tmp 13) (.tmp 32) (nN d.kind d.a d.b d.k d.s d.p d.out d.za d.zb X mx cx Y my cy d.qm d.qs d.qz d.rm d.rs d.rz d.lo d.hi) ?_;intro w6 b6 k6;have HQ:=zN k6 HX b6;clear b6;(try clear cA);have cB:=fun i=>HQ.out.2.cell i;have cA:=fun i=>HQ.out.1.1.1.2.cell i))
   have R0:=zH (fun z:Ext w6=>range_blk (off:=0) (vs:=[.int .i64 d.kind,.int .i64 d.a,.int .i64 d.b,.int .i64 d.k,.int .i64 d.s,.int .i64 d.p,.int .i64 d.out,.int .i8 d.za,.int .i8 d.zb,.slice X mx cx,.slice Y my cy,.int .i32 d.qm,.int .i64 d.qs,.int .i8 d.qz,.int .i32 d.rm,.int .i64 d.rs,.int .i8 d.rz,.int .i8 d.lo,.int .i8 d.hi]) (HQ.out.2.ext z) rfl)
   have R1:=zH (fun z:Ext w6=>rangeF r1 (below_later z.2 k6))
   have R2:=zH (fun z:Ext w6=>rangeF r2 (below_later z.2 k6))
   have E1:=zH (fun z:Ext w6=>calls_ext z (CN.out z.1))
   have ca:∀ z:Ext w6,z.1.cell? ⟨wr.heap.size,1,none⟩=some (.int .i64 d.a):=fun z=>(HQ.out.2.ext z).cell 1
   clear r1 r2 cA cB CN
   refine wp_region_ext w6 (by kernel_rfl) (by kernel_rfl) (Below.refl _ _) ?_
   go_big_quiet_step (fail)
   refine wpQuiet_load_mid (by kernel_rfl) 87 (.tmp 13) rfl wr.heap.size 0 rfl _ _ (by rintro _ ⟨z,rfl⟩;exact R0.out z) Tryz.underlying87 rfl (by kernel_rfl) ?_
   simp only [pX]
   repeat (go_big_quiet_step (fail))
   refine wpQuiet_load_mid (by kernel_rfl) 23 (.tmp 45) rfl b1 (o1+ia*3) rfl _ _ (by rintro _ ⟨z,rfl⟩;exact R1.out z) Tryz.underlying23 rfl (by kernel_rfl) ?_
   simp only [pX]
   repeat (go_big_quiet_step (fail))
   refine wpQuiet_load_mid (by kernel_rfl) 23 (.tmp 49) rfl b1 (o1+ia*3) rfl _ _ (by rintro _ ⟨z,rfl⟩;exact R2.out z) Tryz.underlying23 rfl (by kernel_rfl) ?_
   simp only [pX]
   repeat (go_big_quiet_step ((with_reducible exact E1.out _)))
   refine wpQuiet_nil ?_
   rintro wa ⟨⟨_,hb⟩,rfl⟩
   go_wp2_with fail
   exact ⟨⟨k+1,by omega,by go_num,by rw [NX.out],below_later hb (below_later k6 hb5)⟩,by simp [intOf];omega⟩
  ·obtain rfl:k=n:=by omega
   have p1:¬ (k:Int) < (k:Int):=by omega
   have SB:=sumC_bd b.nodes sl k
   obtain ⟨S0,hS⟩:∃ c,sumC b.nodes sl k=c:=⟨_,rfl⟩
   rw [hS] at SB HV
   rw [hS]
   obtain ⟨b3,o3,rfl,-,-,i1,i2,i3,-,r3⟩:=HX.out.2.old.shape_at k (by have:=M3.out;omega)
   rw [HY.out] at r3 i1 i2 i3
   have EL:=zH (fun w=>elems_any v1 v3 v2 w i1 i2 i3)
   have EB:=elems_range v1 v2 v3
   have XC:=zH (show exitC b (v1,v2,v3) cl=if b.exit=true then cl*(elems v1 v2 v3+1) else 0 by
    unfold exitC elS
    rw [show min (max cl 0) 16=cl by omega])
   obtain ⟨el,hel⟩:∃ x,elems v1 v2 v3=x:=⟨_,rfl⟩
   simp only [hel] at EL EB XC
   rw [XC.out] at HV
   have R3:=zH r3
   have e1:IntKind.i64.wrap ((m:Int) - 1)=(k:Int):=(IntWalk.i64_in _ (by have:=M3.out;omega)).trans (by have:=M3.out;omega)
   have e2:(k:Int) < (m:Int):=by have:=M3.out;omega
   have q1:¬ cl < 0:=by omega
   have q2:¬ 16 < cl:=by omega
   have b1:=mul_bd (a:=cl) (b:=el+1) (m:=16) (n:=1025) (by omega) (by omega) (by omega) (by omega) (by omega)
   have e3:IntKind.i64.wrap (el+1)=el+1:=IntWalk.i64_in _ (by omega)
   obtain ⟨ex,hex⟩:∃ x,b.exit=x:=⟨_,rfl⟩
   rw [hex] at HV
   have CX:∃ p,cl*(el+1)=p:=⟨_,rfl⟩
   obtain ⟨p,hp⟩:=CX
   have e4:IntKind.i64.wrap (cl*(el+1))=p:=by rw [← hp];exact IntWalk.i64_in _ (by omega)
   obtain ⟨S1,hS1⟩:∃ x,S0+p=x:=⟨_,rfl⟩
   have e5:IntKind.i64.wrap (S0+p)=S1:=by rw [← hS1];exact IntWalk.i64_in _ (by omega)
   rw [hex] at cA
   rw [hp] at b1 HV
   have HS1:=zH hS1
   have EQ:=zH hel
   clear hS r3 i1 i2 i3 EB hel hp hS1 hk hlt b1 SB XC hex
   cases ex with
   | true =>
    have RV:=zH (show r=S1 from HV.out.trans HS1.out)
    clear HV
    go_wp2_with (first|(refine lM 23 (.tmp 64) R3.out Tryz.underlying23 ?_)|(go_at_call 101;with_reducible refine (EL.out _).mono ?_;rintro e w8 ⟨rfl,hb⟩;replace HX:=zF hb HX;clear hb))
    go_ret2
    exact ⟨by rw [RV.out] <;> rfl,HX.out.1.1.1.out⟩
   | false =>
    have RV:=zH (show r=S0 from HV.out.trans (Int.add_zero _))
    clear HV
    go_wp2_with fail
    go_ret2
    exact ⟨by rw [RV.out] <;> rfl,HX.out.1.1.1.out⟩
theorem rcostBlock_any (b:BlkD) (L:Option Addr) (n cn:Nat) (W:Option Addr) (nw cw:Nat) (B:Option Addr) (nb cb:Nat) (s:Sh3) (cl:Int) (w:World) (hb:BlkAt b L n cn W nw cw B nb cb (blo w.heap.size) w) (hs:InK .i64 s.1∧InK .i64 s.2.1∧InK .i64 s.2.2) (hf:fewB b) (ok:(shapesV b.nodes s).2.2=0) (hcl:2≤cl∧cl≤16) :
  Calls Tryz.prog 44 #[.agg #[.slice L n cn,.bool b.exit,.slice W nw cw,.slice B nb cb,.int .i32 b.head.need],.agg (sN s.1 s.2.1 s.2.2),.int .i64 cl] w fun e w'=>e=.returned (.tuple #[.int .i64 (blockC b s cl),.agg (sN (outV b s).1 (outV b s).2.1 (outV b s).2.2),.int .i64 0])∧Below w.heap.size w w':=by
 have SP:=zH (fun w h=>rshapes_any L n cn b.nodes s.1 s.2.1 s.2.2 w h hs.1 hs.2.1 hs.2.2 hf.1.2)
 have SL:=zH (show (shapesV b.nodes s).1.length=n+1 by rw [shapes_len ok,hb.nodes.n_eq])
 have HN:=zH (Old.now hb.nodes)
 have LN:=zH hb.nodes.n_eq
 unfold RetShapes at SP
 have OK:=zH ok
 have FW:=zH hf.1.2
 have OV:=zH (show outV b s=(shapesV b.nodes s).1.getD n (0,0,0) by unfold outV;rw [hb.nodes.n_eq])
 have HV:=zH (show blockC b s cl=sumC b.nodes (shapesV b.nodes s).1 n+exitC b (outV b s) cl by unfold blockC;rw [hb.nodes.n_eq])
 have nb8:n≤8:=by have:=shapes_few ok;rw [hb.nodes.n_eq] at this;omega
 obtain ⟨⟨sl,sp,se⟩,hsv⟩:∃ x,shapesV b.nodes s=x:=⟨_,rfl⟩
 simp only [hsv] at SP SL OV ok HV
 subst ok
 (try simp only at SP)
 obtain ⟨r,hr⟩:∃ r,blockC b s cl=r:=⟨_,rfl⟩
 rw [hr] at HV
 rw [hr]
 obtain ⟨s1,s2,s3⟩:=s
 (try simp only at SP)
 have H:=zH (Far.refl w)
 obtain ⟨⟨v1,v2,v3⟩,hy⟩:∃ x,sl.getD n (0,0,0)=x:=⟨_,rfl⟩
 rw [OV.out,hy]
 rw [OV.out] at HV
 rw [hy] at HV
 have HY:=zH hy
 clear hb hs hf hsv hr hy OV
 obtain ⟨w1,hw_w1,B1,k1⟩:=nB w #[.slice L n cn,.bool b.exit,.slice W nw cw,.slice B nb cb,.int .i32 b.head.need] 49
 replace H:=zN k1 H B1
 clear B1 k1
 obtain ⟨w2,hw_w2,B2,k2⟩:=nB w1 (sN s1 s2 s3) 23
 replace H:=zN k2 H B2
 clear B2 k2
 have l1:w.heap.size < w1.heap.size:=by rw [← hw_w1];simp
 have l2:w1.heap.size < w2.heap.size:=by rw [← hw_w2];simp
 obtain ⟨w3,hw_w3,B3,k3⟩:=nB w2 (sN 0 0 0) 23
 have HR:=zH (show Blk w3 w2.heap.size 23 (sN 0 0 0) from B3.out)
 replace H:=zF k3 H
 clear B3
 have cA:=fun i=>H.out.1.2.cell i
 go_enter Tryz.func44,Tryz.ntmps44
 go_wp2_with (refine lB 23 (.tmp 4) w1.heap.size H.out.2 Tryz.underlying23 ?_)
 refine (SP.out _ (HN.out.fut H.out.1.1.out).all).mono ?_
 rintro e w4 ⟨A,m,c4,rfl,q,hb⟩
 have N4:=zH (New.of q H.out.1.1)
 have M3:=zH (show m=n+1 by rw [← q.n_eq];exact SL.out)
 replace H:=zN hb H N4
 clear cA q N4 SL hw_w1 hw_w2 hw_w3
 have cA:=fun i=>H.out.1.1.2.cell i
 replace HR:=zH (HR.out.fut hb)
 clear hb
 go_wp2_with fail
 go_loopw [12,13] (fun sm i wr=>∃ k:Nat,k≤n∧i=.int .i64 k∧sm=.int .i64 (sumC b.nodes sl k)∧Below w4.heap.size w4 wr) (fun _ i _=>n - (intOf i).toNat)
 case atStart=>exact ⟨0,Nat.zero_le _,rfl,rfl,Below.refl _ _⟩
 case round =>
  obtain ⟨k,hk,rfl,rfl,hb5⟩:=hrel
  have HX:=zF hb5 H
  have cA:=fun i=>HX.out.1.1.2.cell i
  by_cases hlt:k < n
  ·have p1:(k:Int) < (n:Int):=by omega
   obtain ⟨d,gd,od,X,mx,cx,Y,my,cy,hd,hL,-,-,hin,hw8,hw32,rg⟩:=(HN.out.fut HX.out.1.1.1.out).all.node_at k hlt
   subst hL
   have NO:=shapes_node OK.out hd
   obtain ⟨hd8,hd32⟩:=FW.out d (List.mem_of_getElem? hd)
   have NX:=zH (sumC_next (sl:=sl) hd)
   have SB:=sumC_bd b.nodes sl k
   obtain ⟨ia,hia⟩:∃ ia,d.a.toNat=ia:=⟨_,rfl⟩
   obtain ⟨ib,hib⟩:∃ ib,(secondV d).toNat=ib:=⟨_,rfl⟩
   have NA:=NO.a
   have NB:=NO.b
   rw [LN.out] at NA NB
   obtain ⟨b1,o1,rfl,-,-,i1,i2,i3,-,r1⟩:=HX.out.2.old.shape_at ia (by have:=M3.out;omega)
   obtain ⟨b2,o2,e2,-,-,-,-,-,-,r2⟩:=HX.out.2.old.shape_at ib (by have:=M3.out;omega)
   injection e2 with e2
   injection e2 with e2 e3
   subst e2 e3
   obtain ⟨⟨x1,x2,x3⟩,hx⟩:∃ x,sl.getD ia (0,0,0)=x:=⟨_,rfl⟩
   obtain ⟨⟨y1,y2,y3⟩,hy⟩:∃ x,sl.getD ib (0,0,0)=x:=⟨_,rfl⟩
   rw [hx] at r1 i1 i2 i3
   rw [hy] at r2
   rw [hia,hib,hx,hy] at NX
   have CN:=zH (fun w=>rcostNode_any d X mx cx Y my cy (x1,x2,x3) (y1,y2,y3) w hin ⟨i1,i2,i3⟩ hw8.n_eq.symm hw32.n_eq.symm (by have:=hw8.n_eq;omega) (by have:=hw32.n_eq;omega) NO.kind)
   have CB:=costN_bd d (x1,x2,x3) (y1,y2,y3)
   obtain ⟨c,hc⟩:∃ c,costN d (x1,x2,x3) (y1,y2,y3)=c:=⟨_,rfl⟩
   simp only [hc] at CN CB NX
   obtain ⟨S0,hS⟩:∃ c,sumC b.nodes sl k=c:=⟨_,rfl⟩
   rw [hS] at NX SB ⊢
   obtain ⟨S1,hS1⟩:∃ c',S0+c=c':=⟨_,rfl⟩
   have ew:IntKind.i64.wrap (S0+c)=S1:=by rw [← hS1];exact IntWalk.i64_in _ (by have:k≤8:=Nat.le_trans hk nb8;omega)
   rw [hS1] at NX
   have ga0:=NA.1
   have ga1:d.a < (m:Int):=by have:=NA.2;have:=M3.out;omega
   have gi:IntKind.i64.wrap ((k:Int)+1)=((k+1:Nat):Int):=(IntWalk.i64_in _ (by omega)).trans (by simp)
   have NB1:secondV d < (m:Int):=by have:=NB.2;have:=M3.out;omega
   have NB0:=NB.1
   have RG:=zH rg
   clear hd hS hS1 hc CB SB hx hy i1 i2 i3 hin hw8 hw32 rg NA NB hd8 hd32
   have KF:=zH (show (d.kind=6 → secondV d=d.b)∧(d.kind ≠ 6 → secondV d=d.a) from ⟨fun h=>if_pos h,fun h=>if_neg h⟩)
   have zr:=HX.out.1.1.1.size
   by_cases c6:d.kind=6
   ·have t6:(d.kind == 6)=true:=by simp [c6]
    have hb2:=KF.out.1 c6
    rw [hb2] at hib NB0 NB1
    clear KF hb2 c6
    go_upto_region 10 with (first|(refine lM 87 (.tmp 38) RG.out Tryz.underlying87 ?_)|(refine sF 87 (.tmp 14) (.tmp 39) (nN d.kind d.a d.b d.k d.s d.p d.out d.za d.zb X mx cx Y my cy d.qm d.qs d.qz d.rm d.rs d.rz d.lo d.hi) ?_;intro w6 b6 k6;have HQ:=zN k6 HX b6;clear b6;(try clear cA);have cB:=fun i=>HQ.out.2.cell i;have cA:=fun i=>HQ.out.1.1.1.2.cell i))
    have R0:=zH (fun z:Ext w6=>range_blk (off:=0) (vs:=[.int .i64 d.kind,.int .i64 d.a,.int .i64 d.b,.int .i64 d.k,.int .i64 d.s,.int .i64 d.p,.int .i64 d.out,.int .i8 d.za,.int .i8 d.zb,.slice X mx cx,.slice Y my cy,.int .i32 d.qm,.int .i64 d.qs,.int .i8 d.qz,.int .i32 d.rm,.int .i64 d.rs,.int .i8 d.rz,.int .i8 d.lo,.int .i8 d.hi]) (HQ.out.2.ext z) rfl)
    have R1:=zH (fun z:Ext w6=>rangeF r1 (below_later z.2 k6))
    have R2:=zH (fun z:Ext w6=>rangeF r2 (below_later z.2 k6))
    have E1:=zH (fun z:Ext w6=>calls_ext z (CN.out z.1))
    have ca:∀ z:Ext w6,z.1.cell? ⟨wr.heap.size,1,none⟩=some (.int .i64 d.a):=fun z=>(HQ.out.2.ext z).cell 1
    have cb:∀ z:Ext w6,z.1.cell? ⟨wr.heap.size,2,none⟩=some (.int .i64 d.b):=fun z=>(HQ.out.2.ext z).cell 2
    clear r1 r2 cA cB CN
    refine wp_region_ext w6 (by kernel_rfl) (by kernel_rfl) (Below.refl _ _) ?_
    go_big_quiet_step (fail)
    refine wpQuiet_load_mid (by kernel_rfl) 87 (.tmp 14) rfl wr.heap.size 0 rfl _ _ (by rintro _ ⟨z,rfl⟩;exact R0.out z) Tryz.underlying87 rfl (by kernel_rfl) ?_
    simp only [pX]
    repeat (go_big_quiet_step (fail))
    refine wpQuiet_load_mid (by kernel_rfl) 23 (.tmp 48) rfl b1 (o1+ia*3) rfl _ _ (by rintro _ ⟨z,rfl⟩;exact R1.out z) Tryz.underlying23 rfl (by kernel_rfl) ?_
    simp only [pX]
    repeat (go_big_quiet_step (fail))
    refine wpQuiet_load_mid (by kernel_rfl) 23 (.tmp 53) rfl b1 (o1+ib*3) rfl _ _ (by rintro _ ⟨z,rfl⟩;exact R2.out z) Tryz.underlying23 rfl (by kernel_rfl) ?_
    simp only [pX]
    repeat (go_big_quiet_step ((with_reducible exact E1.out _)))
    refine wpQuiet_nil ?_
    rintro wa ⟨⟨_,hb⟩,rfl⟩
    have HZ:=zF hb HQ
    have cA:=fun i=>HZ.out.1.1.1.2.cell i
    go_wp2_with fail
    exact ⟨⟨k+1,by omega,by go_num,by rw [NX.out],below_later hb (below_later k6 hb5)⟩,by simp [intOf];omega⟩
   have t6:(d.kind == 6)=false:=by simpa using c6
   have hb2:=KF.out.2 c6
   rw [hb2] at hib NB0 NB1
   obtain rfl:ia=ib:=hia.symm.trans hib
   clear KF hb2 c6
   go_upto_region 11 with (first|(refine lM 87 (.tmp 38) RG.out Tryz.underlying87 ?_)|(refine sF 87 (.tmp 14) (.tmp 39) (nN d.kind d.a d.b d.k d.s d.p d.out d.za d.zb X mx cx Y my cy d.qm d.qs d.qz d.rm d.rs d.rz d.lo d.hi) ?_;intro w6 b6 k6;have HQ:=zN k6 HX b6;clear b6;(try clear cA);have cB:=fun i=>HQ.out.2.cell i;have cA:=fun i=>HQ.out.1.1.1.2.cell i))
   have R0:=zH (fun z:Ext w6=>range_blk (off:=0) (vs:=[.int .i64 d.kind,.int .i64 d.a,.int .i64 d.b,.int .i64 d.k,.int .i64 d.s,.int .i64 d.p,.int .i64 d.out,.int .i8 d.za,.int .i8 d.zb,.slice X mx cx,.slice Y my cy,.int .i32 d.qm,.int .i64 d.qs,.int .i8 d.qz,.int .i32 d.rm,.int .i64 d.rs,.int .i8 d.rz,.int .i8 d.lo,.int .i8 d.hi]) (HQ.out.2.ext z) rfl)
   have R1:=zH (fun z:Ext w6=>rangeF r1 (below_later z.2 k6))
   have R2:=zH (fun z:Ext w6=>rangeF r2 (below_later z.2 k6))
   have E1:=zH (fun z:Ext w6=>calls_ext z (CN.out z.1))
   have ca:∀ z:Ext w6,z.1.cell? ⟨wr.heap.size,1,none⟩=some (.int .i64 d.a):=fun z=>(HQ.out.2.ext z).cell 1
   clear r1 r2 cA cB CN
   refine wp_region_ext w6 (by kernel_rfl) (by kernel_rfl) (Below.refl _ _) ?_
   go_big_quiet_step (fail)
   refine wpQuiet_load_mid (by kernel_rfl) 87 (.tmp 14) rfl wr.heap.size 0 rfl _ _ (by rintro _ ⟨z,rfl⟩;exact R0.out z) Tryz.underlying87 rfl (by kernel_rfl) ?_
   simp only [pX]
   repeat (go_big_quiet_step (fail))
   refine wpQuiet_load_mid (by kernel_rfl) 23 (.tmp 62) rfl b1 (o1+ia*3) rfl _ _ (by rintro _ ⟨z,rfl⟩;exact R1.out z) Tryz.underlying23 rfl (by kernel_rfl) ?_
   simp only [pX]
   repeat (go_big_quiet_step (fail))
   refine wpQuiet_load_mid (by kernel_rfl) 23 (.tmp 67) rfl b1 (o1+ia*3) rfl _ _ (by rintro _ ⟨z,rfl⟩;exact R2.out z) Tryz.underlying23 rfl (by kernel_rfl) ?_
   simp only [pX]
   repeat (go_big_quiet_step ((with_reducible exact E1.out _)))
   refine wpQuiet_nil ?_
   rintro wa ⟨⟨_,hb⟩,rfl⟩
   have HZ:=zF hb HQ
   have cA:=fun i=>HZ.out.1.1.1.2.cell i
   go_wp2_with fail
   exact ⟨⟨k+1,by omega,by go_num,by rw [NX.out],below_later hb (below_later k6 hb5)⟩,by simp [intOf];omega⟩
  ·obtain rfl:k=n:=by omega
   have p1:¬ (k:Int) < (k:Int):=by omega
   have SB:=sumC_bd b.nodes sl k
   obtain ⟨S0,hS⟩:∃ c,sumC b.nodes sl k=c:=⟨_,rfl⟩
   rw [hS] at SB HV
   rw [hS]
   obtain ⟨b3,o3,rfl,-,-,i1,i2,i3,-,r3⟩:=HX.out.2.old.shape_at k (by have:=M3.out;omega)
   rw [HY.out] at r3 i1 i2 i3
   have EL:=zH (fun w=>relems_any v1 v3 v2 w i1 i2 i3)
   have EB:=elems_range v1 v2 v3
   have XC:=zH (show exitC b (v1,v2,v3) cl=if b.exit=true then cl*(elems v1 v2 v3+1) else 0 by
    unfold exitC elS
    rw [show min (max cl 0) 16=cl by omega])
   obtain ⟨el,hel⟩:∃ x,elems v1 v2 v3=x:=⟨_,rfl⟩
   simp only [hel] at EL EB XC
   rw [XC.out] at HV
   have R3:=zH r3
   have e1:IntKind.i64.wrap ((m:Int) - 1)=(k:Int):=(IntWalk.i64_in _ (by have:=M3.out;omega)).trans (by have:=M3.out;omega)
   have e2:(k:Int) < (m:Int):=by have:=M3.out;omega
   have q1:¬ cl < 0:=by omega
   have q2:¬ 16 < cl:=by omega
   have b1:=mul_bd (a:=cl) (b:=el+1) (m:=16) (n:=1025) (by omega) (by omega) (by omega) (by omega) (by omega)
   have e3:IntKind.i64.wrap (el+1)=el+1:=IntWalk.i64_in _ (by omega)
   obtain ⟨ex,hex⟩:∃ x,b.exit=x:=⟨_,rfl⟩
   rw [hex] at HV
   have CX:∃ p,cl*(el+1)=p:=⟨_,rfl⟩
   obtain ⟨p,hp⟩:=CX
   have e4:IntKind.i64.wrap (cl*(el+1))=p:=by rw [← hp];exact IntWalk.i64_in _ (by omega)
   obtain ⟨S1,hS1⟩:∃ x,S0+p=x:=⟨_,rfl⟩
   have e5:IntKind.i64.wrap (S0+p)=S1:=by rw [← hS1];exact IntWalk.i64_in _ (by omega)
   rw [hex] at cA
   rw [hp] at b1 HV
   have HS1:=zH hS1
   have EQ:=zH hel
   clear hS r3 i1 i2 i3 EB hel hp hS1 hk hlt b1 SB XC
   have HRX:=zH (HR.out.fut hb5)
   cases ex with
   | true =>
    have RV:=zH (show r=S1 from HV.out.trans (HS1.out))
    clear HV
    go_upto_region 15 with (first|(refine lM 23 (.tmp 75) R3.out Tryz.underlying23 ?_)|(refine sF 23 (.tmp 15) (.tmp 76) (sN v1 v2 v3) ?_;intro w6 b6 k6;have HQ:=zN k6 HX b6;have HK:=zN k6 HRX b6;clear b6 cA;have cA:=fun i=>HQ.out.1.1.1.2.cell i;rw [hex] at cA)|(refine lB 23 (.tmp 15) wr.heap.size HQ.out.2 Tryz.underlying23 ?_)|(go_at_call 28;with_reducible refine (EL.out _).mono ?_;rintro e w8 ⟨rfl,hb⟩;replace HQ:=zF hb HQ;replace HK:=zF hb HK;clear hb))
    have zz:=HRX.out.lt
    have zy:=HQ.out.1.1.1.1.size
    have zx:=HX.out.1.1.1.size
    refine wp_region_held_drew (S:=fun w'=>Blk w' wr.heap.size 23 (sN v1 v2 v3)) (by kernel_rfl) HK.out.2.drew (fun hS=>?_)
    refine kH 0 rfl hS ?_
    simp only [pX]
    refine kH 2 rfl hS ?_
    simp only [pX]
    refine tkH 1 rfl (yB 23 (.tmp 15) wr.heap.size (fun w hs=>hs) Tryz.underlying23) hS ?_
    simp only [pX]
    refine rH 3 rfl (fun K hK=>?_)
    rw [if_pos (by rfl)]
    refine oper_store_blk 23 (.tmp 7) (.tmp 89) rfl w2.heap.size 0 (sN v1 v2 v3) rfl rfl _ (sN 0 0 0) (sN v1 v2 v3) HK.out.1.drew (by simp) (by kernel_rfl) (by rw [← Array.all_toList];rfl) rfl ?_
    intro w9 b9 g9
    refine hK.out _ _ (hS.away g9 (.inr zz)) (fun hS=>?_)
    have F9:=zH ((HQ.out.1.1.1.1.draw).away g9 (by omega))
    clear hK K
    simp only [pX]
    refine kH 4 rfl hS ?_
    simp only [pX]
    refine wpAnyH_done (by kernel_rfl) ?_ _
    go_wp2_with fail
    refine rTCT b9 Tryz.underlying23 ?_
    exact ⟨by rw [RV.out] <;> rfl,F9.out.out⟩
   | false =>
    have RV:=zH (show r=S0 from HV.out.trans (Int.add_zero _))
    clear HV
    go_upto_region 15 with (first|(refine lM 23 (.tmp 75) R3.out Tryz.underlying23 ?_)|(refine sF 23 (.tmp 15) (.tmp 76) (sN v1 v2 v3) ?_;intro w6 b6 k6;have HQ:=zN k6 HX b6;have HK:=zN k6 HRX b6;clear b6 cA;have cA:=fun i=>HQ.out.1.1.1.2.cell i;rw [hex] at cA))
    have zz:=HRX.out.lt
    have zy:=HQ.out.1.1.1.1.size
    have zx:=HX.out.1.1.1.size
    refine wp_region_held_drew (S:=fun w'=>Blk w' wr.heap.size 23 (sN v1 v2 v3)) (by kernel_rfl) HK.out.2.drew (fun hS=>?_)
    refine kH 0 rfl hS ?_
    simp only [pX]
    refine kH 2 rfl hS ?_
    simp only [pX]
    refine tkH 1 rfl (yB 23 (.tmp 15) wr.heap.size (fun w hs=>hs) Tryz.underlying23) hS ?_
    simp only [pX]
    refine rH 3 rfl (fun K hK=>?_)
    rw [if_pos (by rfl)]
    refine oper_store_blk 23 (.tmp 7) (.tmp 89) rfl w2.heap.size 0 (sN v1 v2 v3) rfl rfl _ (sN 0 0 0) (sN v1 v2 v3) HK.out.1.drew (by simp) (by kernel_rfl) (by rw [← Array.all_toList];rfl) rfl ?_
    intro w9 b9 g9
    refine hK.out _ _ (hS.away g9 (.inr zz)) (fun hS=>?_)
    have F9:=zH ((HQ.out.1.1.1.1.draw).away g9 (by omega))
    clear hK K
    simp only [pX]
    refine kH 4 rfl hS ?_
    simp only [pX]
    refine wpAnyH_done (by kernel_rfl) ?_ _
    go_wp2_with fail
    refine rTCT b9 Tryz.underlying23 ?_
    exact ⟨by rw [RV.out] <;> rfl,F9.out.out⟩
end Go.Proofs.YtppcjcigekoipaaGreat
