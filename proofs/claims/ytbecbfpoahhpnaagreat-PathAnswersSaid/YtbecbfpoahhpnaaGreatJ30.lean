/- What a block costs, where its shapes are right (layer 31): cost.Out, cost.Block, the document's Block. -/
import Derived.Test.YtbecbfpoahhpnaaGreatJ29
set_option linter.unusedVariables false
set_option linter.unusedSimpArgs false
set_option maxRecDepth 100000
set_option maxHeartbeats 16000000
namespace Go.Proofs.YtbecbfpoahhpnaaGreat
open Go.RowKit Go.ChangeShapes Go.WideShapes Tryz
theorem mV (b:aN) (L:QA) (n y:Nat) (W:QA) (nw g:Nat) (B:QA) (nb cb:Nat) (s:Sh3) (w:World) (t:dz b L n y W nw g B nb cb (blo w) w) (p:InK .i64 s.1∧InK .i64 s.2.1∧InK .i64 s.2.2) (I:iu b) (ok:(ao b.nodes s).2.2=0) :
  Calls prog 32 #[.agg #[.slice L n y,.bool b.exit,.slice W nw g,.slice B nb cb,.int .i32 b.head.need],.agg (sN s.1 s.2.1 s.2.2)] w fun e w'=>e=.returned (.tuple #[.agg (sN (cQ b s).1 (cQ b s).2.1 (cQ b s).2.2),.int .i64 0])∧Below w w w':=by
 obtain ⟨r,f,M,LN⟩:=zh4 (fun w h=>hZ L n y b.nodes s.1 s.2.1 s.2.2 w h p.1 p.2.1 p.2.2 I.1.2) (show (ao b.nodes s).1.length=n+1 by rw [fg ok,t.nodes.n_eq]) (Old.now t.nodes) t.nodes.n_eq;unfold bv at r;have v:=zH (show cQ b s=(ao b.nodes s).1.getD n (0,0,0) by unfold cQ;rw [t.nodes.n_eq]);have R:n≤8:=by have:=ie ok;rw [t.nodes.n_eq] at this;omega
 obtain ⟨⟨sl,sp,se⟩,d⟩:∃ x,ao b.nodes s=x:=⟨_,rfl⟩;simp only [d] at r f v ok;subst ok
 (try simp only at r)
 obtain ⟨S,T,U⟩:=s;rw [v.o]
 (try simp only at r)
 have H:=zW w;obtain ⟨⟨X,Y,Z⟩,k⟩:∃ x,sl.getD n (0,0,0)=x:=⟨_,rfl⟩;rw [k];have N:=zH k;clear t p I d v k;obtain ⟨V,l,C,k1⟩:=nB w #[.slice L n y,.bool b.exit,.slice W nw g,.slice B nb cb,.int .i32 b.head.need] 51;replace H:=zN k1 H C;clear C k1;obtain ⟨K,a,D,k2⟩:=nB V (sN S T U) 23;replace H:=zN k2 H D;clear D k2;obtain ⟨w3,z,E,J⟩:=nB K (sN 0 0 0) 23;replace H:=zN J H E;clear E J;have Q:=fun i=>H.o.1.1.2.cell i;go_in
 go_wp2_with (refine lG H.o.1.2 ?_)
 refine (r.o _ (M.o.fut H.o.1.1.1.out).all).mono ?_;rintro e w4 ⟨A,m,c,rfl,q,t⟩;replace H:=zF t H;obtain ⟨b3,o3,rfl,-,-,-,-,-,-,j⟩:=q.old.shape_at n (by have:=q.n_eq;have:=f.o;omega);have O:m=n+1:=by rw [← q.n_eq];exact f.o
 rw [N.o] at j;have P:=zH j;have e1:IntKind.i64.wrap ((m:Int) - 1)=(n:Int):=(wJ).trans oM;have e2:(n:Int) < (m:Int):=oM;have l1:=H.o.1.1.2.lt;have l2:w.heap.size < K.heap.size:=by rw [← a,← l];simp;omega
 have l3:=zL a;clear t q j Q O f l a z
 go_wp2_with (first|(refine lM 23 (.tmp 25) P.o underlying23 ?_)|(refine sG (sN X Y Z) H.o.2 ?_;intro w5 F G;replace H:=zS G F H;clear F G))
 refine rC H.o.2 underlying23 ?_;exact ⟨rfl,H.o.1.1.1.out⟩
theorem rK (b:aN) (L:QA) (n cn:Nat) (W:QA) (nw cw:Nat) (B:QA) (nb cb:Nat) (s:Sh3) (cl:Int) (w:World) (t:dz b L n cn W nw cw B nb cb (blo w) w) (hs:InK .i64 s.1∧InK .i64 s.2.1∧InK .i64 s.2.2) (hf:iu b) (ok:(ao b.nodes s).2.2=0) (br:2≤cl∧cl≤16) :
  Calls prog 83 #[.agg #[.slice L n cn,.bool b.exit,.slice W nw cw,.slice B nb cb,.int .i32 b.head.need],.agg (sN s.1 s.2.1 s.2.2),.int .i64 cl] w fun e w'=>e=.returned (.tuple #[.int .i64 (dC b s cl),.int .i64 0])∧Below w w w':=by
 obtain ⟨SP,SL,HN,LN⟩:=zh4 (fun w h=>hZ L n cn b.nodes s.1 s.2.1 s.2.2 w h hs.1 hs.2.1 hs.2.2 hf.1.2) (show (ao b.nodes s).1.length=n+1 by rw [fg ok,t.nodes.n_eq]) (Old.now t.nodes) t.nodes.n_eq;unfold bv at SP;obtain ⟨OK,FW,OV,y⟩:=zh4 ok hf.1.2 (show cQ b s=(ao b.nodes s).1.getD n (0,0,0) by unfold cQ;rw [t.nodes.n_eq]) (show dC b s cl=fH b.nodes (ao b.nodes s).1 n+iF b (cQ b s) cl by unfold dC;rw [t.nodes.n_eq]);have ba:n≤8:=by have:=ie ok;rw [t.nodes.n_eq] at this;omega
 obtain ⟨⟨sl,sp,se⟩,ax⟩:∃ x,ao b.nodes s=x:=⟨_,rfl⟩;simp only [ax] at SP SL OV ok y;subst ok
 (try simp only at SP)
 obtain ⟨r,hr⟩:∃ r,dC b s cl=r:=⟨_,rfl⟩;rw [hr] at y;rw [hr];obtain ⟨s1,s2,s3⟩:=s
 (try simp only at SP)
 have H:=zW w;obtain ⟨⟨v1,v2,v3⟩,P⟩:∃ x,sl.getD n (0,0,0)=x:=⟨_,rfl⟩;rw [OV.o] at y;rw [P] at y;have HY:=zH P;clear t hs hf ax hr P OV;obtain ⟨w1,bo,B1,k1⟩:=nB w #[.slice L n cn,.bool b.exit,.slice W nw cw,.slice B nb cb,.int .i32 b.head.need] 51;replace H:=zN k1 H B1;clear B1 k1;obtain ⟨w2,bn,B2,k2⟩:=nB w1 (sN s1 s2 s3) 23;replace H:=zN k2 H B2;clear B2 k2;have C:=fun i=>H.o.1.2.cell i;go_in
 go_wp2_with (refine lG H.o.2 ?_)
 refine (SP.o _ (HN.o.fut H.o.1.1.out).all).mono ?_;rintro e w4 ⟨A,m,c4,rfl,q,t⟩;obtain ⟨N4,G⟩:=zh2 (New.of q H.o.1.1) (show m=n+1 by rw [← q.n_eq];exact SL.o);replace H:=zN t H N4;clear C q N4 SL bo bn;have C:=fun i=>H.o.1.1.2.cell i;clear t;go_wp2;go_loopw [11,29] (fun sm i wr=>∃ k:Nat,k≤n∧i=.int .i64 k∧sm=.int .i64 (fH b.nodes sl k)∧Below w4 w4 wr) (fun _ i _=>n - (intOf i).toNat)
 case atStart=>exact ⟨0,zl _,rfl,rfl,qB _ _⟩
 case round =>
  obtain ⟨k,hk,rfl,rfl,K⟩:=hrel;have v:=zF K H;have C:=fun i=>v.o.1.1.2.cell i;by_cases ay:k < n
  ·have p1:(k:Int) < (n:Int):=oM;obtain ⟨d,gd,od,X,mx,cx,Y,my,cy,hd,hL,-,-,ac,O,j,rg⟩:=(HN.o.fut v.o.1.1.1.out).all.node_at k ay;subst hL;have NO:=nG OK.o hd;obtain ⟨bt,ad⟩:=FW.o d (mG hd);have S:=zH (ru (sl:=sl) hd);have SB:=jq b.nodes sl k;obtain ⟨I,al⟩:∃ I,d.a.toNat=I:=⟨_,rfl⟩;obtain ⟨ib,E⟩:∃ ib,(ar d).toNat=ib:=⟨_,rfl⟩;have NA:=NO.a;have NB:=NO.b;rw [LN.o] at NA NB;obtain ⟨J,o1,rfl,-,-,Q,R,i3,-,r1⟩:=v.o.2.old.shape_at I (by have:=G.o;omega);obtain ⟨b2,o2,V,-,-,-,-,-,-,r2⟩:=v.o.2.old.shape_at ib (by have:=G.o;omega);injection V with V
   injection V with V e3
   subst V e3;obtain ⟨⟨x1,x2,x3⟩,hx⟩:∃ x,sl.getD I (0,0,0)=x:=⟨_,rfl⟩;obtain ⟨⟨y1,y2,y3⟩,P⟩:∃ x,sl.getD ib (0,0,0)=x:=⟨_,rfl⟩;rw [hx] at r1 Q R i3;rw [P] at r2;rw [al,E,hx,P] at S;have CN:=zH (fun w=>te d X mx cx Y my cy (x1,x2,x3) (y1,y2,y3) w ac ⟨Q,R,i3⟩ O.n_eq.symm j.n_eq.symm (by have:=O.n_eq;omega) (by have:=j.n_eq;omega) NO.kind);have CB:=nQ d (x1,x2,x3) (y1,y2,y3);obtain ⟨c,hc⟩:∃ c,fx d (x1,x2,x3) (y1,y2,y3)=c:=⟨_,rfl⟩;simp only [hc] at CN CB S;obtain ⟨T,Z⟩:∃ c,fH b.nodes sl k=c:=⟨_,rfl⟩;rw [Z] at S SB ⊢;obtain ⟨S1,l⟩:∃ c',T+c=c':=⟨_,rfl⟩;have ew:IntKind.i64.wrap (T+c)=S1:=by rw [← l];exact wI _ (by have:k≤8:=lT hk ba;omega)
   rw [l] at S;have bs:=NA.1;have bh:d.a < (m:Int):=by have:=NA.2;have:=G.o;omega
   have gi:IntKind.i64.wrap ((k:Int)+1)=((k+1:Nat):Int):=(wJ).trans sM;have ah:ar d < (m:Int):=by have:=NB.2;have:=G.o;omega
   have an:=NB.1;have RG:=zH rg;clear hd Z l hc CB SB hx P Q R i3 ac O j rg NA NB bt ad;have KF:=zH (show (d.kind=6 → ar d=d.b)∧(d.kind ≠ 6 → ar d=d.a) from ⟨fun h=>if_pos h,fun h=>if_neg h⟩);have zr:=v.o.1.1.1.size;by_cases U:d.kind=6
   ·have t6:(d.kind == 6)=true:=by simp [U]
    have g:=KF.o.1 U;rw [g] at E an ah;clear KF g U
    go_upto_region 11 with (first|(refine lM 84 (.tmp 31) RG.o underlying84 ?_)|(refine sF 84 (.tmp 13) (.tmp 32) (nD d X mx cx Y my cy) ?_;intro f b6 F;have D:=zN F v b6;clear b6;(try clear C);have cB:=fun i=>D.o.2.cell i;have C:=fun i=>D.o.1.1.1.2.cell i))
    obtain ⟨R0,R1,R2,E1⟩:=zh4 (fun z:Ext f=>aq (off:=0) (vs:=[.int .i64 d.kind,.int .i64 d.a,.int .i64 d.b,.int .i64 d.k,.int .i64 d.s,.int .i64 d.p,.int .i64 d.out,.int .i8 d.za,.int .i8 d.zb,.slice X mx cx,.slice Y my cy,.int .i32 d.qm,.int .i64 d.qs,.int .i8 d.qz,.int .i32 d.rm,.int .i64 d.rs,.int .i8 d.rz,.int .i8 d.lo,.int .i8 d.hi]) (D.o.2.ext z) rfl) (fun z:Ext f=>de r1 (aa z.2 F)) (fun z:Ext f=>de r2 (aa z.2 F)) (fun z:Ext f=>aB z (CN.o z.1));have ca:∀ z:Ext f,z.1.cell? ⟨wr.heap.size,1,none⟩=some (.int .i64 d.a):=fun z=>(D.o.2.ext z).cell 1;clear r1 r2 C cB CN;refine am f kM kM (qB _ _) ?_;go_big_quiet_step (fail);refine aj kM 84 (.tmp 13) rfl wr.heap.size 0 rfl _ _ (by rintro _ ⟨z,rfl⟩;exact R0.o z) underlying84 rfl kM ?_;simp only [pX];repeat (go_big_quiet_step (fail))
    refine aj kM 23 (.tmp 45) rfl J (o1+I*3) rfl _ _ (by rintro _ ⟨z,rfl⟩;exact R1.o z) underlying23 rfl kM ?_;simp only [pX];repeat (go_big_quiet_step (fail))
    refine aj kM 23 (.tmp 49) rfl J (o1+ib*3) rfl _ _ (by rintro _ ⟨z,rfl⟩;exact R2.o z) underlying23 rfl kM ?_;simp only [pX];repeat (go_big_quiet_step ((with_reducible exact E1.o _)))
    refine wpQuiet_nil ?_;rintro wa ⟨⟨_,t⟩,rfl⟩;go_wp2;exact ⟨⟨k+1,by omega,by go_num,by rw [S.o],aa t (aa F K)⟩,by simp [intOf];omega⟩
   have t6:(d.kind == 6)=false:=by simpa using U
   have g:=KF.o.2 U;rw [g] at E an ah;obtain rfl:I=ib:=al.symm.trans E;clear KF g U
   go_upto_region 11 with (first|(refine lM 84 (.tmp 31) RG.o underlying84 ?_)|(refine sF 84 (.tmp 13) (.tmp 32) (nD d X mx cx Y my cy) ?_;intro f b6 F;have D:=zN F v b6;clear b6;(try clear C);have cB:=fun i=>D.o.2.cell i;have C:=fun i=>D.o.1.1.1.2.cell i))
   obtain ⟨R0,R1,R2,E1⟩:=zh4 (fun z:Ext f=>aq (off:=0) (vs:=[.int .i64 d.kind,.int .i64 d.a,.int .i64 d.b,.int .i64 d.k,.int .i64 d.s,.int .i64 d.p,.int .i64 d.out,.int .i8 d.za,.int .i8 d.zb,.slice X mx cx,.slice Y my cy,.int .i32 d.qm,.int .i64 d.qs,.int .i8 d.qz,.int .i32 d.rm,.int .i64 d.rs,.int .i8 d.rz,.int .i8 d.lo,.int .i8 d.hi]) (D.o.2.ext z) rfl) (fun z:Ext f=>de r1 (aa z.2 F)) (fun z:Ext f=>de r2 (aa z.2 F)) (fun z:Ext f=>aB z (CN.o z.1));have ca:∀ z:Ext f,z.1.cell? ⟨wr.heap.size,1,none⟩=some (.int .i64 d.a):=fun z=>(D.o.2.ext z).cell 1;clear r1 r2 C cB CN;refine am f kM kM (qB _ _) ?_;go_big_quiet_step (fail);refine aj kM 84 (.tmp 13) rfl wr.heap.size 0 rfl _ _ (by rintro _ ⟨z,rfl⟩;exact R0.o z) underlying84 rfl kM ?_;simp only [pX];repeat (go_big_quiet_step (fail))
   refine aj kM 23 (.tmp 45) rfl J (o1+I*3) rfl _ _ (by rintro _ ⟨z,rfl⟩;exact R1.o z) underlying23 rfl kM ?_;simp only [pX];repeat (go_big_quiet_step (fail))
   refine aj kM 23 (.tmp 49) rfl J (o1+I*3) rfl _ _ (by rintro _ ⟨z,rfl⟩;exact R2.o z) underlying23 rfl kM ?_;simp only [pX];repeat (go_big_quiet_step ((with_reducible exact E1.o _)))
   refine wpQuiet_nil ?_;rintro wa ⟨⟨_,t⟩,rfl⟩;go_wp2;exact ⟨⟨k+1,by omega,by go_num,by rw [S.o],aa t (aa F K)⟩,by simp [intOf];omega⟩
  ·obtain rfl:k=n:=oM;have p1:¬ (k:Int) < (k:Int):=oM;have SB:=jq b.nodes sl k;obtain ⟨T,Z⟩:∃ c,fH b.nodes sl k=c:=⟨_,rfl⟩;rw [Z] at SB y;rw [Z];obtain ⟨b3,o3,rfl,-,-,Q,R,i3,-,r3⟩:=v.o.2.old.shape_at k (by have:=G.o;omega);rw [HY.o] at r3 Q R i3;have EL:=zH (fun w=>bL v1 v3 v2 w Q R i3);have EB:=aF v1 v2 v3;have XC:=zH (show iF b (v1,v2,v3) cl=if b.exit=true then cl*(ag v1 v2 v3+1) else 0 by
    unfold iF elS;rw [show min (max cl 0) 16=cl by omega])
   obtain ⟨el,M⟩:∃ x,ag v1 v2 v3=x:=⟨_,rfl⟩;simp only [M] at EL EB XC;rw [XC.o] at y;have R3:=zH r3;have e1:IntKind.i64.wrap ((m:Int) - 1)=(k:Int):=(wI _ (by have:=G.o;omega)).trans (by have:=G.o;omega);have V:(k:Int) < (m:Int):=by have:=G.o;omega
   have q1:¬ cl < 0:=oM;have q2:¬ 16 < cl:=oM;have qm:max cl 0=cl:=oM;have qn:min cl 16=cl:=oM;have J:=ez (a:=cl) (b:=el+1) (m:=16) (n:=1025) oM oM oM oM oM;have e3:IntKind.i64.wrap (el+1)=el+1:=wJ;obtain ⟨ex,N⟩:∃ x,b.exit=x:=⟨_,rfl⟩;rw [N] at y;have CX:∃ p,cl*(el+1)=p:=⟨_,rfl⟩;obtain ⟨p,hp⟩:=CX;have e4:IntKind.i64.wrap (cl*(el+1))=p:=by rw [← hp];exact wJ
   obtain ⟨S1,l⟩:∃ x,T+p=x:=⟨_,rfl⟩;have e5:IntKind.i64.wrap (T+p)=S1:=by rw [← l];exact wJ
   rw [N] at C;rw [hp] at J y;obtain ⟨be,EQ⟩:=zh2 l M;clear Z r3 Q R i3 EB M hp l hk ay J SB XC N;cases ex with
   | true =>
    have RV:=zH (show r=S1 from y.o.trans be.o);clear y
    go_wp2_with (first|(refine lM 23 (.tmp 64) R3.o underlying23 ?_)|(go_at_call 85;with_reducible refine (EL.o _).mono ?_;rintro e w8 ⟨rfl,t⟩;replace v:=zF t v;clear t))
    go_ret2
    exact ⟨by rw [RV.o] <;> rfl,v.o.1.1.1.out⟩
   | false =>
    have RV:=zH (show r=T from y.o.trans (Int.add_zero _));clear y;go_wp2_with fail
    go_ret2
    exact ⟨by rw [RV.o] <;> rfl,v.o.1.1.1.out⟩
theorem qj (b:aN) (L:QA) (n cn:Nat) (W:QA) (nw cw:Nat) (B:QA) (nb cb:Nat) (s:Sh3) (cl:Int) (w:World) (f:dz b L n cn W nw cw B nb cb (blo w) w) (T:InK .i64 s.1∧InK .i64 s.2.1∧InK .i64 s.2.2) (hf:iu b) (ok:(ao b.nodes s).2.2=0) (bc:2≤cl∧cl≤16) :
  Calls prog 41 #[.agg #[.slice L n cn,.bool b.exit,.slice W nw cw,.slice B nb cb,.int .i32 b.head.need],.agg (sN s.1 s.2.1 s.2.2),.int .i64 cl] w fun e w'=>e=.returned (.tuple #[.int .i64 (dC b s cl),.agg (sN (cQ b s).1 (cQ b s).2.1 (cQ b s).2.2),.int .i64 0])∧Below w w w':=by
 obtain ⟨SP,SL,HN,LN⟩:=zh4 (fun w h=>kr L n cn b.nodes s.1 s.2.1 s.2.2 w h T.1 T.2.1 T.2.2 hf.1.2) (show (ao b.nodes s).1.length=n+1 by rw [fg ok,f.nodes.n_eq]) (Old.now f.nodes) f.nodes.n_eq;unfold bv at SP;obtain ⟨OK,FW,OV,G⟩:=zh4 ok hf.1.2 (show cQ b s=(ao b.nodes s).1.getD n (0,0,0) by unfold cQ;rw [f.nodes.n_eq]) (show dC b s cl=fH b.nodes (ao b.nodes s).1 n+iF b (cQ b s) cl by unfold dC;rw [f.nodes.n_eq]);have bh:n≤8:=by have:=ie ok;rw [f.nodes.n_eq] at this;omega
 obtain ⟨⟨sl,sp,se⟩,bt⟩:∃ x,ao b.nodes s=x:=⟨_,rfl⟩;simp only [bt] at SP SL OV ok G;subst ok
 (try simp only at SP)
 obtain ⟨r,hr⟩:∃ r,dC b s cl=r:=⟨_,rfl⟩;rw [hr] at G;rw [hr];obtain ⟨s1,s2,s3⟩:=s
 (try simp only at SP)
 have H:=zW w;obtain ⟨⟨D,E,F⟩,U⟩:∃ x,sl.getD n (0,0,0)=x:=⟨_,rfl⟩;rw [OV.o,U];rw [OV.o] at G;rw [U] at G;have HY:=zH U;clear f T hf bt hr U OV;obtain ⟨w1,ba,B1,k1⟩:=nB w #[.slice L n cn,.bool b.exit,.slice W nw cw,.slice B nb cb,.int .i32 b.head.need] 51;replace H:=zN k1 H B1;clear B1 k1;obtain ⟨w2,bo,B2,k2⟩:=nB w1 (sN s1 s2 s3) 23;replace H:=zN k2 H B2;clear B2 k2;have l1:=zL ba;have l2:=zL bo;obtain ⟨w3,br,B3,k3⟩:=nB w2 (sN 0 0 0) 23;have HR:=zH (show Blk w3 w2.heap.size 23 (sN 0 0 0) from B3.o);replace H:=zF k3 H;clear B3;have y:=fun i=>H.o.1.2.cell i;go_in
 go_wp2_with (refine lG H.o.2 ?_)
 refine (SP.o _ (HN.o.fut H.o.1.1.out).all).mono ?_;rintro e w4 ⟨A,m,c4,rfl,q,f⟩;obtain ⟨N4,R⟩:=zh2 (New.of q H.o.1.1) (show m=n+1 by rw [← q.n_eq];exact SL.o);replace H:=zN f H N4;clear y q N4 SL ba bo br;have y:=fun i=>H.o.1.1.2.cell i;replace HR:=zF f HR;clear f;go_wp2;go_loopw [12,13] (fun sm i wr=>∃ k:Nat,k≤n∧i=.int .i64 k∧sm=.int .i64 (fH b.nodes sl k)∧Below w4 w4 wr) (fun _ i _=>n - (intOf i).toNat)
 case atStart=>exact ⟨0,zl _,rfl,rfl,qB _ _⟩
 case round =>
  obtain ⟨k,hk,rfl,rfl,O⟩:=hrel;have I:=zF O H;have y:=fun i=>I.o.1.1.2.cell i;by_cases be:k < n
  ·have p1:(k:Int) < (n:Int):=oM;obtain ⟨d,gd,od,X,mx,cx,Y,my,cy,hd,hL,-,-,ax,ah,M,rg⟩:=(HN.o.fut I.o.1.1.1.out).all.node_at k be;subst hL;have NO:=nG OK.o hd;obtain ⟨bs,ac⟩:=FW.o d (mG hd);have NX:=zH (ru (sl:=sl) hd);have SB:=jq b.nodes sl k;obtain ⟨V,ay⟩:∃ V,d.a.toNat=V:=⟨_,rfl⟩;obtain ⟨ib,Q⟩:∃ ib,(ar d).toNat=ib:=⟨_,rfl⟩;have NA:=NO.a;have NB:=NO.b;rw [LN.o] at NA NB;obtain ⟨b1,o1,rfl,-,-,i1,i2,i3,-,r1⟩:=I.o.2.old.shape_at V (by have:=R.o;omega);obtain ⟨b2,o2,e2,-,-,-,-,-,-,r2⟩:=I.o.2.old.shape_at ib (by have:=R.o;omega);injection e2 with e2
   injection e2 with e2 e3
   subst e2 e3;obtain ⟨⟨x1,x2,x3⟩,hx⟩:∃ x,sl.getD V (0,0,0)=x:=⟨_,rfl⟩;obtain ⟨⟨y1,y2,y3⟩,U⟩:∃ x,sl.getD ib (0,0,0)=x:=⟨_,rfl⟩;rw [hx] at r1 i1 i2 i3;rw [U] at r2;rw [ay,Q,hx,U] at NX;have CN:=zH (fun w=>rY d X mx cx Y my cy (x1,x2,x3) (y1,y2,y3) w ax ⟨i1,i2,i3⟩ ah.n_eq.symm M.n_eq.symm (by have:=ah.n_eq;omega) (by have:=M.n_eq;omega) NO.kind);have CB:=nQ d (x1,x2,x3) (y1,y2,y3);obtain ⟨c,hc⟩:∃ c,fx d (x1,x2,x3) (y1,y2,y3)=c:=⟨_,rfl⟩;simp only [hc] at CN CB NX;obtain ⟨S0,l⟩:∃ c,fH b.nodes sl k=c:=⟨_,rfl⟩;rw [l] at NX SB ⊢;obtain ⟨S1,g⟩:∃ c',S0+c=c':=⟨_,rfl⟩;have ew:IntKind.i64.wrap (S0+c)=S1:=by rw [← g];exact wI _ (by have:k≤8:=lT hk bh;omega)
   rw [g] at NX;have bd:=NA.1;have bl:d.a < (m:Int):=by have:=NA.2;have:=R.o;omega
   have gi:IntKind.i64.wrap ((k:Int)+1)=((k+1:Nat):Int):=(wJ).trans sM;have al:ar d < (m:Int):=by have:=NB.2;have:=R.o;omega
   have ad:=NB.1;have RG:=zH rg;clear hd l g hc CB SB hx U i1 i2 i3 ax ah M rg NA NB bs ac;have KF:=zH (show (d.kind=6 → ar d=d.b)∧(d.kind ≠ 6 → ar d=d.a) from ⟨fun h=>if_pos h,fun h=>if_neg h⟩);have zr:=I.o.1.1.1.size;by_cases c6:d.kind=6
   ·have t6:(d.kind == 6)=true:=by simp [c6]
    have J:=KF.o.1 c6;rw [J] at Q ad al;clear KF J c6
    go_upto_region 10 with (first|(refine lM 84 (.tmp 38) RG.o underlying84 ?_)|(refine sF 84 (.tmp 14) (.tmp 39) (nD d X mx cx Y my cy) ?_;intro v C j;have t:=zN j I C;clear C;(try clear y);have cB:=fun i=>t.o.2.cell i;have y:=fun i=>t.o.1.1.1.2.cell i))
    obtain ⟨R0,R1,R2,E1⟩:=zh4 (fun z:Ext v=>aq (off:=0) (vs:=[.int .i64 d.kind,.int .i64 d.a,.int .i64 d.b,.int .i64 d.k,.int .i64 d.s,.int .i64 d.p,.int .i64 d.out,.int .i8 d.za,.int .i8 d.zb,.slice X mx cx,.slice Y my cy,.int .i32 d.qm,.int .i64 d.qs,.int .i8 d.qz,.int .i32 d.rm,.int .i64 d.rs,.int .i8 d.rz,.int .i8 d.lo,.int .i8 d.hi]) (t.o.2.ext z) rfl) (fun z:Ext v=>de r1 (aa z.2 j)) (fun z:Ext v=>de r2 (aa z.2 j)) (fun z:Ext v=>aB z (CN.o z.1));have ca:∀ z:Ext v,z.1.cell? ⟨wr.heap.size,1,none⟩=some (.int .i64 d.a):=fun z=>(t.o.2.ext z).cell 1;have cb:∀ z:Ext v,z.1.cell? ⟨wr.heap.size,2,none⟩=some (.int .i64 d.b):=fun z=>(t.o.2.ext z).cell 2;clear r1 r2 y cB CN;refine am v kM kM (qB _ _) ?_;go_big_quiet_step (fail);refine aj kM 84 (.tmp 14) rfl wr.heap.size 0 rfl _ _ (by rintro _ ⟨z,rfl⟩;exact R0.o z) underlying84 rfl kM ?_;simp only [pX];repeat (go_big_quiet_step (fail))
    refine aj kM 23 (.tmp 48) rfl b1 (o1+V*3) rfl _ _ (by rintro _ ⟨z,rfl⟩;exact R1.o z) underlying23 rfl kM ?_;simp only [pX];repeat (go_big_quiet_step (fail))
    refine aj kM 23 (.tmp 53) rfl b1 (o1+ib*3) rfl _ _ (by rintro _ ⟨z,rfl⟩;exact R2.o z) underlying23 rfl kM ?_;simp only [pX];repeat (go_big_quiet_step ((with_reducible exact E1.o _)))
    refine wpQuiet_nil ?_;rintro wa ⟨⟨_,f⟩,rfl⟩;have HZ:=zF f t;have y:=fun i=>HZ.o.1.1.1.2.cell i;go_wp2;exact ⟨⟨k+1,by omega,by go_num,by rw [NX.o],aa f (aa j O)⟩,by simp [intOf];omega⟩
   have t6:(d.kind == 6)=false:=by simpa using c6
   have J:=KF.o.2 c6;rw [J] at Q ad al;obtain rfl:V=ib:=ay.symm.trans Q;clear KF J c6
   go_upto_region 11 with (first|(refine lM 84 (.tmp 38) RG.o underlying84 ?_)|(refine sF 84 (.tmp 14) (.tmp 39) (nD d X mx cx Y my cy) ?_;intro v C j;have t:=zN j I C;clear C;(try clear y);have cB:=fun i=>t.o.2.cell i;have y:=fun i=>t.o.1.1.1.2.cell i))
   obtain ⟨R0,R1,R2,E1⟩:=zh4 (fun z:Ext v=>aq (off:=0) (vs:=[.int .i64 d.kind,.int .i64 d.a,.int .i64 d.b,.int .i64 d.k,.int .i64 d.s,.int .i64 d.p,.int .i64 d.out,.int .i8 d.za,.int .i8 d.zb,.slice X mx cx,.slice Y my cy,.int .i32 d.qm,.int .i64 d.qs,.int .i8 d.qz,.int .i32 d.rm,.int .i64 d.rs,.int .i8 d.rz,.int .i8 d.lo,.int .i8 d.hi]) (t.o.2.ext z) rfl) (fun z:Ext v=>de r1 (aa z.2 j)) (fun z:Ext v=>de r2 (aa z.2 j)) (fun z:Ext v=>aB z (CN.o z.1));have ca:∀ z:Ext v,z.1.cell? ⟨wr.heap.size,1,none⟩=some (.int .i64 d.a):=fun z=>(t.o.2.ext z).cell 1;clear r1 r2 y cB CN;refine am v kM kM (qB _ _) ?_;go_big_quiet_step (fail);refine aj kM 84 (.tmp 14) rfl wr.heap.size 0 rfl _ _ (by rintro _ ⟨z,rfl⟩;exact R0.o z) underlying84 rfl kM ?_;simp only [pX];repeat (go_big_quiet_step (fail))
   refine aj kM 23 (.tmp 62) rfl b1 (o1+V*3) rfl _ _ (by rintro _ ⟨z,rfl⟩;exact R1.o z) underlying23 rfl kM ?_;simp only [pX];repeat (go_big_quiet_step (fail))
   refine aj kM 23 (.tmp 67) rfl b1 (o1+V*3) rfl _ _ (by rintro _ ⟨z,rfl⟩;exact R2.o z) underlying23 rfl kM ?_;simp only [pX];repeat (go_big_quiet_step ((with_reducible exact E1.o _)))
   refine wpQuiet_nil ?_;rintro wa ⟨⟨_,f⟩,rfl⟩;have HZ:=zF f t;have y:=fun i=>HZ.o.1.1.1.2.cell i;go_wp2;exact ⟨⟨k+1,by omega,by go_num,by rw [NX.o],aa f (aa j O)⟩,by simp [intOf];omega⟩
  ·obtain rfl:k=n:=oM;have p1:¬ (k:Int) < (k:Int):=oM;have SB:=jq b.nodes sl k;obtain ⟨S0,l⟩:∃ c,fH b.nodes sl k=c:=⟨_,rfl⟩;rw [l] at SB G;rw [l];obtain ⟨b3,o3,rfl,-,-,i1,i2,i3,-,r3⟩:=I.o.2.old.shape_at k (by have:=R.o;omega);rw [HY.o] at r3 i1 i2 i3;have EL:=zH (fun w=>bX D F E w i1 i2 i3);have EB:=aF D E F;have XC:=zH (show iF b (D,E,F) cl=if b.exit=true then cl*(ag D E F+1) else 0 by
    unfold iF elS;rw [show min (max cl 0) 16=cl by omega])
   obtain ⟨el,an⟩:∃ x,ag D E F=x:=⟨_,rfl⟩;simp only [an] at EL EB XC;rw [XC.o] at G;have R3:=zH r3;have e1:IntKind.i64.wrap ((m:Int) - 1)=(k:Int):=(wI _ (by have:=R.o;omega)).trans (by have:=R.o;omega);have e2:(k:Int) < (m:Int):=by have:=R.o;omega
   have q1:¬ cl < 0:=oM;have q2:¬ 16 < cl:=oM;have qm:max cl 0=cl:=oM;have qn:min cl 16=cl:=oM;have b1:=ez (a:=cl) (b:=el+1) (m:=16) (n:=1025) oM oM oM oM oM;have e3:IntKind.i64.wrap (el+1)=el+1:=wJ;obtain ⟨ex,P⟩:∃ x,b.exit=x:=⟨_,rfl⟩;rw [P] at G;have CX:∃ p,cl*(el+1)=p:=⟨_,rfl⟩;obtain ⟨p,hp⟩:=CX;have e4:IntKind.i64.wrap (cl*(el+1))=p:=by rw [← hp];exact wJ
   obtain ⟨S1,g⟩:∃ x,S0+p=x:=⟨_,rfl⟩;have e5:IntKind.i64.wrap (S0+p)=S1:=by rw [← g];exact wJ
   rw [P] at y;rw [hp] at b1 G;obtain ⟨bn,EQ⟩:=zh2 g an;clear l r3 i1 i2 i3 EB an hp g hk be b1 SB XC;have N:=zH (HR.o.fut O);cases ex with
   | true =>
    have RV:=zH (show r=S1 from G.o.trans (bn.o));clear G
    go_upto_region 15 with (first|(refine lM 23 (.tmp 75) R3.o underlying23 ?_)|(refine sF 23 (.tmp 15) (.tmp 76) (sN D E F) ?_;intro v C j;have t:=zN j I C;have Z:=zN j N C;clear C y;have y:=fun i=>t.o.1.1.1.2.cell i;rw [P] at y)|(refine lG t.o.2 ?_)|(go_at_call 47;with_reducible refine (EL.o _).mono ?_;rintro e w8 ⟨rfl,f⟩;obtain ⟨t,Z⟩:=uz2 f t Z;clear f))
    have zz:=N.o.lt;have zy:=t.o.1.1.1.1.size;have zx:=I.o.1.1.1.size;refine wp_region_held_drew (S:=fun w'=>Blk w' wr.heap.size 23 (sN D E F)) kM Z.o.2.drew (fun l=>?_);refine kH 0 rfl l ?_;simp only [pX];refine kH 2 rfl l ?_;simp only [pX];refine tkH 1 rfl (yB 23 (.tmp 15) wr (fun w T=>T) underlying23) l ?_;simp only [pX];refine rH 3 rfl (fun K hK=>?_);rw [if_pos (by rfl)];refine oper_store_blk 23 (.tmp 7) (.tmp 89) rfl w2.heap.size 0 (sN D E F) rfl rfl _ (sN 0 0 0) (sN D E F) Z.o.1.drew sM kM (by rw [← Array.all_toList];rfl) rfl ?_;intro w9 b9 g9;refine hK.out _ _ (l.away g9 (.inr zz)) (fun l=>?_);have F9:=zH ((t.o.1.1.1.1.draw).away g9 oM);clear hK K;simp only [pX];refine kH 4 rfl l ?_;simp only [pX];refine wpAnyH_done kM ?_ _;go_wp2_with fail;refine rTCT b9 underlying23 ?_;exact ⟨by rw [RV.o] <;> rfl,F9.o.out⟩
   | false =>
    have RV:=zH (show r=S0 from G.o.trans (Int.add_zero _));clear G
    go_upto_region 15 with (first|(refine lM 23 (.tmp 75) R3.o underlying23 ?_)|(refine sF 23 (.tmp 15) (.tmp 76) (sN D E F) ?_;intro v C j;have t:=zN j I C;have Z:=zN j N C;clear C y;have y:=fun i=>t.o.1.1.1.2.cell i;rw [P] at y))
    have zz:=N.o.lt;have zy:=t.o.1.1.1.1.size;have zx:=I.o.1.1.1.size;refine wp_region_held_drew (S:=fun w'=>Blk w' wr.heap.size 23 (sN D E F)) kM Z.o.2.drew (fun l=>?_);refine kH 0 rfl l ?_;simp only [pX];refine kH 2 rfl l ?_;simp only [pX];refine tkH 1 rfl (yB 23 (.tmp 15) wr (fun w T=>T) underlying23) l ?_;simp only [pX];refine rH 3 rfl (fun K hK=>?_);rw [if_pos (by rfl)];refine oper_store_blk 23 (.tmp 7) (.tmp 89) rfl w2.heap.size 0 (sN D E F) rfl rfl _ (sN 0 0 0) (sN D E F) Z.o.1.drew sM kM (by rw [← Array.all_toList];rfl) rfl ?_;intro w9 b9 g9;refine hK.out _ _ (l.away g9 (.inr zz)) (fun l=>?_);have F9:=zH ((t.o.1.1.1.1.draw).away g9 oM);clear hK K;simp only [pX];refine kH 4 rfl l ?_;simp only [pX];refine wpAnyH_done kM ?_ _;go_wp2_with fail;refine rTCT b9 underlying23 ?_;exact ⟨by rw [RV.o] <;> rfl,F9.o.out⟩
end Go.Proofs.YtbecbfpoahhpnaaGreat
