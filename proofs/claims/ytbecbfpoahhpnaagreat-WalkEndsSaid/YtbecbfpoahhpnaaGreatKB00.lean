/- The walk of the law WalkEnds (layer 36). -/
import Derived.Test.YtbecbfpoahhpnaaGreatJ49
set_option linter.unusedVariables false
set_option linter.unusedSimpArgs false
set_option maxRecDepth 100000
set_option maxHeartbeats 16000000
namespace Go.Proofs.YtbecbfpoahhpnaaGreat
open Go.RowKit Go.ChangeShapes Go.WideShapes Tryz
theorem Ev (u:Bun) (A:QA) (n t:Nat) (w:World) (y:Sl bJ w (blo w) A n t u.models) (hi:inU u) (l:iw u) :
  Calls prog 7 #[.agg #[.int .i64 u.h,.int .i64 u.v,.int .i64 u.c,.int .i64 u.cl,.slice A n t]] w fun e w'=>e=.returned (.bool ((cP u).1 == 0))∧Below w w w':=by
 obtain ⟨s,k⟩:=zh2 (fun w h=>ut u A n t w h hi l) (Old.now y);obtain ⟨q,m⟩:∃ x,u.h=x:=⟨_,rfl⟩;obtain ⟨C,p⟩:∃ x,u.v=x:=⟨_,rfl⟩;obtain ⟨j,d⟩:∃ x,u.c=x:=⟨_,rfl⟩;obtain ⟨B,f⟩:∃ x,u.cl=x:=⟨_,rfl⟩;obtain ⟨⟨g,D,E,F⟩,b⟩:∃ x,cP u=x:=⟨_,rfl⟩;simp only [b,m,p,d,f] at s ⊢;clear m p d f b y hi l;have H:=zW w;obtain ⟨G,a,i,k1⟩:=nB w #[.int .i64 q,.int .i64 C,.int .i64 j,.int .i64 B,.slice A n t] 26;replace H:=zN k1 H i;clear i k1;have z:∀ w:World,(Instr.field 78 (.agg #[.int .i64 g,.int .i64 D,.int .i64 E,.int .i64 F]) 0).run prog w=.ok (.int .i64 g) w:=fun _=>by kernel_rfl
 go_in
 go_wp2_with (refine lG H.o.2 ?_)
 refine qM (s.o _ (k.o.fut H.o.1.out).all) fun I r=>?_;replace H:=zF r H;clear r a;go_wp2;go_ret;exact ⟨rfl,H.o.1.out⟩
theorem Ex (l:List Int) {q:Nat} (h:q < l.length):(l.take (q+1)).sum=(l.take q).sum+l.getD q 0:=by
 have e:l[q]?=some l[q]:=List.getElem?_eq_getElem h;have t:l.take (q+1)=l.take q ++ [l.getD q 0]:=by rw [List.take_add_one,e,aX e];rfl
 rw [t,List.sum_append];simp only [List.sum_cons,List.sum_nil,Int.add_zero]
theorem Ez {t:ae} {s:Sh3} (h:fy t s=true):t.ok=true∧hvc t=s:=by
 unfold fy at h;simp only [Bool.and_eq_true,beq_iff_eq,List.cons.injEq,and_true] at h;exact ⟨h.1,by unfold hvc;rw [h.2.1,h.2.2.1,h.2.2.2]⟩
theorem Ey (u:Bun):rightW u 0 0 0 ak ak=false:=by
 have e:ft u 0 ak=false:=by
  have q:fy ak (u.h,u.v,u.c)=false:=by
   have r:ak.ok=false:=by kernel_rfl
   unfold fy;rw [r];rfl
  unfold ft;rw [q,Bool.and_false]
 unfold rightW;rw [e,Bool.and_false,Bool.false_and,Bool.false_and]
structure Btw (a b:Nat) (k:IntKind) (w:World) (X:QA) (n c:Nat) (l:List Int):Prop where
 out:Sl (ab k) w (bin a b) X n c l
 le:b≤w.heap.size
instance kpBtw {w w':World} {a b n c:Nat} {k:IntKind} {X:QA} {l:List Int}:Kp w w' (Btw a b k w X n c l) (Btw a b k w' X n c l):=⟨fun h hb=>⟨h.out.below hb fun y hy=>by have:=hy.2;have:=h.le;omega,lT h.le hb.size⟩⟩
instance stBtw {w w':World} {a b n c m:Nat} {k:IntKind} {X:QA} {l:List Int}:St w w' m (Btw a b k w X n c l) (Btw a b k w' X n c l) (m < a ∨ b≤m):=⟨fun h g hm=>⟨h.out.keep fun y hy=>g.block y (by have:=hy.2;have:=h.le;omega) (fun e=>by have:=sI e;have:=hy.1;have:=hy.2;omega),lT h.le g.size⟩⟩
theorem Ew (u:Bun) (A:QA) (n F:Nat) (t:ae) (D:QA) (m c:Nat) (w:World) (hu:Sl bJ w (blo w) A n F u.models) (hi:inU u) (ht:aw t) (hd:xA w D m c t.data) :
  Calls prog 3 #[.agg #[.int .i64 u.h,.int .i64 u.v,.int .i64 u.c,.int .i64 u.cl,.slice A n F],.agg (tN t.h t.v t.c D m c)] w fun e w'=>e=.returned (.bool true)∧Below w w w':=by
 obtain ⟨KN,FW,RV,NO,CT,SR,ST⟩:=zh7 (fun w=>vg w) (fun w h=>yz u A n F w h) (fun w h hf=>Ev u A n F w h hi hf) (fun w h hf hz=>yW u A n F w h hi hf hz) (fun w h hf ok=>qk u A n F w h hf ok) (fun w h hf=>uj u A n F w h hf) (fun g x4 x5 x6 w d ha hn=>Ab t g u.h u.v u.c (.int .i64 u.cl) x4 x5 x6 D m c w d ht ha hn);have m9:m≤9223372036854775807:=lT hd.cap_le hd.max_le;obtain ⟨HU,HD,I,ad⟩:=zh4 (Old.now hu) (Old.now hd) ht (fun hz=>wA (u:=u) hz);obtain ⟨x1,G⟩:∃ x,(cP u).1=x:=⟨_,rfl⟩;simp only [G] at RV NO ad;obtain ⟨fv,bl⟩:∃ x,fy t (u.h,u.v,u.c)=x:=⟨_,rfl⟩;have FV:=zH bl;simp only [bl] at ST;unfold DA at FW;unfold sU at CT;unfold Cx kF at ST;clear G bl hu hi ht hd;have H:=zW w;obtain ⟨w1,bW,B1,k1⟩:=nB w #[.int .i64 u.h,.int .i64 u.v,.int .i64 u.c,.int .i64 u.cl,.slice A n F] 26;replace H:=zN k1 H B1;clear B1 k1;obtain ⟨w2,ce,B2,k2⟩:=nB w1 (tN t.h t.v t.c D m c) 29;replace H:=zN k2 H B2;have cS:w.heap.size < w1.heap.size:=zL bW;have cW:w1.heap.size < w2.heap.size:=zL ce;clear B2 k2;go_in
 go_wp2_with (refine lG H.o.1.2 ?_)
 refine (FW.o _ (HU.o.fut H.o.1.1.out).all).mono ?_;rintro e w3 ⟨f,rfl,hf,d⟩;have z3:=d.size;replace H:=zF d H;have FU:=zH hf;clear d hf FW bW ce;have cT:=fun i=>H.o.2.cell i;cases f with
 | false =>
  clear FU;go_wp2_with fail;refine qM (KN.o _) fun wk d=>?_;replace H:=zF d H;clear d;go_wp2;go_ret;exact ⟨rfl,H.o.1.1.out⟩
 | true =>
 by_cases m3:300 < m
 ·have t3:decide (300 < (m:Int))=true:=sO;go_wp2_with fail;refine qM (KN.o _) fun wk d=>?_;replace H:=zF d H;clear d;go_wp2;go_ret;exact ⟨rfl,H.o.1.1.out⟩
 have t3:decide (300 < (m:Int))=false:=sO;have HF:=zH (FU.o rfl);clear FU
 go_wp2_with (refine bU kM 26 (.tmp 2) rfl w.heap.size 0 rfl [.int .i64 u.h,.int .i64 u.v,.int .i64 u.c,.int .i64 u.cl,.slice A n F] _ (aq H.o.1.2 rfl) underlying26 rfl kM ?_)
 refine qM (RV.o _ (HU.o.fut H.o.1.1.out).all HF.o) fun w4 d=>?_;have z4:=d.size;replace H:=zF d H;clear d RV cT;by_cases hz:x1=0;rotate_left
 ·have t4:(x1 == 0)=false:=by simpa using hz
  clear hz ad NO;go_wp2_with fail;refine qM (KN.o _) fun wk d=>?_;replace H:=zF d H;clear d;go_wp2;go_ret;exact ⟨rfl,H.o.1.1.out⟩
 subst hz;have OK:=zH (ad.o (by trivial));clear ad t3
 go_wp2_with (refine lG H.o.1.2 ?_)
 refine (NO.o _ (HU.o.fut H.o.1.1.out).all HF.o (by trivial)).mono ?_;rintro e w5 ⟨g,rfl,hg,bM,d⟩;have z5:=d.size;replace H:=zF d H;obtain ⟨Z,V,c1,B,nb,cb,C,nc,cc,ah,h1,h2,h3⟩:∃ Z V c1 B nb cb C nc cc,Blk w5 g 99 (nK u Z V c1 B nb cb C nc cc)∧Sl bJ w5 (blo w5) Z V c1 u.models∧Sl fi w5 (blo w5) B nb cb (aO u)∧Sl kt w5 (blo w5) C nc cc (fT u):=by
  obtain ⟨Z,V,c1,B,cb,C,cc,q1,q2,q3,q4⟩:=bM.out;exact ⟨Z,V,c1,B,_,cb,C,_,cc,q1,q2.old,q3.old,q4.old⟩
 have lg:=ah.lt;have U:=zH (And.intro (And.intro (And.intro ah (Old.now h1)) (Old.now h2)) (Old.now h3));clear d NO bM ah h1 h2 h3;have NR:=zH (fun a b s (x:ae) X J N Y K O w d (ht:aw t) (ck:aw x) T hi G E=>lV u Z V c1 B nb cb C nc cc a b s t x X J N Y K O g w d ht ck T hi G E)
 go_wp2_with (refine lG H.o.2 ?_)
 refine (ST.o g _ _ _ _ U.o.1.1.1 (HD.o.fut H.o.1.1.out).all oM).mono ?_;clear ST;cases fv with
 | false =>
  rintro e w7 ⟨A5,n5,c5,B5,m5,d5,rfl,s1,s2,d⟩;obtain ⟨H,U⟩:=uz2 d H U;obtain ⟨W,NQ⟩:=zh2 (And.intro (Old.now s1.old) (Old.now s2.old)) (fun w d T hi G E=>lV u Z V c1 B nb cb C nc cc 0 0 0 ak ak A5 n5 c5 B5 m5 d5 g w d ⟨by rw [ai];decide,by rw [ai];decide,by rw [ai];decide⟩ ⟨by rw [ai];decide,by rw [ai];decide,by rw [ai];decide⟩ T hi G E);rw [Ey] at NQ;dsimp only [pK,qd,ak] at NQ W ⊢;clear d s1 s2 CT SR NR
  go_wp2_with (first
   | (refine sF 37 (.tmp 7) (.tmp 46) #[.int .i64 0,.int .i64 0,.int .i64 0,.int .i64 0,.int .i64 0,.int .i64 0,.slice A5 n5 c5,.int .i64 0,.int .i64 0,.int .i64 0,.slice B5 m5 d5] ?_;intro w8 b8 k8;replace H:=zN k8 H b8;obtain ⟨U,W⟩:=uz2 k8 U W;clear b8)
   | (refine lG H.o.2 ?_))
  refine qM (NQ.o _ U.o.1.1.1 U.o.1.1.2.all U.o.2.all W.o.1.all W.o.2.all) fun w9 d=>?_;replace H:=zF d H;clear d U W NQ;go_wp2_with fail;refine qM (KN.o _) fun wk d=>?_;replace H:=zF d H;clear d;go_wp2;go_ret;exact ⟨rfl,H.o.1.1.1.out⟩
 | true =>
 obtain ⟨ac,ay⟩:=Ez FV.o;obtain ⟨XK,SA⟩:=zh2 (And.intro ac ay) (fun i (hi:i < bZ u)=>Dp OK.o HF.o ac ay hi);obtain ⟨e1,e2,e3,e4⟩:=DJ OK.o ac ay;have EN:=zH (And.intro e1 (And.intro e2 (And.intro e3 e4)));have MB:=mK OK.o;obtain ⟨M,hM⟩:∃ M,bZ u=M:=⟨_,rfl⟩;have MM:=zH hM;simp only [hM] at SA EN MB;obtain ⟨bn,SB⟩:=zh2 (zZ OK.o) (jM OK.o);simp only [hM] at bn SB;have ML:=zH (show eZ u.models=M from (yR u).symm.trans hM);rw [ML.o] at SR;clear ac ay e1 e2 e3 e4 hM FV;obtain ⟨LD,an⟩:=zh2 (show m=t.data.length from HD.o.all.n_eq.symm) (show V=u.models.length from U.o.1.1.2.all.n_eq.symm);rintro e w7 ⟨A5,n5,c5,B5,m5,d5,rfl,s1,s2,d⟩;have z7:=d.size;obtain ⟨H,U⟩:=uz2 d H U;have W:=zH (And.intro (Old.now s1.old) (Old.now s2.old));clear d s1 s2;have H2:=zH (And.intro H.o U.o);clear H U
 go_wp2_with (refine sF 37 (.tmp 7) (.tmp 46) #[.int .i64 0,.int .i64 0,.int .i64 0,.int .i64 t.h,.int .i64 t.v,.int .i64 t.c,.slice A5 n5 c5,.int .i64 t.h,.int .i64 t.v,.int .i64 t.c,.slice B5 m5 d5] ?_;intro w8 b8 k8;have k9:=k8.size;obtain ⟨H2,W⟩:=uz2 k8 H2 W)
 clear k8;obtain ⟨P,hP⟩:∃ P,w7.heap.size=P:=⟨_,rfl⟩;rw [hP] at b8 ⊢;have lP:P < w8.heap.size:=b8.out.lt;have l0:w.heap.size < P:=oM;have l1:w1.heap.size < P:=oM;have l5:w5.heap.size≤P:=oM;have cR:g < P:=oM;have s5:Sl (ab .i8) w8 (fun b=>b < w8.heap.size∧b ≠ P) A5 n5 c5 t.data:=W.o.1.out.more (fun b d=>⟨by have:b < w7.heap.size:=d;omega,by have:b < w7.heap.size:=d;omega⟩);have s6:Sl (ab .i8) w8 (fun b=>b < w8.heap.size∧b ≠ P) B5 m5 d5 t.data:=W.o.2.out.more (fun b d=>⟨by have:b < w7.heap.size:=d;omega,by have:b < w7.heap.size:=d;omega⟩);have S5:=zH (And.intro s5 s6);clear hP W s5 s6;go_loopw [9,10] (fun vi vs wr=>∃ (i:Nat) (X:QA) (J N:Nat) (Y:QA) (K O:Nat),i≤M∧vi=.int .i64 i∧vs=.int .i64 (cI u i)∧Hid (Blk wr P 37 (pK ((ap u i).1:Nat) ((ap u i).2:Nat) (cI u i) t X J N (ef u t i) Y K O))∧w8.grownBy wr (some P)∧Hid (Sl (ab .i8) wr (fun b=>b < wr.heap.size∧b ≠ P) X J N t.data∧Sl (ab .i8) wr (fun b=>b < wr.heap.size∧b ≠ P) Y K O (ef u t i).data)) (fun vi _ _=>M+1 - (intOf vi).toNat)
 case atStart=>exact ⟨0,A5,n5,c5,B5,m5,d5,zl _,rfl,rfl,b8,grS _ _,S5⟩
 case round =>
  clear S5 b8;obtain ⟨i,X,J,N,Y,K,O,hi,rfl,rfl,BP,gr,SX⟩:=hrel;have zr:=gr.size;have t1:decide ((i:Int) < 40)=true:=sO;have sx:xA wr X J N t.data:=SX.o.1.more (fun b d=>d.1);have sy:xA wr Y K O (ef u t i).data:=SX.o.2.more (fun b d=>d.1);have cA:J≤300:=by have:=SX.o.1.n_eq;have:=LD.o;omega
  by_cases cp:i < M
  ·obtain ⟨k,j,ms,b,out,hp,p⟩:=SA.o i cp;rw [hp] at BP;have cB:K≤1024:=by have:=SX.o.2.n_eq;have:=p.len;omega
   obtain ⟨R,NE,NI,CO⟩:=zh4 (fun w d T hi hc G E=>Ad u Z V c1 B nb cb C nc cc k j (cI u i) t (ef u t i) X J N Y K O g ms b out (gG u k j) w d I.o p.tin T hi hc G E p.hm p.hb p.h8 p.k8 p.right p.cost (by have:=p.sum;omega) p.val p.few cB cA XK.o.1 p.oin p.look (by rw [ai];have:=OK.o.cl;omega)) (fun w d T hi G E=>tQ u Z V c1 B nb cb C nc cc k j (cI u i) t (ef u t i) X J N Y K O g w d I.o p.tin T hi G E) (fun w d T hi G E=>NR.o k j (cI u i) (ef u t i) X J N Y K O w d I.o p.tin T hi G E) (fun w d T hi G E hc=>m7 u Z V c1 B nb cb C nc cc k j (cI u i) t (ef u t i) X J N Y K O g w d I.o p.tin T hi G E hc);rw [p.notEnd] at NE;rw [p.right] at NI;rw [p.cost] at CO;rw [p.next,← p.sum.2.2.2.2] at R;unfold DC at R;have lk:k < V:=by have:=an.o;have:=(List.getElem?_eq_some_iff.1 p.hm).1;omega
   have lj:j < ms.length:=(List.getElem?_eq_some_iff.1 p.hb).1;obtain ⟨MK,SM⟩:=zh2 (And.intro p.hm p.hb) (show cI u i+gG u k j=cI u (i+1)∧0≤cI u i∧cI u i≤6000000000∧1≤gG u k j∧gG u k j≤300000000 from by have:=p.sum;omega);clear p hp;obtain ⟨bg,ba⟩:∃ v,(if b.exit=true then (fM out b.head u.cl).1 else pc)=v:=⟨_,rfl⟩;obtain ⟨ex,bd⟩:∃ v,b.exit=v:=⟨_,rfl⟩;simp only [ba] at R;simp only [bd] at R;have EX:=zH bd;obtain ⟨x,bO⟩:∃ x,ef u t i=x:=⟨_,rfl⟩;obtain ⟨s,hs⟩:∃ s,cI u i=s:=⟨_,rfl⟩;obtain ⟨cs,bD⟩:∃ q,gG u k j=q:=⟨_,rfl⟩;obtain ⟨s2,bp⟩:∃ q,cI u (i+1)=q:=⟨_,rfl⟩;obtain ⟨x2,bb⟩:∃ q,ef u t (i+1)=q:=⟨_,rfl⟩;obtain ⟨⟨k2,j2⟩,bw⟩:∃ q,ap u (i+1)=q:=⟨_,rfl⟩;simp only [hs,bO,bD,bp,bb,bw] at BP R NE NI CO SM sy ⊢;have NX:=zH (And.intro bw (And.intro bp bb));have Q:=zJ (zJ (zJ (zA gr H2) (Far.refl wr)) BP.o) (And.intro (Old.now sx) (Old.now sy));clear ba bd hs bO bD bp bb bw sx sy BP SX
   go_wp2_with (refine bU kM 37 (.tmp 7) rfl P 0 rfl [.int .i64 k,.int .i64 j,.int .i64 s,.int .i64 t.h,.int .i64 t.v,.int .i64 t.c,.slice X J N,.int .i64 x.h,.int .i64 x.v,.int .i64 x.c,.slice Y K O] _ (aq Q.o.1.2 rfl) underlying37 rfl kM ?_)
   refine qM (NE.o _ Q.o.1.1.1.2.1.1.1 Q.o.1.1.1.2.1.1.2.all Q.o.1.1.1.2.2.all Q.o.2.1.all Q.o.2.2.all) fun wa d=>?_;have za:=d.size;replace Q:=zF d Q;clear d NE;have cP:=fun i=>Q.o.1.2.cell i
   go_wp2_with (refine lB 37 (.tmp 7) P Q.o.1.2 underlying37 ?_)
   refine qM (NI.o _ Q.o.1.1.1.2.1.1.1 Q.o.1.1.1.2.1.1.2.all Q.o.1.1.1.2.2.all Q.o.2.1.all Q.o.2.2.all) fun wb d=>?_;have zb:=d.size;replace Q:=zF d Q;clear d NI cP;have cP:=fun i=>Q.o.1.2.cell i;have e1:(s != s)=false:=by simp
   go_wp2_with (refine lB 37 (.tmp 7) P Q.o.1.2 underlying37 ?_)
   refine qM (CO.o _ Q.o.1.1.1.2.1.1.1 Q.o.1.1.1.2.1.1.2.all Q.o.1.1.1.2.2.all Q.o.2.1.all Q.o.2.2.all Q.o.1.1.1.2.1.2.all) fun wc d=>?_;have zc:=d.size;replace Q:=zF d Q;clear d CO cP e1;have g1:IntKind.i64.wrap (s+cs)=s2:=(wI _ (by have:=SM.o;omega)).trans SM.o.1
   go_wp2_with (refine lB 37 (.tmp 7) P Q.o.1.2 underlying37 ?_)
   refine (R.o _ Q.o.1.1.1.2.1.1.1 Q.o.1.1.1.2.1.1.2.all Q.o.1.1.1.2.2.all Q.o.1.1.1.2.1.2.all Q.o.2.1.all Q.o.2.2.all).mono ?_;rintro e wd ⟨X2,n2,d2,Y2,m2,e2,L,ll,lc,rfl,sx,sy,sl,d⟩;have zd:=d.size;replace Q:=zF d Q;have N2:=zH (And.intro (Btw.mk sx (lR _)) (Btw.mk sy (lR _)));clear d R g1 sx sy sl;obtain ⟨w9,ct,B9,k9⟩:=nB wd pZ 37;have z9:wd.heap.size < w9.heap.size:=zL ct;obtain ⟨Q,N2⟩:=uz2 k9 Q N2;clear k9;obtain ⟨cC,bo,bs,bR⟩:=nB w9 #[.int .i64 0,.int .i64 0,.slice none 0 0,.bool false] 44;have dh:w9.heap.size < cC.heap.size:=zL bo;obtain ⟨Q,N2,B9⟩:=uz3 bR Q N2 B9;clear bR
   go_upto_region 15 with (first
    | (refine sG #[.int .i64 k2,.int .i64 j2,.int .i64 s2,.int .i64 t.h,.int .i64 t.v,.int .i64 t.c,.slice X2 n2 d2,.int .i64 x2.h,.int .i64 x2.v,.int .i64 x2.c,.slice Y2 m2 e2] B9.o ?_;intro wy bA gy;have zy:=gy.size;replace Q:=zA gy Q;replace N2:=zA gy N2;replace bs:=zA gy bs;replace B9:=zH bA;clear bA)
    | (refine sG #[.int .i64 bg.cls,.int .i64 bg.marg,.slice L ll lc,.bool bg.en] bs.o ?_;intro wz bz gz;have zz:=gz.size;replace Q:=zA gz Q;replace N2:=zA gz N2;replace B9:=zA gz B9;clear bz))
   clear ct bo;obtain ⟨mk,mj⟩:=MK.o;obtain ⟨cz,gm,om,A',n',c',bc,rfl,cm,bB,ax⟩:=(HU.o.fut Q.o.1.1.1.1.1.1.out).all.model_at k (by have:=an.o;have:=HU.o.all.n_eq;omega);obtain rfl:cz=ms:=by rw [mk] at bc;exact (sI bc).symm
   obtain ⟨b',gb,ob,L',bT,cN,W',ds,cK,V',cY,cH,bh,rfl,cd,bN,cf⟩:=ax.blk_at j (by rw [← ax.n_eq];exact lj);obtain rfl:b'=b:=by rw [mj] at bh;exact (sI bh).symm
   have br:=bN 1 (.bool b'.exit) rfl;rw [EX.o] at br;have HC:=zH (And.intro bB br);have bT:=ax.n_eq;have cD:j < n':=oM;clear bc bh bN cf bB br cd cm ax mk mj bT;have ca:∀ z:Ext wz,z.1.cell? ⟨w.heap.size,4,none⟩=some (.slice (some ⟨gm,om,none⟩) n F):=fun z=>(Q.o.1.1.1.1.1.2.ext z).cell 4;have ci:∀ z:Ext wz,z.1.cell? ⟨P,0,none⟩=some (.int .i64 k):=fun z=>(Q.o.1.2.ext z).cell 0;have cn:∀ z:Ext wz,z.1.cell? ⟨P,1,none⟩=some (.int .i64 j):=fun z=>(Q.o.1.2.ext z).cell 1;have ch:∀ z:Ext wz,z.1.cell? ⟨gm,om+k,none⟩=some (.slice (some ⟨gb,ob,none⟩) n' c'):=fun z=>au z.2 HC.o.1;have cr:∀ z:Ext wz,z.1.cell? ⟨gb,ob+j*5+1,none⟩=some (.bool ex):=fun z=>au z.2 HC.o.2;have e1:(ex != ex)=false:=by simp
   have cq:(k:Int) < (n:Int):=by have:=an.o;have:=HU.o.all.n_eq;omega
   have cj:(j:Int) < (n':Int):=oM;refine am wz kM kM (qB _ _) ?_;repeat (go_big_quiet_step (fail))
   refine wpQuiet_nil ?_;rintro we ⟨⟨_,d⟩,rfl⟩;have ze:=d.size;obtain ⟨Q,N2,B9⟩:=uz3 d Q N2 B9;clear d ca ci cn ch cr e1 HC cq cj
   go_wp2_with (first
    | (refine lG B9.o ?_)
    | (refine sB 37 (.tmp 7) (.tmp 106) P #[.int .i64 k2,.int .i64 j2,.int .i64 s2,.int .i64 t.h,.int .i64 t.v,.int .i64 t.c,.slice X2 n2 d2,.int .i64 x2.h,.int .i64 x2.v,.int .i64 x2.c,.slice Y2 m2 e2] Q.o.1.2 ?_;intro wf bf gf;have zf:=gf.size;have N3:=zA gf N2;have FX:=zH (grT gr (grT (grO Q.o.1.1.2.out) gf));have BF:=zH bf;clear bf))
   exact ⟨⟨i+1,X2,n2,d2,Y2,m2,e2,by omega,by go_num,by rw [← NX.o.2.1],by rw [NX.o.1,NX.o.2.1,NX.o.2.2];exact BF,FX.o,by rw [NX.o.2.2];exact zH ⟨N3.o.1.out.more (fun y E=>⟨Nat.lt_of_lt_of_le E.2 N3.o.1.le,by have:=E.1;omega⟩),N3.o.2.out.more (fun y E=>⟨Nat.lt_of_lt_of_le E.2 N3.o.2.le,by have:=E.1;omega⟩)⟩⟩,by simp [intOf];omega⟩
  ·obtain rfl:M=i:=oM;obtain ⟨p1,v1,en,ri⟩:=EN.o;obtain ⟨lm,al⟩:∃ l,u.models.length=l:=⟨_,rfl⟩;obtain ⟨s,hs⟩:∃ s,cI u M=s:=⟨_,rfl⟩;obtain ⟨tb,be⟩:∃ l,aO u=l:=⟨_,rfl⟩;simp only [p1,v1,al,hs] at BP sy en ri;obtain ⟨NE,NI⟩:=zh2 (fun w d T hi G E=>tQ u Z V c1 B nb cb C nc cc lm 0 s t t X J N Y K O g w d I.o I.o T hi G E) (fun w d T hi G E=>NR.o lm 0 s t X J N Y K O w d I.o I.o T hi G E);rw [show iQ u lm 0 s t t=true from en] at NE;rw [show rightW u lm 0 s t t=false from ri] at NI;obtain ⟨PB,AL,TL,co⟩:=zh4 (Dc OK.o HF.o) (show s=(tb.map List.sum).sum by rw [← hs,← be];exact bn.o) (show tb.length=lm by rw [← be,mS,al]) (show lm≤3 by rw [← al];exact OK.o.three);simp only [be] at CT PB;have bx:=zH (show Blk wr P 37 #[.int .i64 lm,.int .i64 0,.int .i64 s,.int .i64 t.h,.int .i64 t.v,.int .i64 t.c,.slice X J N,.int .i64 t.h,.int .i64 t.v,.int .i64 t.c,.slice Y K O] from BP.o);have Q:=zJ (zJ (zJ (zA gr H2) (Far.refl wr)) bx.o) (And.intro (Old.now sx) (Old.now sy));clear p1 v1 en ri al hs be sx sy BP bx SX SA NR EN bn
   go_wp2_with (refine bU kM 37 (.tmp 7) rfl P 0 rfl [.int .i64 lm,.int .i64 0,.int .i64 s,.int .i64 t.h,.int .i64 t.v,.int .i64 t.c,.slice X J N,.int .i64 t.h,.int .i64 t.v,.int .i64 t.c,.slice Y K O] _ (aq Q.o.1.2 rfl) underlying37 rfl kM ?_)
   refine qM (NE.o _ Q.o.1.1.1.2.1.1.1 Q.o.1.1.1.2.1.1.2.all Q.o.1.1.1.2.2.all Q.o.2.1.all Q.o.2.2.all) fun wa d=>?_;replace Q:=zF d Q;clear d
   go_wp2_with (refine lG Q.o.1.1.1.1.1.2 ?_)
   refine (CT.o _ (HU.o.fut Q.o.1.1.1.1.1.1.out).all HF.o OK.o).mono ?_;rintro e wb ⟨A6,n6,c6,rfl,q6,d⟩;replace Q:=zF d Q;obtain ⟨T6,N6⟩:=zh2 (Old.now q6.old) (show n6=lm from q6.n_eq.symm.trans TL.o);have cX:n6≤3:=by have:=N6.o;have:=co.o;omega
   clear d q6 CT;go_wp2;go_loopw [15,18] (fun va vi wr=>∃ k:Nat,k≤n6∧vi=.int .i64 k∧va=.int .i64 ((tb.take k).map List.sum).sum∧wb=wr) (fun _ vi _=>n6 - (intOf vi).toNat)
   case atStart=>exact ⟨0,zl _,rfl,rfl,rfl⟩
   case round =>
    obtain ⟨k,hk,rfl,rfl,rfl⟩:=hrel;by_cases cw:k < n6
    ·have p1:(k:Int) < (n6:Int):=oM;obtain ⟨r,g6,o6,v6,G,hA,-,-,hr,cL⟩:=T6.o.all.cell1 rfl k cw;obtain ⟨A8,c8,e,r6⟩:=aZ.1 hr;simp only [List.cons.injEq,and_true] at e;subst e hA;have R6:=zH r6;have rl:r.length≤9223372036854775807:=lT r6.cap_le r6.max_le;obtain ⟨PR,TK⟩:=zh2 (fun j=>PB.o k r (mG G) j) (show ((tb.take (k+1)).map List.sum).sum=((tb.take k).map List.sum).sum+r.sum by rw [List.take_add_one,G];simp);obtain ⟨S,hS⟩:∃ S,((tb.take k).map List.sum).sum=S:=⟨_,rfl⟩;simp only [hS] at PR TK ⊢;clear G hr r6 hS;go_wp2;go_loopw [15,19] (fun va vj wr=>∃ q:Nat,q≤r.length∧vj=.int .i64 q∧va=.int .i64 (S+(r.take q).sum)∧wb=wr) (fun _ vj _=>r.length - (intOf vj).toNat)
     case atStart=>exact ⟨0,zl _,rfl,by simp,rfl⟩
     case round =>
      obtain ⟨q,hq,rfl,rfl,rfl⟩:=hrel;by_cases bH:q < r.length
      ·have p2:(q:Int) < (r.length:Int):=oM;obtain ⟨b8,o8,rfl,-,-,h8,-⟩:=R6.o.int_at q bH;have tq:=Ex r bH;have h1:=PR.o q;have h2:=PR.o (q+1);obtain ⟨y,E⟩:∃ y,r.getD q 0=y:=⟨_,rfl⟩;obtain ⟨z,hz⟩:∃ y,(r.take q).sum=y:=⟨_,rfl⟩;obtain ⟨z2,bt⟩:∃ y,(r.take (q+1)).sum=y:=⟨_,rfl⟩;rw [E] at h8;rw [E,hz,bt] at tq;rw [hz] at h1 ⊢;rw [bt] at h2;have e1:IntKind.i64.wrap (S+z+y)=S+z2:=by rw [wJ];omega
       have HZ:=zH bt;clear tq E hz bt h1 h2;go_wp2;exact ⟨⟨q+1,by omega,by go_num,by rw [HZ.o],by trivial⟩,by simp [intOf];omega⟩
      ·obtain rfl:q=r.length:=oM;have p2:¬ (r.length:Int) < (r.length:Int):=oM;have e2:=TK.o;rw [List.take_length];go_wp2;exact ⟨⟨k+1,by omega,by go_num,by rw [e2],by trivial⟩,by simp [intOf];omega⟩
    ·obtain rfl:n6=k:=oM;have p1:¬ (n6:Int) < (n6:Int):=oM;have eS:((tb.take n6).map List.sum).sum=s:=by rw [AL.o,List.take_of_length_le (by have:=TL.o;have:=N6.o;omega)]
     rw [eS];have e1:((M:Int) == (M:Int))=true:=by simp
     have e2:(s == s)=true:=by simp
     clear eS T6 PB AL TL
     go_wp2_with (refine lB 37 (.tmp 7) P Q.o.1.2 underlying37 ?_)
     refine qM (NE.o _ Q.o.1.1.1.2.1.1.1 Q.o.1.1.1.2.1.1.2.all Q.o.1.1.1.2.2.all Q.o.2.1.all Q.o.2.2.all) fun wc d=>?_;replace Q:=zF d Q;clear d NE
     go_wp2_with (refine bU kM 26 (.tmp 2) rfl w.heap.size 0 rfl [.int .i64 u.h,.int .i64 u.v,.int .i64 u.c,.int .i64 u.cl,.slice A n F] _ (aq Q.o.1.1.1.1.1.2 rfl) underlying26 rfl kM ?_)
     refine qM (SR.o _ (HU.o.fut Q.o.1.1.1.1.1.1.out).all HF.o) fun wd d=>?_;replace Q:=zF d Q;clear d SR;have cP:=fun i=>Q.o.1.2.cell i
     go_wp2_with (refine bU kM 37 (.tmp 7) rfl P 0 rfl [.int .i64 lm,.int .i64 0,.int .i64 s,.int .i64 t.h,.int .i64 t.v,.int .i64 t.c,.slice X J N,.int .i64 t.h,.int .i64 t.v,.int .i64 t.c,.slice Y K O] _ (aq Q.o.1.2 rfl) underlying37 rfl kM ?_)
     refine qM (NI.o _ Q.o.1.1.1.2.1.1.1 Q.o.1.1.1.2.1.1.2.all Q.o.1.1.1.2.2.all Q.o.2.1.all Q.o.2.2.all) fun we d=>?_;replace Q:=zF d Q;clear d NI cP e1 e2;go_wp2_with fail;refine qM (KN.o _) fun wk d=>?_;replace Q:=zF d Q;clear d;go_wp2;go_ret;exact ⟨rfl,Q.o.1.1.1.1.1.1.out⟩
theorem Eu (cs:Array Value) (u:Bun) {W:World} (f:Ed.rep W (blo W.heap.size) cs.toList u) (a:Array Value) (t:ae) (l:Ds.rep W (blo W.heap.size) a.toList t) (w:World) (e:W=w) :
  Calls prog 3 #[.agg cs,.agg a] w fun e w'=>e=.returned (.bool true)∧Below w w w':=by
 subst e;obtain ⟨A,n,o,i,hi,d⟩:=Ay f;obtain ⟨D,m,c,s,h,r⟩:=vK l;obtain ⟨cs⟩:=cs;obtain ⟨a⟩:=a;simp only at i s;subst i s;exact Ew u A n o t D m c _ d hi h r
end Go.Proofs.YtbecbfpoahhpnaaGreat
