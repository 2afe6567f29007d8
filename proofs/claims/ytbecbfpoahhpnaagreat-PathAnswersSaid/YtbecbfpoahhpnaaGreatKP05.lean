/-
  The walk of the law PathAnswers (layer 38).
  THE STATEMENT PathAnswers: for every input the law returns true, and each argument reads behind the call as it did before.
  Conditions: none but the given row's own.
-/
import Derived.Test.YtbecbfpoahhpnaaGreatKP02
import Derived.Test.YtbecbfpoahhpnaaGreatKP04
import Derived.Test.YtbecbfpoahhpnaaGreatRows
set_option linter.unusedVariables false
set_option linter.unusedSimpArgs false
set_option maxRecDepth 100000
set_option maxHeartbeats 16000000
namespace Go.Proofs.YtbecbfpoahhpnaaGreat
open Go.RowKit Go.ChangeShapes Go.WideShapes Go.Proofs.Tryz
theorem E9 (u:Bun) (A:QA) (n p:Nat) (t:ae) (D:QA) (m c:Nat) (late:Int) (w:World) (hu:Sl bJ w (blo w) A n p u.models) (hi:inU u) (ht:aw t) (N:xA w D m c t.data) (hl:InK .u8 late) :
  Calls prog 4 #[.agg #[.int .i64 u.h,.int .i64 u.v,.int .i64 u.c,.int .i64 u.cl,.slice A n p],.agg (tN t.h t.v t.c D m c),.int .u8 late] w fun e w'=>e=.returned (.bool true)∧Below w w w':=by
 obtain ⟨KN,FW,RV,NO,CT⟩:=zh5 (fun w=>Fh w) (fun w h=>yz u A n p w h) (fun w h U=>Ev u A n p w h hi U) (fun w h U F=>yW u A n p w h hi U F) (fun w h U ok=>qk u A n p w h U ok);have m9:m≤9223372036854775807:=lT N.cap_le N.max_le;obtain ⟨HU,HD,ax,M⟩:=zh4 (Old.now hu) (Old.now N) ht (fun F=>wA (u:=u) F);obtain ⟨x1,hx⟩:∃ x,(cP u).1=x:=⟨_,rfl⟩;simp only [hx] at RV NO M;unfold DA at FW;unfold sU at CT;have bp:0≤late∧late≤255:=by have:=hl;simp [InK,IntKind.min,IntKind.max,IntKind.signed,IntKind.bits] at this;omega
 obtain ⟨L,hL⟩:∃ L,late.tmod 20=L:=⟨_,rfl⟩;have L0:0≤L∧L < 20:=by rw [← hL,Int.tmod_eq_emod_of_nonneg bp.1];omega
 clear hx hu hi ht N hl;have H:=zW w;obtain ⟨w1,bd,B1,k1⟩:=nB w #[.int .i64 u.h,.int .i64 u.v,.int .i64 u.c,.int .i64 u.cl,.slice A n p] 26;replace H:=zN k1 H B1;clear B1 k1;obtain ⟨w2,bl,B2,k2⟩:=nB w1 (tN t.h t.v t.c D m c) 29;replace H:=zN k2 H B2;have bO:w.heap.size < w1.heap.size:=zL bd;have bR:w1.heap.size < w2.heap.size:=zL bl;clear B2 k2;go_in
 go_wp2_with (refine lG H.o.1.2 ?_)
 refine (FW.o _ (HU.o.fut H.o.1.1.out).all).mono ?_;rintro e w3 ⟨f,rfl,U,s⟩;replace H:=zF s H;have FU:=zH U;clear s U FW bd bl;have cT:=fun i=>H.o.2.cell i;cases f with
 | false =>
  clear FU;go_wp2_with fail;refine qM (KN.o _) fun wk s=>?_;replace H:=zF s H;clear s;go_wp2;go_ret;exact ⟨rfl,H.o.1.1.out⟩
 | true =>
 by_cases m3:300 < m
 ·have t3:decide (300 < (m:Int))=true:=sO;go_wp2_with fail;refine qM (KN.o _) fun wk s=>?_;replace H:=zF s H;clear s;go_wp2;go_ret;exact ⟨rfl,H.o.1.1.out⟩
 have t3:decide (300 < (m:Int))=false:=sO;have HF:=zH (FU.o rfl);clear FU
 go_wp2_with (refine bU kM 26 (.tmp 3) rfl w.heap.size 0 rfl [.int .i64 u.h,.int .i64 u.v,.int .i64 u.c,.int .i64 u.cl,.slice A n p] _ (aq H.o.1.2 rfl) underlying26 rfl kM ?_)
 refine qM (RV.o _ (HU.o.fut H.o.1.1.out).all HF.o) fun w4 s=>?_;replace H:=zF s H;clear s RV cT;by_cases F:x1=0;rotate_left
 ·have t4:(x1 == 0)=false:=by simpa using F
  clear F M NO;go_wp2_with fail;refine qM (KN.o _) fun wk s=>?_;replace H:=zF s H;clear s;go_wp2;go_ret;exact ⟨rfl,H.o.1.1.out⟩
 subst F;have Y:=zH (M.o (by trivial));clear M t3
 go_wp2_with (refine lG H.o.1.2 ?_)
 refine (NO.o _ (HU.o.fut H.o.1.1.out).all HF.o (by trivial)).mono ?_;rintro e R ⟨g,rfl,hg,bs,s⟩;replace H:=zF s H;obtain ⟨W,n1,c1,B,nb,cb,C,nc,cc,T,h1,h2,h3⟩:∃ W n1 c1 B nb cb C nc cc,Blk R g 99 (nK u W n1 c1 B nb cb C nc cc)∧Sl bJ R (blo R) W n1 c1 u.models∧Sl fi R (blo R) B nb cb (aO u)∧Sl kt R (blo R) C nc cc (fT u):=by
  obtain ⟨W,n1,c1,B,cb,C,cc,q1,q2,q3,q4⟩:=bs.out;exact ⟨W,n1,c1,B,_,cb,C,_,cc,q1,q2.old,q3.old,q4.old⟩
 have al:=(HD.o.fut H.o.1.1.out).all;obtain ⟨X,K⟩:=zh2 (And.intro T (And.intro h1 (And.intro h2 h3))) al;clear s NO bs T h1 h2 h3 hg al;obtain ⟨fv,I⟩:∃ x,fy t (u.h,u.v,u.c)=x:=⟨_,rfl⟩;cases fv with
 | false =>
  have AB:=zH (FC u W n1 c1 B nb cb C nc cc t D m c g R X.o.1 ax.o K.o oM I);unfold E6 at AB;clear I X K CT
  go_wp2_with (refine lG H.o.2 ?_)
  refine AB.o.mono ?_;rintro e w6 ⟨A6,P,c6,rfl,V,s⟩;obtain rfl:0=P:=V.n_eq;replace H:=zF s H;clear s V AB;go_wp2_with fail;refine qM (KN.o _) fun wk s=>?_;replace H:=zF s H;clear s;go_wp2;go_ret;exact ⟨rfl,H.o.1.1.out⟩
 | true =>
 obtain ⟨bh,br⟩:=Ez I;have AG:=zH (Fs u W n1 c1 B nb cb C nc cc t D m c g R Y.o HF.o X.o.1 X.o.2.1 X.o.2.2.1 X.o.2.2.2 ax.o K.o oM bh br I);unfold E6 at AG;have MS:=zH (Fw Y.o t);obtain ⟨i,k,j,y1,y2,y3,d,f1,f2,f3,bz,bA,bo,bD,bH,bM,bN,N⟩:=Fg MS.o (a:=L) L0.1;obtain ⟨q,hq,ba⟩:=Fb (mG N);have XD:=zH (show d.steps=((q+1:Nat):Int)∧d.spent=cI u (q+1) by rw [ba];exact ⟨rfl,rfl⟩);obtain ⟨XL,bt⟩:∃ l,exU u t (bZ u)=l:=⟨_,rfl⟩;rw [bt] at AG f1 f2 f3 bo N MS;obtain ⟨FI,FX⟩:=zh2 (fun late A n p w h=>Fd A n p XL late w h) (And.intro f1 (And.intro f2 f3));have bc:=mK Y.o;obtain ⟨HQ,HX,Z,ac,ay,TL,bw⟩:=zh7 (show q < bZ u from hq) N (fun i h=>jM Y.o i h) (fun a b r h1 h2=>Fn (u:=u) Y.o (a:=a) (b:=b) (r:=r) h1 h2) (fun a r h=>FY (u:=u) (a:=a) (r:=r) h) (mS u) Y.o.three;clear I bh br f1 f2 f3 hq ba bt N X K
 go_wp2_with (refine lG H.o.2 ?_)
 refine AG.o.mono ?_;rintro e w6 ⟨A6,P,c6,rfl,V,s⟩;have ad:=V.n_eq;replace H:=zF s H;obtain ⟨G,N6⟩:=zh2 (Old.now V) ad;have bT:P≤9223372036854775807:=lT V.cap_le V.max_le;rw [ad] at bo FX;clear s V AG ad;go_wp2_with fail;have q1:=FI.o L A6 P c6 _ G.o.all;rw [FX.o.1] at q1;refine q1.mono ?_;rintro e w7 ⟨rfl,s⟩;obtain ⟨H,G⟩:=uz2 s H G;clear s q1;have gL:IntKind.i64.wrap (L+1)=L+1:=wJ;go_wp2_with fail;have q2:=FI.o (L+1) A6 P c6 _ G.o.all;rw [FX.o.2.1] at q2;refine q2.mono ?_;rintro e w8 ⟨rfl,s⟩;obtain ⟨H,G⟩:=uz2 s H G;clear s q2 gL;go_wp2_with fail;have q3:=FI.o (-1) A6 P c6 _ G.o.all;rw [FX.o.2.2] at q3;refine q3.mono ?_;rintro e w9 ⟨rfl,s⟩;obtain ⟨H,G⟩:=uz2 s H G;clear s q3 FI FX hL L0;have e1:decide ((i:Int) < 0)=false:=by simp
 have e2:decide ((k:Int) < (i:Int))=false:=sO;have e3:decide ((j:Int) < (k:Int))=false:=sO;have e4:decide ((P:Int)≤(j:Int))=false:=sO;have e5:decide (y1 < 1)=false:=sO;have e6:decide (y2 < 1)=false:=sO;have e7:decide (y3 < 1)=false:=sO;have e8:decide (2 < y3)=false:=sO
 go_wp2_with (refine lG H.o.1.2 ?_)
 refine (CT.o _ (HU.o.fut H.o.1.1.out).all HF.o Y.o).mono ?_;rintro e wb ⟨A9,Q,c9,rfl,q9,s⟩;obtain ⟨H,G⟩:=uz2 s H G;obtain ⟨T9,N9⟩:=zh2 (Old.now q9.old) (show Q=u.models.length from q9.n_eq.symm.trans TL.o);have bW:Q≤3:=by have:=N9.o;have:=bw.o;omega
 have i6:i < P:=oM;clear s q9 CT e1 e2 e3 e4 e5 e6 e7 e8;obtain ⟨d',Lx,nl,cl,bx,ox,ah,rfl,-,-,-,-,-,-,be,an,-⟩:=G.o.all.exit_at i i6;obtain rfl:d'=d:=by rw [HX.o] at ah;exact (sI ah).symm
 rw [XD.o.1] at be;rw [XD.o.2] at an;have zi:(i:Int) < (P:Int):=oM;clear ah HX XD;obtain ⟨S,hS⟩:∃ S,q+1=S:=⟨_,rfl⟩;have SQ:S≤bZ u:=by have:=HQ.o;omega
 have MN:bZ u≤18:=bc.2;rw [hS] at be an;clear hS;go_wp2;go_loopw [19,20,21] (fun vs vp va wr=>∃ a st:Nat,a≤Q∧va=.int .i64 a∧vs=.int .i64 st∧vp=.int .i64 (cI u st)∧st≤S∧Hid ((st=S∧S≤sumW u a) ∨ st=sumW u a)∧wb=wr) (fun _ _ va _=>Q - (intOf va).toNat)
 case atStart=>exact ⟨0,0,zl _,rfl,rfl,rfl,zl _,zH (.inr rfl),rfl⟩
 case round =>
  obtain ⟨a,st,ha,rfl,rfl,rfl,J,E,rfl⟩:=hrel;by_cases bb:a < Q
  ·have p1:(a:Int) < (Q:Int):=oM;obtain ⟨r,g6,o6,v6,hx,hA,-,-,hr,bg⟩:=T9.o.all.cell1 rfl a bb;obtain ⟨A8,c8,e,r6⟩:=aZ.1 hr;simp only [List.cons.injEq,and_true] at e;subst e hA;have R6:=zH r6;have rl:r.length≤9223372036854775807:=lT r6.cap_le r6.max_le;obtain ⟨SX,RL⟩:=zh2 (fun b h=>ac.o a b r hx h) (show sumW u (a+1)=sumW u a+r.length by rw [ay.o a r hx];rfl);clear hx hr r6;go_wp2;go_loopw [19,20,22] (fun vs vp vb wr=>∃ b st:Nat,b≤r.length∧vb=.int .i64 b∧vs=.int .i64 st∧vp=.int .i64 (cI u st)∧st≤S∧Hid ((st=S∧S≤sumW u a+b) ∨ st=sumW u a+b)∧wb=wr) (fun _ _ vb _=>r.length - (intOf vb).toNat)
   case atStart=>exact ⟨0,st,zl _,rfl,rfl,rfl,J,zH E.o,rfl⟩
   case round =>
    clear E J;obtain ⟨b,st,s,rfl,rfl,rfl,J,E,rfl⟩:=hrel;by_cases bn:b < r.length
    ·have p2:(b:Int) < (r.length:Int):=oM;by_cases bB:st < S
     ·have p3:(st:Int) < (S:Int):=oM;obtain ⟨b8,o8,rfl,-,-,h8,-⟩:=R6.o.int_at b bn;have es:st=sumW u a+b:=by rcases E.o with h|h <;> omega
      have sx:=SX.o b bn;rw [← es] at sx;obtain ⟨y,hy⟩:∃ y,r.getD b 0=y:=⟨_,rfl⟩;rw [hy] at h8 sx;have s1:=Z.o st oM;have s2:=Z.o (st+1) oM;obtain ⟨z,F⟩:∃ y,cI u st=y:=⟨_,rfl⟩;obtain ⟨z2,O⟩:∃ y,cI u (st+1)=y:=⟨_,rfl⟩;rw [F,O] at sx;rw [F] at s1 ⊢;rw [O] at s2;have g1:IntKind.i64.wrap (z+y)=z2:=by rw [wJ];exact sx.symm
      obtain ⟨HZ,ES⟩:=zh2 O es;clear sx hy F O s1 s2 es;go_wp2;exact ⟨⟨b+1,st+1,by omega,by go_num,by go_num,by rw [HZ.o],by omega,zH (by have:=ES.o;exact .inr oM),by trivial⟩,by simp [intOf];omega⟩
     ·have p3:¬ (st:Int) < (S:Int):=oM;go_wp2;exact ⟨⟨a+1,st,by omega,by go_num,rfl,rfl,J,zH (by have:=RL.o;rcases E.o with h|h;exact .inl ⟨h.1,by omega⟩;exact .inl ⟨by omega,by omega⟩),by trivial⟩,by simp [intOf];omega⟩
    ·have p2:¬ (b:Int) < (r.length:Int):=oM;go_wp2;exact ⟨⟨a+1,st,by omega,by go_num,rfl,rfl,J,zH (by have:=RL.o;rcases E.o with h|h;exact .inl ⟨h.1,by omega⟩;exact .inr oM),by trivial⟩,by simp [intOf];omega⟩
  ·obtain rfl:Q=a:=oM;have p1:¬ (Q:Int) < (Q:Int):=oM;obtain rfl:st=S:=by
    rcases E.o with h|h
    ·exact h.1
    ·rw [N9.o] at h;have:bZ u=sumW u u.models.length:=rfl;omega
   obtain ⟨z,F⟩:∃ y,cI u st=y:=⟨_,rfl⟩;rw [F] at an ⊢;have e1:((st:Int) == (st:Int))=true:=by simp
   have e2:(z == z)=true:=by simp
   clear F T9 ac ay Z E;go_wp2_with fail;refine qM (KN.o _) fun wk s=>?_;replace H:=zF s H;clear s;go_wp2;go_ret;exact ⟨rfl,H.o.1.1.out⟩
theorem E5 (cs:Array Value) (u:Bun) {W:World} (y:Ed.rep W (blo W.heap.size) cs.toList u) (a:Array Value) (t:ae) (f:Ds.rep W (blo W.heap.size) a.toList t) (late:Int) (d:InK .u8 late) (w:World) (e:W=w) :
  Calls prog 4 #[.agg cs,.agg a,.int .u8 late] w fun e w'=>e=.returned (.bool true)∧Below w w w':=by
 subst e;obtain ⟨A,n,o,i,hi,l⟩:=Ay y;obtain ⟨D,m,c,s,h,r⟩:=vK f;obtain ⟨cs⟩:=cs;obtain ⟨a⟩:=a;simp only at i s;subst i s;exact E9 u A n o t D m c late _ l hi h r d
open Go.Deep Go.ChangeAt
set_option maxRecDepth 100000 in
theorem EY (os:Os) (a:os.Started) (H:Type) (enc:TypeId × Value → H) :
  ReturnsInHanded {} Tryz.checked os 4 .any (Rows.pathAnswersSpec.pre6 enc prog Tryz.f4 Rows.pathAnswersRow.domain false) (Rows.pathAnswersSpec.post enc prog Tryz.f4 false true false false):=by
 refine Bi (C:=Tryz.checked) (T:=4) kM a kM func4
  (ChangeSpec.witness6 (enc:=enc) (C:=Tryz.checked) false ⟨#[],#[.agg #[.int .i64 0,.int .i64 0,.int .i64 0,.int .i64 0,.slice none 0 0],.agg (tN 0 0 0 none 0 0),.int .u8 0],[]⟩ 8 kM kM kM kM)
  kM kM rfl underlying4 rfl ?_ ?_
 ·intro h o
  match h,o with
  | [m,f,w],_=>exact ⟨rfl,rfl,rfl⟩
 ·intro W base args h p e r;rw [params4] at r e;obtain ⟨d,B,m,y,I,L,s,rfl,rfl,g,x⟩:=trodAll_cons r;obtain ⟨l,D,f,v,J,M,rfl,rfl,rfl,k,z⟩:=trodAll_cons x;obtain ⟨c,E,w,b,K,N,rfl,rfl,rfl,j,A⟩:=trodAll_cons z;obtain ⟨rfl,rfl,rfl⟩:=trodAll_nil A;obtain rfl:args=#[d,l,c]:=by cases args;simp_all
  obtain ⟨i,F,rfl,k0⟩:=wj (t:=Ed) underlying26 yZ (e 0 26 d rfl rfl) g;obtain ⟨n,G,rfl,k1⟩:=wj (t:=Ds) underlying29 tU (e 1 29 l rfl rfl) k;obtain ⟨q,rfl,k2⟩:=CG underlying5 (e 2 5 c rfl rfl) j;exact E5 i F k0 n G k1 q k2 W rfl
theorem band {a b:Bool} (h:a=true) (k:b=true):(a && b)=true:=by rw [h,k];rfl
theorem EU:joinedFacts Tryz.checked.prog 4 Tryz.f4 Rows.pathAnswersSpec Rows.pathAnswersRow=true:=by
 unfold joinedFacts;simp only [Bool.and_eq_true];and_intros;all_goals (as_aux_lemma=>kernel_rfl)
theorem pathAnswers_holds:Rows.PathAnswersSaid :=
 OpenClaim.holds_of_wide 4 Tryz.f4 rfl rfl rfl rfl rfl rfl rfl ⟨rfl,rfl,rfl,rfl,rfl⟩ rfl rfl rfl rfl rfl kM func4 EU
  (of_decide_eq_true kM) (by unfold Func.isWrapper;rw [if_neg (of_decide_eq_false kM)];exact ⟨rfl,rfl⟩)
  (fun os e H enc _=>EY os e H enc)
#print axioms pathAnswers_holds
end Go.Proofs.YtbecbfpoahhpnaaGreat
