/- What is wrong with a bundle (layer 33): valid.whole, valid.model, valid.Bundle. -/
import Derived.Test.YtbecbfpoahhpnaaGreatJ29
import Derived.Test.YtbecbfpoahhpnaaGreatJ31
set_option linter.unusedVariables false
set_option linter.unusedSimpArgs false
set_option maxRecDepth 100000
set_option maxHeartbeats 16000000
namespace Go.Proofs.YtbecbfpoahhpnaaGreat
open Go.RowKit Go.ChangeShapes Go.WideShapes Tryz
def inU (u:Bun):Prop:=InK .i64 u.h∧InK .i64 u.v∧InK .i64 u.c∧InK .i64 u.cl
theorem Ao (u:Bun) (A:QA) (n a:Nat) (w:World) (b:Sl bJ w (blo w) A n a u.models) (hi:inU u) :
  Calls prog 51 #[.agg #[.int .i64 u.h,.int .i64 u.v,.int .i64 u.c,.int .i64 u.cl,.slice A n a]] w fun e w'=>e=.returned (.int .i64 (eG u))∧Below w w w':=by
 have F:=b.n_eq;have s:=zH (fun w=>aV u.h u.c u.v w hi.1 hi.2.1 hi.2.2.1);have Q:n≤9223372036854775807:=lT b.cap_le b.max_le;have J:=(aF u.h u.v u.c).1;have t:=zH (show eG u=if ag u.h u.v u.c=0 then 5 else if u.cl < 2 ∨ 16 < u.cl then 2 else if u.models.length=0 then 12 else if 3 < u.models.length then 4 else 0 from rfl);obtain ⟨r,C⟩:∃ x,eG u=x:=⟨_,rfl⟩;obtain ⟨f,p⟩:∃ x,u.h=x:=⟨_,rfl⟩;obtain ⟨k,g⟩:∃ x,u.v=x:=⟨_,rfl⟩;obtain ⟨l,y⟩:∃ x,u.c=x:=⟨_,rfl⟩;obtain ⟨D,B⟩:∃ x,u.cl=x:=⟨_,rfl⟩;rw [C,F,p,g,y,B] at t;rw [p,g,y] at s J;rw [C,p,g,y,B];obtain ⟨z,I⟩:∃ x,ag f k l=x:=⟨_,rfl⟩;rw [I] at t s J;have H:=zW w;clear p g y B b C I hi F;obtain ⟨S,P,E,k1⟩:=nB w #[.int .i64 f,.int .i64 k,.int .i64 l,.int .i64 D,.slice A n a] 26;replace H:=zN k1 H E;clear E k1;have j:=fun i=>H.o.2.cell i;by_cases m:z=0
 ·have M:decide (0 < z)=false:=sO;rw [if_pos m] at t;clear m;go_in
  go_wp2_with (refine lM 23 (.tmp 4) (aq (off:=0) (vs:=[.int .i64 f,.int .i64 k,.int .i64 l]) H.o.2 rfl) underlying23 ?_)
  refine qM (s.o _) fun O d=>?_;replace H:=zF d H;clear d j;go_wp2;go_ret;exact ⟨by rw [t.o] <;> rfl,H.o.1.out⟩
 have M:decide (0 < z)=true:=sO;rw [if_neg m] at t;clear m;go_in
 go_wp2_with (refine lM 23 (.tmp 4) (aq (off:=0) (vs:=[.int .i64 f,.int .i64 k,.int .i64 l]) H.o.2 rfl) underlying23 ?_)
 refine qM (s.o _) fun O d=>?_;replace H:=zF d H;clear d j s;have j:=fun i=>H.o.2.cell i;by_cases K:D < 2
 ·rw [if_pos (.inl K)] at t;go_wp2;go_ret;exact ⟨by rw [t.o] <;> rfl,H.o.1.out⟩
 by_cases L:16 < D
 ·rw [if_pos (.inr L)] at t;go_wp2;go_ret;exact ⟨by rw [t.o] <;> rfl,H.o.1.out⟩
 rw [if_neg oM] at t;by_cases q:n=0
 ·rw [if_pos q] at t;subst q;go_wp2;go_ret;exact ⟨by rw [t.o] <;> rfl,H.o.1.out⟩
 have R:((n:Int) == 0)=false:=sO;rw [if_neg q] at t;by_cases G:3 < n
 ·have N:decide (3 < (n:Int))=true:=sO;rw [if_pos G] at t;go_wp2;go_ret;exact ⟨by rw [t.o] <;> rfl,H.o.1.out⟩
 have N:decide (3 < (n:Int))=false:=sO;rw [if_neg G] at t;go_wp2;go_ret;exact ⟨by rw [t.o] <;> rfl,H.o.1.out⟩
theorem yV (u:Bun) (A:QA) (n C:Nat) (w:World) (hu:Sl bJ w (blo w) A n C u.models) (hi:inU u) (m:List aN) (k:Nat) (hm:u.models[k]?=some m) (hf:∀ b ∈ m,iu b) :
  Calls prog 52 #[.agg #[.int .i64 u.h,.int .i64 u.v,.int .i64 u.c,.int .i64 u.cl,.slice A n C],.int .i64 k] w fun e w'=>e=.returned (.agg #[.int .i64 (ec m (u.h,u.v,u.c) u.cl k).1,.int .i64 (ec m (u.h,u.v,u.c) u.cl k).2.1,.int .i64 (ec m (u.h,u.v,u.c) u.cl k).2.2.1,.int .i64 (ec m (u.h,u.v,u.c) u.cl k).2.2.2])∧Below w w w':=by
 have kn:k < n:=by have:=(List.getElem?_eq_some_iff.1 hm).1;rw [hu.n_eq] at this;exact this
 have n9:n≤9223372036854775807:=lT hu.cap_le hu.max_le;obtain ⟨m',ga,oa,A',t,c',an,rfl,J,Y,V⟩:=hu.model_at k kn;rw [hm] at an;cases an;have LM:=zH V.n_eq;have m9:t≤9223372036854775807:=lT V.cap_le V.max_le;obtain ⟨HA,HC,FB,M⟩:=zh4 (Old.now V) Y hf hi;obtain ⟨r,hr⟩:∃ x,ec m (u.h,u.v,u.c) u.cl k=x:=⟨_,rfl⟩;have a:=hr.symm;unfold ec at a;replace a:=zH a;unfold inU at M;obtain ⟨O,hh⟩:∃ x,u.h=x:=⟨_,rfl⟩;obtain ⟨Q,hv⟩:∃ x,u.v=x:=⟨_,rfl⟩;obtain ⟨N,hc⟩:∃ x,u.c=x:=⟨_,rfl⟩;obtain ⟨P,hl⟩:∃ x,u.cl=x:=⟨_,rfl⟩;rw [LM.o,hh,hv,hc,hl] at a;rw [hh,hv,hc,hl] at M;rw [hr,hh,hv,hc,hl];clear hr hh hv hc hl hu hi hm Y V hf J;have H:=zW w;obtain ⟨w1,ay,B1,k1⟩:=nB w #[.int .i64 O,.int .i64 Q,.int .i64 N,.int .i64 P,.slice (some ⟨ga,oa,none⟩) n C] 26;replace H:=zN k1 H B1;clear B1 k1;obtain ⟨w2,ax,B2,k2⟩:=nB w1 #[.int .i64 0,.int .i64 0,.int .i64 0,.int .i64 0] 87;replace H:=zN k2 H B2;clear B2 k2;have l1:=zL ay;have l2:=zL ax;have U:=fun i=>H.o.1.2.cell i;have cC:=au H.o.1.1.out HC.o;go_in;by_cases e1:t=0
 ·subst e1;rw [if_pos rfl] at a
  go_wp2_with (refine sG #[.int .i64 12,.int .i64 k,.int .i64 (-1),.int .i64 (-1)] H.o.2 ?_;intro w9 G f;have F:=zA f (zH H.o.1.1);clear f)
  refine ret_cell rfl G rfl underlying87 kM rfl ?_;exact ⟨by rw [a.o] <;> rfl,F.o.out⟩
 have t1:((t:Int) == 0)=false:=sO;rw [if_neg e1] at a;by_cases e2:6 < t
 ·have t2:decide (6 < (t:Int))=true:=sO;rw [if_pos e2] at a
  go_wp2_with (refine sG #[.int .i64 4,.int .i64 k,.int .i64 (-1),.int .i64 (-1)] H.o.2 ?_;intro w9 G f;have F:=zA f (zH H.o.1.1);clear f)
  refine ret_cell rfl G rfl underlying87 kM rfl ?_;exact ⟨by rw [a.o] <;> rfl,F.o.out⟩
 have t2:decide (6 < (t:Int))=false:=sO;rw [if_neg e2] at a
 go_wp2_with (first|(refine lM 23 (.tmp 32) (aq (off:=0) (vs:=[.int .i64 O,.int .i64 Q,.int .i64 N]) H.o.1.2 rfl) underlying23 ?_)|(refine sF 23 (.tmp 6) (.tmp 33) (sN O Q N) ?_;intro w3 b3 k3;have H2:=zN k3 H b3;clear U cC H b3))
 have z3:=k3.size;clear ay ax t1 e1 k3;go_loopw [36] (fun i wr=>∃ (q:Nat) (p j z:Int),q≤t∧i=.int .i64 q∧fc m (O,Q,N) P q=.on (p,j,z)∧(InK .i64 p∧InK .i64 j∧InK .i64 z)∧((((Far w wr∧Blk wr w.heap.size 26 #[.int .i64 O,.int .i64 Q,.int .i64 N,.int .i64 P,.slice (some ⟨ga,oa,none⟩) n C])∧Blk wr w1.heap.size 87 #[.int .i64 0,.int .i64 0,.int .i64 0,.int .i64 0])∧Blk wr w2.heap.size 23 (sN p j z))∧w2.heap.size < wr.heap.size)) (fun i _=>t - (intOf i).toNat)
 case atStart=>exact ⟨0,O,Q,N,zl _,rfl,rfl,⟨M.o.1,M.o.2.1,M.o.2.2.1⟩,H2.o,H2.o.2.lt⟩
 case round =>
  clear H2;obtain ⟨q,p,j,z,hq,rfl,hR,hs,hH,z2⟩:=hrel;obtain ⟨H,RM,IS⟩:=zh3 hH hR hs;clear hR hs hH;by_cases bo:q < t
  ·have p1:(q:Int) < (t:Int):=oM;have gq:IntKind.i64.wrap ((q:Int)+1)=((q+1:Nat):Int):=(wJ).trans sM;have gl:IntKind.i64.wrap ((t:Int) - 1)=(t:Int) - 1:=wJ;obtain ⟨b,g,off,L,E,cl,W,nw,cw,B,nb,cb,D,rfl,J,rg,I⟩:=(HA.o.fut H.o.1.1.1.out).out.blk_at q bo;have d:=zH (rj RM.o D);rw [LM.o] at d;have FX:=zH (FB.o b (mG D));obtain ⟨T,S,BO,NL,AT,RG,SL⟩:=zh7 (fun w h=>xV b L E cl W nw cw B nb cb (p,j,z) P ((q:Int) == (t:Int) - 1) w h IS.o M.o.2.2.2 FX.o) (fun w h=>hZ L E cl b.nodes p j z w h IS.o.1 IS.o.2.1 IS.o.2.2 FX.o.1.2) (lN (b:=b) (s:=(p,j,z)) (cl:=P) (last:=((q:Int) == (t:Int) - 1))) I.nodes.n_eq (I.keep (S':=blo wr) (fun _ _=>rfl) (fun x hx=>Nat.lt_of_lt_of_le hx H.o.1.1.1.size)) rg (fg (l:=b.nodes) (s:=(p,j,z)));unfold cQ at d;unfold bv at S;rw [NL.o] at d SL;clear D I rg J;obtain ⟨⟨ba,be⟩,X⟩:∃ x,dD b (p,j,z) P ((q:Int) == (t:Int) - 1)=x:=⟨_,rfl⟩;obtain ⟨⟨sl,sp,se⟩,K⟩:∃ x,ao b.nodes (p,j,z)=x:=⟨_,rfl⟩;simp only [X] at d T BO;simp only [K] at d S SL;have R:=zH (fun h=>(BO.o h).shapes);rw [K] at R;obtain ⟨need,ah⟩:∃ x,b.head.need=x:=⟨_,rfl⟩;obtain ⟨ex,Z⟩:∃ x,b.exit=x:=⟨_,rfl⟩;simp only [ah,Z] at T RG;obtain ⟨la,bt⟩:∃ x,((q:Int) == (t:Int) - 1)=x:=⟨_,rfl⟩;simp only [bt] at T;clear X K BO ah Z;have y:=zW wr;have U:=fun i=>H.o.1.1.2.cell i
   go_wp2_with (first
    | (refine lM 51 (.tmp 39) RG.o underlying51 ?_)
    | (refine sF 51 (.tmp 8) (.tmp 40) #[.slice L E cl,.bool ex,.slice W nw cw,.slice B nb cb,.int .i32 need] ?_;intro w5 b5 k5;replace y:=zN k5 y b5;replace H:=zF k5 H;have cB:=fun i=>y.o.2.cell i;clear U b5;have U:=fun i=>H.o.1.1.2.cell i)
    | (refine lG y.o.2 ?_)
    | (refine lG H.o.2 ?_))
   clear U cB;refine qM (T.o _ (AT.o.fut y.o.1.out)) fun w6 D=>?_;obtain ⟨H,y⟩:=uz2 D H y;clear D T;by_cases e3:be=0;rotate_left
   ·have t3:(be != 0)=true:=by simpa using e3
    rw [if_pos e3] at d;rw [uk d.o t oM] at a;clear d S
    go_wp2_with (refine sG #[.int .i64 be,.int .i64 k,.int .i64 q,.int .i64 ba] H.o.1.2 ?_;intro w9 G f;have F:=zA f (zH H.o.1.1.1);clear f)
    refine ret_cell rfl G rfl underlying87 kM rfl ?_;exact ⟨by rw [a.o] <;> rfl,F.o.out⟩
   have bn:se=0:=R.o e3;subst e3 bn;rw [if_neg dM] at d;have M3:=SL.o (by trivial);have cB:=fun i=>y.o.2.cell i
   go_wp2_with (refine lG H.o.2 ?_)
   refine (S.o _ (AT.o.fut y.o.1.out).nodes).mono ?_;rintro e w7 ⟨A3,m3,c3,rfl,q3,D⟩;have N3:=zH (New.of q3 (Far.refl _));have K3:=q3.n_eq;replace H:=zF D H;clear D cB q3 S y;obtain ⟨b3,o3,rfl,-,-,ad,al,ac,-,r3⟩:=N3.o.old.shape_at E oM;obtain ⟨⟨x1,x2,x3⟩,hx⟩:∃ x,sl.getD E (0,0,0)=x:=⟨_,rfl⟩;rw [hx] at d r3 ad al ac;have R3:=zH r3;have gm:IntKind.i64.wrap ((m3:Int) - 1)=(E:Int):=by rw [show (m3:Int) - 1=(E:Int) by omega];exact wI _ (by have:=N3.o.old.cap_le;have:=N3.o.old.max_le;unfold maxLen at *;omega)
   have gn:(E:Int) < (m3:Int):=oM;clear r3 hx
   go_wp2_with (first
    | (refine lM 23 (.tmp 73) R3.o underlying23 ?_)
    | (refine sG (sN x1 x2 x3) H.o.2 ?_;intro w8 b8 g8;replace H:=zS g8 b8 H;have z8:=b8.lt;clear b8 g8))
   exact ⟨⟨q+1,x1,x2,x3,by omega,by go_num,d.o,⟨ad,al,ac⟩,H.o,z8⟩,by simp [intOf];omega⟩
  ·obtain rfl:t=q:=oM;have p1:¬ (t:Int) < (t:Int):=oM;rw [RM.o] at a
   go_wp2_with (refine sG #[.int .i64 0,.int .i64 0,.int .i64 0,.int .i64 0] H.o.1.2 ?_;intro w9 G f;have F:=zA f (zH H.o.1.1.1);clear f)
   refine ret_cell rfl G rfl underlying87 kM rfl ?_;exact ⟨by rw [a.o] <;> rfl,F.o.out⟩
theorem vL (u:Bun) (A:QA) (n t:Nat) (w:World) (C:Sl bJ w (blo w) A n t u.models) (hi:inU u) (hf:iw u) :
  Calls prog 29 #[.agg #[.int .i64 u.h,.int .i64 u.v,.int .i64 u.c,.int .i64 u.cl,.slice A n t]] w fun e w'=>e=.returned (.agg #[.int .i64 (cP u).1,.int .i64 (cP u).2.1,.int .i64 (cP u).2.2.1,.int .i64 (cP u).2.2.2])∧Below w w w':=by
 have n9:n≤9223372036854775807:=lT C.cap_le C.max_le;obtain ⟨K,G,MO,HU,d⟩:=zh5 C.n_eq (fun w h=>Ao u A n t w h hi) (fun w h m k y=>yV u A n t w h hi m k y ((hf.2 m (mG y)).2)) (Old.now C) (show cP u=if eG u ≠ 0 then (eG u,-1,-1,-1) else ed u u.models.length from rfl);obtain ⟨r,V⟩:∃ x,cP u=x:=⟨_,rfl⟩;obtain ⟨Z,p⟩:∃ x,eG u=x:=⟨_,rfl⟩;rw [V,p,K.o] at d;rw [p] at G;rw [V];obtain ⟨R,T⟩:∃ x,u.h=x:=⟨_,rfl⟩;obtain ⟨Y,W⟩:∃ x,u.v=x:=⟨_,rfl⟩;obtain ⟨O,S⟩:∃ x,u.c=x:=⟨_,rfl⟩;obtain ⟨X,U⟩:∃ x,u.cl=x:=⟨_,rfl⟩;obtain ⟨RU,M,UB,UZ⟩:=zh4 (fun k m (h1:(ed u k).1=0) (h2:u.models[k]?=some m)=>rl h1 h2) (fun m k=>mZ (l:=m) (s:=(R,Y,O)) (cl:=X) (at':=k)) (fun k=>um (u:=u) (k:=k)) (fun k=>mi (u:=u) (k:=k));simp only [T,W,S,U] at MO G RU;rw [T,W,S,U];clear V p T W S U C hi hf;have H:=zW w;obtain ⟨w1,D,B1,k1⟩:=nB w #[.int .i64 R,.int .i64 Y,.int .i64 O,.int .i64 X,.slice A n t] 26;replace H:=zN k1 H B1;clear B1 k1;obtain ⟨w2,an,B2,k2⟩:=nB w1 #[.int .i64 0,.int .i64 0,.int .i64 0,.int .i64 0] 87;replace H:=zN k2 H B2;clear B2 k2;have l1:=zL D;go_in
 go_wp2_with (refine lG H.o.1.2 ?_)
 refine qM (G.o _ (HU.o.fut H.o.1.1.out).all) fun w3 a=>?_;replace H:=zF a H;clear a G D an;have cA:=fun i=>H.o.1.2.cell i;by_cases P:Z=0;rotate_left
 ·have t1:(Z != 0)=true:=by simpa using P
  rw [if_pos P] at d
  go_wp2_with (refine sG #[.int .i64 Z,.int .i64 (-1),.int .i64 (-1),.int .i64 (-1)] H.o.2 ?_;intro w9 j f;have b:=zA f (zH H.o.1.1);clear f)
  refine ret_cell rfl j rfl underlying87 kM rfl ?_;exact ⟨by rw [d.o] <;> rfl,b.o.out⟩
 subst P;rw [if_neg dM] at d;go_wp2_with fail;have H2:=H;clear H cA;go_loopw [15] (fun i wr=>∃ q:Nat,q≤n∧i=.int .i64 q∧(ed u q).1=0∧Below w3 w3 wr) (fun i _=>n - (intOf i).toNat)
 case atStart=>exact ⟨0,zl _,rfl,rfl,qB _ _⟩
 case round =>
  obtain ⟨q,hq,rfl,hR,a⟩:=hrel;have H:=zF a H2;obtain ⟨RZ,G3⟩:=zh2 hR a;have z3:=a.size;clear hR a;by_cases z:q < n
  ·have p1:(q:Int) < (n:Int):=oM;have gq:IntKind.i64.wrap ((q:Int)+1)=((q+1:Nat):Int):=(wJ).trans sM;have y:u.models[q]?=some (u.models[q]'(by rw [K.o];exact z)):=List.getElem?_eq_getElem _;obtain ⟨m,B⟩:∃ m,u.models[q]'(by rw [K.o];exact z)=m:=⟨_,rfl⟩;rw [B] at y;obtain ⟨HM,N,F,L⟩:=zh4 y (RU.o q m RZ.o y) (UB.o (q+1)) (fun w h=>MO.o w h m q y);have E:=M.o m (q:Int);obtain ⟨⟨I,x2,x3,x4⟩,hx⟩:∃ x,ec m (R,Y,O) X q=x:=⟨_,rfl⟩;simp only [hx] at L N E;rw [N.o] at F;clear y B hx
   go_wp2_with (refine lG H.o.1.2 ?_)
   refine qM (L.o _ (HU.o.fut H.o.1.1.out).all) fun w4 a=>?_;replace H:=zF a H;have G4:=zH a;clear a L
   go_upto_region 8 with (first
    | (refine sF 87 (.tmp 5) (.tmp 20) #[.int .i64 I,.int .i64 x2,.int .i64 x3,.int .i64 x4] ?_;intro w5 b5 k5;replace H:=zF k5 H;have J:=b5)
    | (refine lG J.o ?_))
   by_cases Q:I=0
   ·have g:=E Q;simp only [Prod.mk.injEq] at g;obtain ⟨rfl,rfl,rfl,rfl⟩:=g;clear E F M
    go_wp2_with (refine lG J.o ?_)
    exact ⟨⟨q+1,by omega,by go_num,by rw [N.o],aa k5 (aa G4.o G3.o)⟩,by simp [intOf];omega⟩
   ·have t2:(I == 0)=false:=by simpa using Q
    rw [F.o Q n oM] at d;clear E F M
    go_wp2_with (first|(refine lG J.o ?_)|(refine sG #[.int .i64 I,.int .i64 x2,.int .i64 x3,.int .i64 x4] H.o.2 ?_;intro w9 j f;have b:=zA f (zH H.o.1.1);clear f))
    all_goals
     refine ret_cell rfl j rfl underlying87 kM rfl ?_;exact ⟨by rw [d.o] <;> rfl,b.o.out⟩
  ·obtain rfl:n=q:=oM;have p1:¬ (n:Int) < (n:Int):=oM;rw [UZ.o _ RZ.o] at d
   go_wp2_with (refine sG #[.int .i64 0,.int .i64 0,.int .i64 0,.int .i64 0] H.o.2 ?_;intro w9 j f;have b:=zA f (zH H.o.1.1);clear f)
   refine ret_cell rfl j rfl underlying87 kM rfl ?_;exact ⟨by rw [d.o] <;> rfl,b.o.out⟩
def gu (d:af) (k:Nat) (v:Int):Bool:=bi d ((k:Int)+1) && (decide (d.a=v) || decide (ar d=v))
def hU (l:List af) (v:Int):Nat → Int
 | 0=>0
 | k+1=>if gu (l.getD k aM) k v then (k:Int)+1 else hU l v k
def o7 (l:List af) (v:Int):Int:=if v=l.length then (l.length:Int)+1 else hU l v l.length
def dw (l:List af) (n k:Nat):List Int:=(List.range (n+1)).map fun (v:Nat)=>hU l (v:Int) k
theorem dZ (l:List af) (n k:Nat):(dw l n k).length=n+1:=by simp [dw]
theorem iH (l:List af) (n k v:Nat) (h:v≤n):(dw l n k)[v]?=some (hU l (v:Int) k):=by
 unfold dw;rw [List.getElem?_map,List.getElem?_range oM];rfl
theorem tI {l:List af} {n k:Nat} {d:af} (t:l[k]?=some d) (h:bi d ((k:Int)+1)=false):dw l n (k+1)=dw l n k:=by
 have e:l.getD k aM=d:=by rw [gD,t];rfl
 unfold dw;apply List.map_congr_left;intro v _;show (if gu (l.getD k aM) k v then _ else _)=_;rw [e];unfold gu;rw [h];rfl
theorem vm {l:List af} {n k:Nat} {d:af} (s:l[k]?=some d) (h:bi d ((k:Int)+1)=true) (p:k < n) :
  dw l n (k+1)=((dw l n k).set d.a.toNat ((k:Int)+1)).set (ar d).toNat ((k:Int)+1):=by
 have e:l.getD k aM=d:=by rw [gD,s];rfl
 obtain ⟨m,f,w,y⟩:=fJ h;apply List.ext_getElem?;intro v;rw [List.getElem?_set,List.getElem?_set];simp only [List.length_set,dZ];by_cases i:v≤n
 ·rw [iH _ _ _ _ i,iH _ _ _ _ i];have:hU l (v:Int) (k+1)=if gu d k v then (k:Int)+1 else hU l (v:Int) k:=by
   show (if gu (l.getD k aM) k v then _ else _)=_;rw [e]
  rw [this];unfold gu;rw [h];by_cases t:(ar d).toNat=v
  ·rw [if_pos t];have:ar d=(v:Int):=oM;simp [this];omega
  ·rw [if_neg t];have r:¬ ar d=(v:Int):=oM;by_cases o:d.a.toNat=v
   ·rw [if_pos o];have:d.a=(v:Int):=oM;simp [this];omega
   ·rw [if_neg o];have c:¬ d.a=(v:Int):=oM;simp [r,c]
 ·rw [List.getElem?_eq_none (by rw [dZ];omega),List.getElem?_eq_none (by rw [dZ];omega)];by_cases t:(ar d).toNat=v
  ·omega
  ·rw [if_neg t];by_cases o:d.a.toNat=v
   ·omega
   ·rw [if_neg o]
theorem Cr {d:af} {m:Int} (h:bi d m=true) (j:Nat) (e:j < (eR d).length):0≤(eR d).getD j 0∧(eR d).getD j 0 < m:=by
 unfold bi at h;simp only [Bool.and_eq_true,Bool.or_eq_true,decide_eq_true_eq] at h;unfold eR at *;by_cases t:d.kind=6
 ·rw [if_pos t] at e ⊢
  match j,e with
  | 0,_=>exact h.1
  | 1,_=>exact h.2.elim (fun q=>absurd t q) id
 ·rw [if_neg t] at e ⊢
  match j,e with
  | 0,_=>exact h.1
def mP (r:List Int) (t:List Int) (x:Int):Nat → List Int
 | 0=>r
 | j+1=>(mP r t x j).set (t.getD j 0).toNat x
theorem rR {l:List af} {n k:Nat} {d:af} (t:l[k]?=some d) (h:bi d ((k:Int)+1)=true) (a:k < n) :
  mP (dw l n k) (eR d) ((k:Int)+1) (eR d).length=dw l n (k+1):=by
 rw [vm t h a];unfold eR ar;by_cases e:d.kind=6
 ·rw [if_pos e,if_pos e];rfl
 ·rw [if_neg e,if_neg e,List.set_set];rfl
def a8 (l:List af):List Int:=(List.range (l.length+1)).map fun (v:Nat)=>o7 l (v:Int)
theorem i9 (l:List af):(a8 l).length=l.length+1:=by simp [a8]
theorem wS (l:List af) (v:Nat) (h:v≤l.length):(a8 l).getD v 0=o7 l (v:Int):=by
 unfold a8;rw [gD,List.getElem?_map,List.getElem?_range oM];rfl
theorem vl (l:List af):(dw l l.length l.length).set l.length ((l.length:Int)+1)=a8 l:=by
 apply List.ext_getElem?;intro v;rw [List.getElem?_set,dZ];by_cases e:v≤l.length
 ·unfold a8;rw [List.getElem?_map,List.getElem?_range oM,iH _ _ _ _ e];show _=some (o7 l (v:Int));unfold o7;by_cases q:l.length=v
  ·rw [if_pos q,if_pos oM,if_pos oM]
  ·rw [if_neg q,if_neg oM]
 ·rw [if_neg oM,List.getElem?_eq_none (by rw [dZ];omega),List.getElem?_eq_none (by rw [i9];omega)]
theorem tJ (l:List af) (n:Nat):dw l n 0=List.replicate (n+1) 0:=by
 apply List.ext_getElem?;intro v;by_cases e:v≤n
 ·rw [iH _ _ _ _ e,List.getElem?_replicate,if_pos oM];rfl
 ·rw [List.getElem?_eq_none (by rw [dZ];omega),List.getElem?_eq_none (by simp;omega)]
theorem Bh (A:QA) (n I:Nat) (l:List af) (w:World) (hs:Sl di w (blo w) A n I l) (ac:n≤12) :
  Calls prog 87 #[.slice A n I] w (RetSl (ab .i64) w (a8 l)):=by
 have hn:=hs.n_eq;have LE:=zH (vl l);rw [hn] at LE;obtain ⟨r,hr⟩:∃ r,a8 l=r:=⟨_,rfl⟩;rw [hr] at LE ⊢;obtain ⟨HN,H⟩:=zh2 hn hs;clear hs hr hn;go_in
 go_wp2_with (at_make;refine wpList_make (t:=ab .i64) (S:=fun _=>False) (base:=w.heap.size) rfl _ _ rfl iN .i64 .i64 _ _ (n+1) rfl rfl sM sM ?_ ?_ ?_ 0 ⟨rfl,by decide⟩ (fun _ h=>h.elim) ?_;rotate_right;intro w1 s hg)
 rotate_left
 ·omega
 ·unfold maxLen;omega
 ·simp
 obtain ⟨HO,B1⟩:=zh2 s ((qB w.heap.size w).grown hg (lR _) sM);clear s hg;go_loopw [14] (fun i wr=>∃ k:Nat,k≤n∧i=.int .i64 k∧Below w w wr ∧
   Own (ab .i64) wr (fun _=>False) w.heap.size 3 (.slice (some ⟨w.heap.size,0,none⟩) (n+1) (n+1)) (n+1) (dw l n k)) (fun i _=>n - (intOf i).toNat)
 case atStart=>exact ⟨0,zl _,rfl,B1.o,by rw [tJ];exact HO.o⟩
 case round =>
  obtain ⟨k,hk,rfl,c,s⟩:=hrel;obtain ⟨HB,V⟩:=zh2 c s;clear c s B1 HO;by_cases z:k < n
  ·have p1:(k:Int) < (n:Int):=oM;obtain ⟨d,b0,off,W,nw,cw,B,nb,cb,hd,rfl,_,_,g,ad,Q,M⟩:=(H.o.below HB.o (fun _ h=>h)).node_at k z;have ia:=g.a;have ib:=g.b;obtain ⟨RG,X,Y,TH,R,T⟩:=zh6 M (fun h=>Cr (d:=d) (m:=(k:Int)+1) h) (fun w=>mr d W nw cw B nb cb w ia ib) (fun w=>ry d W nw cw B nb cb ((k:Int)+1) w ia ib) (fun h=>tI (l:=l) (n:=n) hd h) (fun h=>rR (l:=l) (n:=n) hd h z);clear hd g ad Q M ia ib;obtain ⟨th,P⟩:∃ x,bi d ((k:Int)+1)=x:=⟨_,rfl⟩;rw [P] at X TH R T;clear P
   go_wp2_with (first
    | (refine wpList_load_mid rfl 84 (.tmp 17) rfl b0 (off+k*19) rfl _ _ RG.o underlying84 rfl kM ?_)
    | (refine sG (nD d W nw cw B nb cb) (Blk.now _ _ _ _ rfl) ?_;intro w7 B7 g7;have G7:=zH (show Below wr wr w7 from ((qB _ _).alloc (lR _) _).grown g7 sM (fun k h=>by have:=sI h;omega));have D:=zH B7;clear B7 g7)
    | (refine lG D.o ?_))
   refine qM (TH.o _) fun w8 c=>?_;obtain ⟨G8,U⟩:=zh2 (aa c (aa G7.o HB.o)) ((V.o.below G7.o (lR _) (fun _ h=>h.elim)).below c (lR _) (fun _ h=>h.elim));replace D:=zF c D;clear c TH V;cases th with
   | false =>
    have E:=zH (R.o rfl);clear R T X Y;go_wp2;exact ⟨⟨k+1,by omega,by go_num,G8.o,by rw [E.o];exact U.o⟩,by simp [intOf];omega⟩
   | true =>
    obtain ⟨E,TJ⟩:=zh2 (T.o rfl) (X.o rfl);clear R T X;obtain ⟨t,ht⟩:∃ t,eR d=t:=⟨_,rfl⟩;rw [ht] at E TJ Y;clear ht
    go_wp2_with (refine lG D.o ?_)
    refine (Y.o _).mono ?_;rintro e w9 ⟨A2,m,c2,rfl,y,c⟩;have hm:=y.n_eq;have HM:=zH hm;have K:=y.cap_le;have L:=y.max_le;have ay:m≤9223372036854775807:=lT K L;obtain ⟨H2,G9,O9⟩:=zh3 y (aa c G8.o) (U.o.below c (lR _) (fun _ h=>h.elim));have z8:=G8.o.size;have ax:=(U.o.lt _ rfl).2;have z9:=c.size;clear c y hm Y U D K L;rw [HM.o] at E;go_wp2;go_loopw [27] (fun i wx=>∃ j:Nat,j≤m∧i=.int .i64 j∧Below w w wx∧wx.heap.size=w9.heap.size∧Sl (ab .i64) wx (bin w8 w9) A2 m c2 t ∧
     Own (ab .i64) wx (fun _=>False) w.heap.size 3 (.slice (some ⟨w.heap.size,0,none⟩) (n+1) (n+1)) (n+1) (mP (dw l n k) t ((k:Int)+1) j)) (fun i _=>m - (intOf i).toNat)
    case atStart=>exact ⟨0,zl _,rfl,G9.o,rfl,H2.o,O9.o⟩
    case round =>
     obtain ⟨j,hj,rfl,J,O,N,f⟩:=hrel;obtain ⟨F,G,p,an⟩:=zh4 J N f O;clear J N f O;by_cases q:j < m
     ·have p2:(j:Int) < (m:Int):=oM;obtain ⟨b2,al,rfl,_,_,cj,_⟩:=G.o.int_at j q;have hv:=TJ.o j (by rw [HM.o];exact q);obtain ⟨v,C⟩:∃ v:Nat,t.getD j 0=(v:Int):=⟨(t.getD j 0).toNat,by omega⟩;rw [C] at cj hv;have ah:v < n+1:=oM;have p3:(v:Int) < (n:Int)+1:=oM;obtain ⟨x0,u0,_,_,c5,c6,c7,_⟩:=p.o.cell rfl v ah;have HV:=zH C;clear C hv;go_wp2_with fail;obtain ⟨Z,g3⟩:=p.o.set1 rfl v (.int .i64 ((k:Int)+1)) ((k:Int)+1) ⟨rfl,by rw [ai];omega⟩ (fun _ h=>h.elim);refine ⟨⟨j+1,by omega,by go_num,F.o.setCell sM _,by simp [an.o],G.o.keep fun b c=>?_,?_⟩,by simp [intOf];omega⟩
      ·exact Below.heap_setCell _ _ _ _ (by have:=c.1;show b ≠ w.heap.size;omega)
      ·show Own _ _ _ _ _ _ _ ((mP (dw l n k) t ((k:Int)+1) j).set (t.getD j 0).toNat ((k:Int)+1));rw [HV.o];exact Z
     ·obtain rfl:j=m:=oM;clear q hj;go_wp2;exact ⟨⟨k+1,by omega,by go_num,F.o,by rw [← E.o];exact p.o⟩,by simp [intOf];omega⟩
  ·obtain rfl:k=n:=oM;obtain ⟨x0,u0,_,_,c5,c6,c7,_⟩:=V.o.cell rfl k oM;clear z hk;go_wp2_with fail;obtain ⟨Z,g3⟩:=V.o.set1 rfl k (.int .i64 ((k:Int)+1)) ((k:Int)+1) ⟨rfl,by rw [ai];omega⟩ (fun _ h=>h.elim);go_ret;rw [LE.o] at Z;exact Z.ret dM (HB.o.setCell (lR _) _) (fun _ h=>h.elim)
open Go.Shelf Go.Lib Go.Sort Go.Proofs.YtbecbfpoahhpnaaGreat.Rk Go.Proofs.YtbecbfpoahhpnaaGreat.Sta
def nY (l:List Int):List Int:=(refOrder l).map fun i:Nat=>(i:Int)
def ke (x y:Int):Int:=if x < y then -1 else if y < x then 1 else 0
theorem kh (x:Int) (w:World):Calls prog 198 #[.int .i32 x] w fun e w'=>e=.returned (.bool false)∧w=w':=by
 have h:(x != x)=false:=by simp
 go_in;go_wp2;go_ret;exact ⟨rfl,rfl⟩
theorem rI (x y:Int) (w:World):Calls prog 164 #[.int .i32 x,.int .i32 y] w fun e w'=>e=.returned (.int .i64 (ke x y))∧w=w':=by
 by_cases t:x < y
 ·have n:decide (x < y)=true:=by simp;exact t
  have a:=zH (show (-1:Int)=ke x y by unfold ke;rw [if_pos t]);clear t;go_in
  go_wp2_with (go_at_call 198;refine (kh _ _).mono ?_;rintro e w' ⟨rfl,rfl⟩)
  go_ret;exact ⟨bK a.o,rfl⟩
 ·have n:decide (x < y)=false:=sO;by_cases i:y < x
  ·have s:decide (y < x)=true:=by simp;exact i
   have a:=zH (show (1:Int)=ke x y by unfold ke;rw [if_neg t,if_pos i]);clear t i;go_in
   go_wp2_with (go_at_call 198;refine (kh _ _).mono ?_;rintro e w' ⟨rfl,rfl⟩)
   go_ret;exact ⟨bK a.o,rfl⟩
  ·have s:decide (y < x)=false:=sO;have a:=zH (show (0:Int)=ke x y by unfold ke;rw [if_neg t,if_neg i]);clear t i;go_in
   go_wp2_with (go_at_call 198;refine (kh _ _).mono ?_;rintro e w' ⟨rfl,rfl⟩)
   go_ret;exact ⟨bK a.o,rfl⟩
theorem xj (A:QA) (n t:Nat) (l:List Int) (x y a:Nat) (S:Nat → Prop) (w:World) (h:Sl (ab .i32) w S A n t l) (s:x < n) (r:y < n) (g:w.cell? ⟨a,0,none⟩=some (.slice A n t)) :
  Calls prog 163 #[.int .i64 x,.int .i64 y,.pointer (some ⟨a,0,none⟩)] w fun e w'=>e=.returned (.int .i64 (ke (l.getD y 0) (l.getD x 0)))∧∃ q,w'=w.drewN q:=by
 have k:n≤9223372036854775807:=lT h.cap_le h.max_le;obtain ⟨b,off,rfl,_,_,f,d⟩:=h.int_at x s;obtain ⟨m,o,i,_,_,p,c⟩:=h.int_at y r;cases i;have px:(x:Int) < (n:Int):=oM;have j:(y:Int) < (n:Int):=oM;clear h d c;generalize l.getD x 0=u at *;generalize l.getD y 0=v at *;go_in;go_wp2_with fail
 go_quiet ((go_at_call 164;exact Calls.quiet_of_same ((rI _ _ _).mono fun _ _ h=>⟨h.1,h.2.symm⟩)))
 go_wp2;go_ret;exact ⟨rfl,_,rfl⟩
theorem Sl.of_holds {α:Type} [Inhabited α] {k:IntKind} {w:World} {S:Nat → Prop} {g n e:Nat} {d:Array α} (f:α → Int) (h:Holds (fun x=>.int k (f x)) w g 0 d) (c:S g) (q:d.size=n) (r:n≤e) (l:e≤maxLen) (b:∀ x,InK k (f x)) :
  Sl (ab k) w S (some ⟨g,0,none⟩) n e (d.toList.map f):=by
 refine ⟨by simp [q],r,l,(fun h=>by cases h),fun i x t=>?_⟩;rw [List.getElem?_map] at t;cases o:d.toList[i]? with
 | none=>rw [o] at t;cases t
 | some y =>
  rw [o] at t;simp only [Option.map_some,Option.some.injEq] at t;subst t;have hi:i < d.size:=by have:=(List.getElem?_eq_some_iff.1 o).1;simpa using this
  have m:d[i]! = y:=by
   rw [getElem!_pos _ i hi];have:=(List.getElem?_eq_some_iff.1 o).2;simpa using this
  refine ⟨_,[.int k (f y)],rfl,c,⟨rfl,b y⟩,fun j v s=>?_⟩;have p:j=0:=by
   have:=(List.getElem?_eq_some_iff.1 s).1;simp at this;exact this
  subst p;simp only [List.getElem?_cons_zero,Option.some.injEq] at s;subst s;have a:(⟨g,0,none⟩:Addr).add (i*(ab k).size+0)=⟨g,0+i,none⟩:=by
   show (⟨g,0,none⟩:Addr).add (i*1+0)=_;unfold Addr.add;split <;> simp_all
  rw [a,(h i hi).1,m]
/-! the order as places -/
def wH (m:Nat) (x:Fin (m+1)):Value:=.int .i64 (x.val:Int)
def gK (m:Nat):Array (Fin (m+1)):=Array.ofFn fun i=>i
def kv (l:List Int) (m:Nat) (x y:Fin (m+1)):Bool:=Rk.ahead l x.val y.val
def pT (l:List Int) (m:Nat) (x y:Fin (m+1)):Int:=ke (l.getD y.val 0) (l.getD x.val 0)
theorem eS (m:Nat):(gK m).size=m+1:=by simp [gK]
theorem qu (m p:Nat) (h:p < m+1):(gK m)[p]! = ⟨p,h⟩:=by
 rw [getElem!_pos _ p (by rw [eS];exact h)];simp [gK]
theorem ltF (l:List Int) (m:Nat) (x y:Fin (m+1)):ltOf (pT l m) x y=decide (l.getD y.val 0 < l.getD x.val 0):=by
 show decide (pT l m x y < 0)=_;unfold pT ke;by_cases h:l.getD y.val 0 < l.getD x.val 0
 ·rw [if_pos h,qT h];rfl
 ·rw [if_neg h,dF h];split <;> rfl
theorem DG (l:List Int) (m p q:Nat) (t:p < q) (e:q < m+1):Agree (ltOf (pT l m)) (kv l m) (gK m)[q]! (gK m)[p]!:=by
 rw [qu m q e,qu m p oM];unfold Agree kv;rw [ltF];constructor
 ·rw [Bool.eq_iff_iff,ahead_iff];simp;omega
 ·intro h;rw [Bool.eq_false_iff] at h;simp only [ne_eq,ahead_iff] at h;rw [ahead_iff];simp only at *;omega
theorem tV {l:List Int} {m:Nat} (s:l.length=m+1) {t:Array (Fin (m+1))} (h:Sta.Loc (kv l m) (gK m) 0 (m+1) t) (n:t.size=m+1):IsOrder l (t.toList.map Fin.val):=by
 have r:=(by rw [eS];exact h:Sta.Loc (kv l m) (gK m) 0 (gK m).size t).perm_whole (by rw [eS];exact n);refine ⟨?_,?_⟩
 ·have:=r.map Fin.val;refine this.trans ?_;have e:(gK m).toList.map Fin.val=List.range l.length:=by
   apply List.ext_getElem
   ·simp [gK,s]
   ·intro i d c;simp only [gK,List.getElem_map,Array.getElem_toList,Array.getElem_ofFn,List.getElem_range]
  rw [e]
 ·rw [List.pairwise_iff_getElem];intro i j hi o a;simp only [List.length_map,Array.length_toList] at hi o;have:=h.asc i j (zl _) a (by rw [← n];exact o);rw [getElem!_pos t i hi,getElem!_pos t j o] at this;simpa [kv] using this
theorem pQ {α:Type} [Inhabited α] (enc:α → Value) (w:World) (t off m:Nat) (a:Array α) (os:Array Obj) (p:Addr) (o:p.block ≠ t) (i:p.block < w.heap.size):(sortWorld enc w t off m a os).cell? p=w.cell? p:=by
 unfold sortWorld;rw [cell?_grow _ _ _ (by rw [size_putRow];exact i)];have e:(putRow enc (Sort.ahead w m) t off a).heap[p.block]?=w.heap[p.block]?:=by
  simp only [putRow,mapBlock,Array.getElem?_modify];rw [if_neg (fun e=>o e.symm)];rfl
 unfold World.cell?;rw [e]
theorem kC {α:Type} [Inhabited α] (enc:α → Value) (w:World) (t off m:Nat) (a:Array α) (os:Array Obj) (b:Nat) (o:b ≠ t) (i:b < w.heap.size):(sortWorld enc w t off m a os).heap[b]?=w.heap[b]?:=by
 unfold sortWorld;show ((putRow enc (Sort.ahead w m) t off a).heap ++ os)[b]?=_;have n:(putRow enc (Sort.ahead w m) t off a).heap.size=w.heap.size:=size_putRow _ _ _ _ _;rw [Array.getElem?_append_left (by rw [n];exact i)];simp only [putRow,mapBlock,Array.getElem?_modify];rw [if_neg (fun e=>o e.symm)];rfl
theorem oX {α:Type} [Inhabited α] (enc:α → Value) (w:World) (t off m:Nat) (o:Array α) (os:Array Obj):w.grownBy (sortWorld enc w t off m o os) (some t):=by
 refine ⟨rfl,rfl,rfl,?_,fun k i a=>kC enc w t off m o os k (fun e=>a (by rw [e])) i⟩;unfold sortWorld;rw [size_grow,size_putRow];exact Nat.le_add_right _ _
theorem Sl.heap {α:Type} {t:Ty α} {w w':World} {S:Nat → Prop} {A:QA} {n e:Nat} {l:List α} (h:Sl t w S A n e l) (a:∀ b,S b → w'.heap[b]?=w.heap[b]?):Sl t w' S A n e l:=h.keep a
theorem qE (A:QA) (n s:Nat) (l:List Int) (t g c:Nat) (w:World) (h:Sl (ab .i32) w (fun b=>b < t) A n s l) (Q:0 < n) (B:t < w.heap.size) (S:t < g) (f:g < w.heap.size) (T:n < 20) (E:n≤c) (C:c≤maxLen)
  (K:w.cell? ⟨t,0,none⟩=some (.slice A n s)) (v:∀ i,i < n → w.cell? ⟨g,0+i,none⟩=some (.int .i64 i)∧w.frozen? ⟨g,0+i,none⟩=false) :
  Calls prog 162 #[.slice (some ⟨g,0,none⟩) n c,.func (.func 163) #[] #[.pointer (some ⟨t,0,none⟩)]] w fun e w'=>e=.returned (.tuple #[])∧w.grownBy w' (some g) ∧
   Sl (ab .i64) w' (fun b=>b=g) (some ⟨g,0,none⟩) n c (nY l):=by
 obtain ⟨m,rfl⟩:∃ m,n=m+1:=⟨n - 1,by omega⟩;have N:=h.n_eq;have H:Holds (wH m) w g 0 (gK m):=by
  intro j D;rw [eS] at D;rw [qu m j D];exact v j D
 have I:∀ a w,(callFunc 163 a).run prog w=.ok (.enter 163 a) w:=enters_of func163 kM rfl;have J:OneCell (wH m):=fun _=>rfl;have d:CmpReads prog 163 #[.pointer (some ⟨t,0,none⟩)] (wH m) (pT l m) g 0 (gK m).size w:=by
  intro k os P F x y;exact xj A (m+1) s l x.val y.val t (fun b=>b < t) _ (h.heap fun b R=>kC _ _ _ _ _ _ _ b oM oM) x.2 y.2 (by rw [pQ _ _ _ _ _ _ _ _ (show t ≠ g by omega) B];exact K)
 have F:=sortStable_s (wH m) (pT l m) (kv l m) (fun x y z r o=>ahead_trans r o) (fun x y r=>ahead_asymm r) 163 #[.pointer (some ⟨t,0,none⟩)] g 0 c (gK m) w I d.lays ⟨J,H,f⟩ (by rw [eS];omega) (fun p q r o=>DG l m p q r (by rw [eS] at o;exact o));rw [eS] at F;refine F.mono ?_;rintro e w' ⟨M,O,r,o,G⟩;refine ⟨M,?_,?_⟩
 ·obtain ⟨k,os,rfl⟩:=G;exact oX _ _ _ _ _ _ _
 ·have L:=G.holds f H (by rw [eS];exact o);unfold nY;rw [(tV N r o).eq,List.map_map];exact Sl.of_holds (fun x:Fin (m+1)=>((x.val:Nat):Int)) L rfl o E C (fun x=>by rw [ai];have:=x.2;omega)
theorem Bu (l:List Int):(nY l).length=l.length:=by
 unfold nY;rw [List.length_map,(refOrder_is l).len]
theorem vT (l:List Int) (m:Nat) (h:m < l.length):(nY l).getD m 0=(((refOrder l).getD m 0:Nat):Int)∧(refOrder l).getD m 0 < l.length:=by
 obtain ⟨e,t⟩:=(refOrder_is l).getD m h;refine ⟨?_,e⟩;unfold nY;simp only [gD,List.getElem?_map];rw [List.getElem?_eq_getElem (by rw [(refOrder_is l).len];exact h)];rfl
theorem s8 {w:World} {base n g c:Nat} {l:List Int} {E:TypeId} (h:Own (ab .i64) w (fun _=>False) base E (.slice (some ⟨g,0,none⟩) n c) n l) (i:Nat) (hi:i < n) :
  w.cell? ⟨g,0+i,none⟩=some (.int .i64 (l.getD i 0))∧w.frozen? ⟨g,0+i,none⟩=false:=by
 obtain ⟨x,u,o,⟨e,_⟩,t,a,_⟩:=h.cell rfl i hi;rw [Nat.zero_add,t,a];have:l.getD i 0=x:=by rw [gD,o];rfl
 rw [this];injection e with e _
 rw [e];exact ⟨rfl,rfl⟩
theorem rX (A:QA) (n s:Nat) (l:List Int) (w:World) (h:xB w A n s l) (V:2≤n) (U:n < 20) :
  Calls prog 123 #[.slice A n s] w (RetSl (ab .i64) w (nY l)):=by
 obtain ⟨hl,H⟩:=zh2 h.n_eq h;clear h;obtain ⟨w0,r⟩:∃ w0,w.alloc (.cells #[.slice A n s] 42)=w0:=⟨_,rfl⟩;have sz:w0.heap.size=w.heap.size+1:=by rw [← r];simp
 have C:w0.cell? ⟨w.heap.size,0,none⟩=some (.slice A n s):=by rw [← r];simp
 have D:Below w w w0:=by rw [← r];exact (qB _ _).alloc (lR _) _
 obtain ⟨B,SZ⟩:=zh2 D sz;have Y:w0.heap.size≤w.heap.size+1:=oM;have Z:w.heap.size+1≤w0.heap.size:=oM;have I:=zH C;clear D sz;go_in;go_wp2_with fail;have K:=zH r;clear r C;go_loopw [3,7] (fun v i wr=>∃ k:Nat,k≤n∧i=.int .i64 k∧Hid (k=0 → v=.slice none 0 0)∧Below w0 w0 wr∧Own (ab .i64) wr (fun _=>False) w0.heap.size 3 v k ((List.range k).map fun i:Nat=>(i:Int))) (fun _ i _=>n - (intOf i).toNat)
 case atStart=>exact ⟨0,zl _,rfl,zH (fun _=>rfl),qB _ _,Own.nil _ _ _ _ _⟩
 case round =>
  obtain ⟨k,R,rfl,L,c,a⟩:=hrel;by_cases y:k < n
  ·have t1:decide ((k:Int) < (n:Int))=true:=sO;have j:=zH a;have q:=c.size;clear a
   go_wp2_with (at_builtin;refine wpList_push (t:=ab .i64) rfl _ _ rfl iN (v:=u3) rfl j.o 1 rfl _ ⟨rfl,by rw [ai];omega⟩ mL oM oM (fun _ h=>h.elim) ?_;intro v' w3 z f _)
   refine ⟨⟨k+1,by omega,by go_num,zH (fun h=>by omega),c.grown f q (fun k h=>(j.o.lt k h).1),?_⟩,by simp [intOf];omega⟩;rw [List.range_succ,List.map_append];simpa using z
  ·obtain rfl:k=n:=oM;have t1:decide ((k:Int) < (k:Int))=false:=by simp
   have q:=c.size;obtain ⟨j,m⟩:=zh2 a c;have d:=a;clear a c;have y:=j.o.lt;obtain ⟨vs,E,F⟩:=d.out;rcases E.2 with ⟨rfl,rfl⟩|⟨g,N,O,rfl,hg,Q,k1,k2,k3,X⟩
   ·have T:=d.length dM;have W:=F.len;simp [ab] at W;omega
   ·have f:=y g rfl;have P:0 < k:=oM;have S:=zH (qE A k s l w.heap.size g N wr ((H.o.below B.o (fun _ h=>h)).below m.o (fun b c=>by have:b < w.heap.size:=c;omega)) P oM oM f.2 U k1 k2 (by rw [m.o.cell (p:=⟨w.heap.size,0,none⟩) (by show w.heap.size < _;omega)];exact I.o)
     (fun i hi=>by
      have:=s8 j.o i hi;rw [this.1,this.2];refine ⟨?_,rfl⟩;congr 2;rw [gD,List.getElem?_map,List.getElem?_range hi];rfl))
    clear E F d y Q X R L;go_wp2_with fail;refine S.o.mono ?_;rintro e w1 ⟨rfl,x,G⟩;obtain ⟨J,M⟩:=zh2 x G;have gs:=x.size;clear x G S;go_wp2;go_ret;refine ⟨_,_,_,rfl,M.o.more (fun b c=>⟨by omega,by omega⟩),?_⟩;exact (B.o.trans (m.o.mono oM)).grown J.o oM (fun k h=>by have:=sI h;omega)
theorem qh (A:QA) (n t:Nat) (l:List Int) (w:World) (h:xB w A n t l) (f:2≤n) (J:n < 20) :
  Calls prog 91 #[.slice A n t] w fun e w'=>e=.returned (.int .i64 (marginI l))∧Below w w w':=by
 have S:n≤9223372036854775807:=lT h.cap_le h.max_le;obtain ⟨r,H⟩:=zh2 h.n_eq h;clear h;have W:decide ((n:Int) < 2)=false:=sO;have I:=zH (show l.getD ((refOrder l).getD 0 0) 0 - l.getD ((refOrder l).getD 1 0) 0=marginI l by unfold marginI;rw [if_neg (by rw [r.out];omega)]);have a:=Bu l;obtain ⟨k,q⟩:=vT l 0 (by rw [r.out];omega);obtain ⟨j,z⟩:=vT l 1 (by rw [r.out];omega);rw [r.out] at q z a;obtain ⟨E,g,c⟩:=zh3 (And.intro k j) (rX A n t l w H.o f J) a;clear k j a;generalize (refOrder l).getD 0 0=p at *;generalize (refOrder l).getD 1 0=v at *;go_in;go_wp2_with fail;refine g.o.mono ?_;rintro e V ⟨N,i,R,rfl,d,s⟩;obtain rfl:i=n:=d.n_eq.symm.trans c.o;obtain ⟨b,off,rfl,_,_,F,_⟩:=d.int_at 0 oM;obtain ⟨O,B,m,_,_,L,_⟩:=d.int_at 1 oM;cases m;rw [E.o.1] at F;rw [E.o.2] at L;rw [Nat.add_zero] at F;obtain ⟨P,C,rfl,_,_,T,K⟩:=(H.o.later s (lR _)).int_at p q;obtain ⟨Q,D,m,_,_,U,i3⟩:=(H.o.later s (lR _)).int_at v z;cases m;rw [cE] at K i3;generalize l.getD p 0=x at *;generalize l.getD v 0=y at *;have G:=zH s;have M:IntKind.i64.wrap (x - y)=x - y:=wJ;have X:(0:Int) < (i:Int):=oM;have Y:(1:Int) < (i:Int):=oM;have Z:(p:Int) < (i:Int):=oM;have z3:(v:Int) < (i:Int):=oM;clear d s E g;go_wp2_with fail;go_quiet (fail);go_wp2;go_ret;exact ⟨bK I.o,aI G.o _⟩
end Go.Proofs.YtbecbfpoahhpnaaGreat
