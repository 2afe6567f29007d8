/- What a bundle is wrong in, by the document (layer 33): its Bundle. -/
import Derived.Test.YtbecbfpoahhpnaaGreatJ46
import Derived.Test.YtbecbfpoahhpnaaGreatJ39
set_option linter.unusedVariables false
set_option linter.unusedSimpArgs false
set_option maxRecDepth 100000
set_option maxHeartbeats 16000000
namespace Go.Proofs.YtbecbfpoahhpnaaGreat
open Go.RowKit Go.ChangeShapes Go.WideShapes Tryz
theorem ut (u:Bun) (A:QA) (n U:Nat) (w:World) (hu:Sl bJ w (blo w) A n U u.models) (hi:inU u) (hf:iw u) :
  Calls prog 27 #[.agg #[.int .i64 u.h,.int .i64 u.v,.int .i64 u.c,.int .i64 u.cl,.slice A n U]] w fun e w'=>e=.returned (.agg #[.int .i64 (cP u).1,.int .i64 (cP u).2.1,.int .i64 (cP u).2.2.1,.int .i64 (cP u).2.2.2])∧Below w w w':=by
 have n9:n≤9223372036854775807:=lT hu.cap_le hu.max_le;obtain ⟨LN,HU,HF,T,p,d⟩:=zh6 hu.n_eq (Old.now hu) hf hi (show cP u=if eG u ≠ 0 then (eG u,-1,-1,-1) else ed u u.models.length from rfl) (show eG u=if ag u.h u.v u.c=0 then 5 else if u.cl < 2 ∨ 16 < u.cl then 2 else if u.models.length=0 then 12 else if 3 < u.models.length then 4 else 0 from rfl);obtain ⟨r,hr⟩:∃ x,cP u=x:=⟨_,rfl⟩;obtain ⟨wv,al⟩:∃ x,eG u=x:=⟨_,rfl⟩;rw [hr,al,LN.o] at p;rw [al,LN.o] at d;rw [hr];obtain ⟨Q,hh⟩:∃ x,u.h=x:=⟨_,rfl⟩;obtain ⟨R,hv⟩:∃ x,u.v=x:=⟨_,rfl⟩;obtain ⟨P,hc⟩:∃ x,u.c=x:=⟨_,rfl⟩;obtain ⟨G,hl⟩:∃ x,u.cl=x:=⟨_,rfl⟩;obtain ⟨RU,UB,UZ⟩:=zh3 (fun k m (h1:(ed u k).1=0) (h2:u.models[k]?=some m)=>rl h1 h2) (fun k=>um (u:=u) (k:=k)) (fun k=>mi (u:=u) (k:=k));unfold inU at T;simp only [hh,hv,hc,hl] at RU T d;rw [hh,hv,hc,hl];clear hr al hh hv hc hl hu hi hf;have EL:=zH (fun w=>bX Q P R w T.o.1 T.o.2.1 T.o.2.2.1);obtain ⟨el,an⟩:∃ x,ag Q R P=x:=⟨_,rfl⟩;simp only [an] at EL;rw [an] at d;clear an;have H:=zW w;obtain ⟨w1,bc,B1,k1⟩:=nB w #[.int .i64 Q,.int .i64 R,.int .i64 P,.int .i64 G,.slice A n U] 26;replace H:=zN k1 H B1;clear B1 k1;obtain ⟨w2,bw,B2,k2⟩:=nB w1 #[.int .i64 0,.int .i64 0,.int .i64 0,.int .i64 0] 78;replace H:=zN k2 H B2;clear B2 k2;have l1:=zL bc;have l2:=zL bw;have RS:=zH (aq (off:=0) (vs:=[.int .i64 Q,.int .i64 R,.int .i64 P]) H.o.1.2 rfl);go_in
 go_wp2_with (refine lM 23 (.tmp 12) RS.o underlying23 ?_)
 refine qM (EL.o _) fun w3 D=>?_;replace H:=zF D H;have z3:=D.size;clear D bc bw EL RS;have cA:=fun i=>H.o.1.2.cell i;by_cases e1:el=0
 ·have t1:(el == 0)=true:=by simp [e1]
  rw [if_pos e1] at d;rw [d.o,if_pos dM] at p;clear e1 d
  go_wp2_with (refine sG #[.int .i64 5,.int .i64 (-1),.int .i64 (-1),.int .i64 (-1)] H.o.2 ?_;intro X F t;have E:=zA t (zH H.o.1.1);clear t)
  refine ret_cell rfl F rfl underlying78 kM rfl ?_;exact ⟨by rw [p.o] <;> rfl,E.o.out⟩
 have t1:(el == 0)=false:=by simpa using e1
 rw [if_neg e1] at d;clear e1;by_cases e2:G < 2
 ·have t2:decide (G < 2)=true:=by simpa using e2
  rw [if_pos (.inl e2)] at d;rw [d.o,if_pos dM] at p;clear e2 d
  go_wp2_with (refine sG #[.int .i64 2,.int .i64 (-1),.int .i64 (-1),.int .i64 (-1)] H.o.2 ?_;intro X F t;have E:=zA t (zH H.o.1.1);clear t)
  refine ret_cell rfl F rfl underlying78 kM rfl ?_;exact ⟨by rw [p.o] <;> rfl,E.o.out⟩
 have t2:decide (G < 2)=false:=by simpa using e2
 by_cases J:16 < G
 ·have t3:decide (16 < G)=true:=by simpa using J
  rw [if_pos (.inr J)] at d;rw [d.o,if_pos dM] at p;clear e2 J d
  go_wp2_with (refine sG #[.int .i64 2,.int .i64 (-1),.int .i64 (-1),.int .i64 (-1)] H.o.2 ?_;intro X F t;have E:=zA t (zH H.o.1.1);clear t)
  refine ret_cell rfl F rfl underlying78 kM rfl ?_;exact ⟨by rw [p.o] <;> rfl,E.o.out⟩
 have t3:decide (16 < G)=false:=by simpa using J
 rw [if_neg oM] at d;clear e2 J;by_cases e4:n=0
 ·have t4:((n:Int) == 0)=true:=sO;rw [if_pos e4] at d;rw [d.o,if_pos dM] at p;clear e4 d
  go_wp2_with (refine sG #[.int .i64 12,.int .i64 (-1),.int .i64 (-1),.int .i64 (-1)] H.o.2 ?_;intro X F t;have E:=zA t (zH H.o.1.1);clear t)
  refine ret_cell rfl F rfl underlying78 kM rfl ?_;exact ⟨by rw [p.o] <;> rfl,E.o.out⟩
 have t4:((n:Int) == 0)=false:=sO;rw [if_neg e4] at d;clear e4;by_cases e5:3 < n
 ·have t5:decide (3 < (n:Int))=true:=sO;rw [if_pos e5] at d;rw [d.o,if_pos dM] at p;clear e5 d
  go_wp2_with (refine sG #[.int .i64 4,.int .i64 (-1),.int .i64 (-1),.int .i64 (-1)] H.o.2 ?_;intro X F t;have E:=zA t (zH H.o.1.1);clear t)
  refine ret_cell rfl F rfl underlying78 kM rfl ?_;exact ⟨by rw [p.o] <;> rfl,E.o.out⟩
 have t5:decide (3 < (n:Int))=false:=sO;rw [if_neg e5] at d;rw [d.o,if_neg dM] at p;go_wp2_with fail;have H2:=H;clear H cA t1 t2 t3 t4 t5 d;go_loopw [3] (fun i wr=>∃ q:Nat,q≤n∧i=.int .i64 q∧(ed u q).1=0∧Below w3 w3 wr) (fun i _=>n - (intOf i).toNat)
 case atStart=>exact ⟨0,zl _,rfl,rfl,qB _ _⟩
 case round =>
  obtain ⟨k,hk,rfl,hR,D⟩:=hrel;obtain ⟨wo,bA⟩:∃ x,x=wr:=⟨_,rfl⟩;subst bA;have H:=zF D H2;obtain ⟨RZ,G3⟩:=zh2 hR D;have zo:=D.size;clear hR D;have cA:=fun i=>H.o.1.2.cell i;by_cases bg:k < n
  ·have p1:(k:Int) < (n:Int):=oM;have gk:IntKind.i64.wrap ((k:Int)+1)=((k+1:Nat):Int):=(wJ).trans sM;obtain ⟨m,ga,oa,A',y,c',hm,rfl,ah,bp,hA⟩:=(HU.o.fut H.o.1.1.out).out.model_at k bg;obtain ⟨RN,Y,LM,FB⟩:=zh4 (RU.o k m RZ.o hm) (UB.o (k+1)) hA.n_eq (HF.o.2 m (mG hm));have n8:y≤8:=by have:=FB.o.1;rw [LM.o] at this;exact this
   have I:=zH (show ec m (Q,R,P) G k=(if m.length=0 then (12,(k:Int),-1,-1) else if 6 < m.length then (4,(k:Int),-1,-1) else match fc m (Q,R,P) G m.length with
    | .on _=>(0,0,0,0)
    | .bad i a e=>(e,(k:Int),i,a):F4) from rfl)
   rw [LM.o] at I;have HA:=zH (show Old w eQ wo A' y c' m from ⟨hA,H.o.1.1.size⟩);rw [RN.o] at Y;clear hm ah hA;by_cases e6:y=0
   ·have t6:((y:Int) == 0)=true:=sO;rw [if_pos e6] at I;rw [I.o] at Y;rw [Y.o (by show (12:Int) ≠ 0;decide) n oM] at p;clear e6
    go_wp2_with (refine sG #[.int .i64 12,.int .i64 k,.int .i64 (-1),.int .i64 (-1)] H.o.2 ?_;intro X F t;have E:=zA t (zH H.o.1.1);clear t)
    refine ret_cell rfl F rfl underlying78 kM rfl ?_;exact ⟨by rw [p.o] <;> rfl,E.o.out⟩
   have t6:((y:Int) == 0)=false:=sO;rw [if_neg e6] at I;by_cases e7:6 < y
   ·have t7:decide (6 < (y:Int))=true:=sO;rw [if_pos e7] at I;rw [I.o] at Y;rw [Y.o (by show (4:Int) ≠ 0;decide) n oM] at p;clear e7
    go_wp2_with (refine sG #[.int .i64 4,.int .i64 k,.int .i64 (-1),.int .i64 (-1)] H.o.2 ?_;intro X F t;have E:=zA t (zH H.o.1.1);clear t)
    refine ret_cell rfl F rfl underlying78 kM rfl ?_;exact ⟨by rw [p.o] <;> rfl,E.o.out⟩
   have t7:decide (6 < (y:Int))=false:=sO;rw [if_neg e7] at I;have RS:=zH (aq (off:=0) (vs:=[.int .i64 Q,.int .i64 R,.int .i64 P]) H.o.1.2 rfl)
   go_wp2_with (first|(refine lM 23 (.tmp 59) RS.o underlying23 ?_)|(refine sF 23 (.tmp 5) (.tmp 60) (sN Q R P) ?_;intro w5 b5 k5;have H5:=zN k5 H b5;clear cA bp b5))
   have z5:=k5.size;have ay:=HA;clear HA;clear t6 t7 e6 RS;go_loopw [6] (fun i wr=>∃ (q:Nat) (M N O:Int),q≤y∧i=.int .i64 q∧fc m (Q,R,P) G q=.on (M,N,O)∧(InK .i64 M∧InK .i64 N∧InK .i64 O)∧(((Far w wr∧Blk wr w.heap.size 26 #[.int .i64 Q,.int .i64 R,.int .i64 P,.int .i64 G,.slice (some ⟨ga,oa,none⟩) n U])∧Blk wr w1.heap.size 78 #[.int .i64 0,.int .i64 0,.int .i64 0,.int .i64 0])∧Blk wr wo.heap.size 23 (sN M N O))∧Below wo wo wr) (fun i _=>y - (intOf i).toNat)
   case atStart=>exact ⟨0,Q,R,P,zl _,rfl,rfl,⟨T.o.1,T.o.2.1,T.o.2.2.1⟩,H5.o,k5⟩
   case round =>
    clear H5;obtain ⟨q,M,N,O,hq,rfl,ax,hs,hH,bt⟩:=hrel;obtain ⟨wi,bz⟩:∃ x,x=wr:=⟨_,rfl⟩;subst bz;obtain ⟨H,GO,RM,IS⟩:=zh4 hH bt ax hs;clear ax hs hH bt;by_cases bb:q < y
    ·have p2:(q:Int) < (y:Int):=oM;have gq:IntKind.i64.wrap ((q:Int)+1)=((q+1:Nat):Int):=(wJ).trans sM;have gl:IntKind.i64.wrap ((y:Int) - 1)=(y:Int) - 1:=wJ;obtain ⟨b,g,off,L,V,cl,W,nw,cw,B,nb,cb,D,rfl,ah,rg,Z⟩:=(show Sl eQ wi (blo w) A' y c' m from ay.o.out.below GO.o (fun x hx=>Nat.lt_of_lt_of_le hx ay.o.le)).blk_at q bb;have f:=zH (rj RM.o D);rw [LM.o] at f;have FX:=zH (FB.o.2 b (mG D));obtain ⟨VB,SV,BO,NL,AT,RG,SL⟩:=zh7 (fun w h=>vE b L V cl W nw cw B nb cb (M,N,O) G ((q:Int) == (y:Int) - 1) w h IS.o T.o.2.2.2 FX.o) (fun w h=>kr L V cl b.nodes M N O w h IS.o.1 IS.o.2.1 IS.o.2.2 FX.o.1.2) (lN (b:=b) (s:=(M,N,O)) (cl:=G) (last:=((q:Int) == (y:Int) - 1))) Z.nodes.n_eq (Z.keep (S':=blo wi) (fun _ _=>rfl) (fun x hx=>Nat.lt_of_lt_of_le hx H.o.1.1.1.size)) rg (fg (l:=b.nodes) (s:=(M,N,O)));unfold cQ at f;unfold bv at SV;rw [NL.o] at f SL;clear D Z rg ah;obtain ⟨⟨ba,be⟩,bo⟩:∃ x,dD b (M,N,O) G ((q:Int) == (y:Int) - 1)=x:=⟨_,rfl⟩;obtain ⟨⟨sl,sp,se⟩,ad⟩:∃ x,ao b.nodes (M,N,O)=x:=⟨_,rfl⟩;simp only [bo] at f VB BO;simp only [ad] at f SV SL;have ac:=zH (fun h=>(BO.o h).shapes);rw [ad] at ac;obtain ⟨need,bh⟩:∃ x,b.head.need=x:=⟨_,rfl⟩;obtain ⟨ex,bn⟩:∃ x,b.exit=x:=⟨_,rfl⟩;simp only [bh,bn] at VB RG;obtain ⟨la,bs⟩:∃ x,((q:Int) == (y:Int) - 1)=x:=⟨_,rfl⟩;simp only [bs] at VB;clear bo ad BO bh bn;obtain ⟨R0,R1⟩:=zh2 (fun z:Ext wi=>de RG.o z.2) (fun z:Ext wi=>aq (off:=0) (vs:=[.int .i64 M,.int .i64 N,.int .i64 O]) (H.o.2.ext z) rfl);have c3:∀ z:Ext wi,z.1.cell? ⟨w.heap.size,3,none⟩=some (.int .i64 G):=fun z=>(H.o.1.1.2.ext z).cell 3;have E1:=zH (fun z:Ext wi=>aB z (VB.o z.1 (AT.o.fut z.2)))
     go_upto_region 21 with fail
     refine am wi kM kM (qB _ _) ?_;go_big_quiet_step (fail);go_big_quiet_step (fail);go_big_quiet_step (fail);refine aj kM 51 (.tmp 70) rfl g (off+q*5) rfl _ _ (by rintro _ ⟨z,rfl⟩;exact R0.o z) underlying51 rfl kM ?_;simp only [pX];refine aj kM 23 (.tmp 5) rfl wo.heap.size 0 rfl _ _ (by rintro _ ⟨z,rfl⟩;exact R1.o z) underlying23 rfl kM ?_;simp only [pX];repeat (go_big_quiet_step ((with_reducible exact E1.o _)))
     refine wpQuiet_nil ?_;rintro wa ⟨⟨_,D⟩,rfl⟩;obtain ⟨H,RG⟩:=uz2 D H RG;replace AT:=zH (AT.o.fut D);have GA:=zH (aa D GO.o);clear D R0 R1 c3 E1 GO bs;by_cases J:be=0;rotate_left
     ·have t3:(be != 0)=true:=by simpa using J
      rw [if_pos J] at f;rw [uk f.o y oM] at I;simp only at I;rw [I.o] at Y;rw [Y.o (by exact J) n oM] at p;clear f SV J
      go_wp2_with (refine sG #[.int .i64 be,.int .i64 k,.int .i64 q,.int .i64 ba] H.o.1.2 ?_;intro X F t;have E:=zA t (zH H.o.1.1.1);clear t)
      refine ret_cell rfl F rfl underlying78 kM rfl ?_;exact ⟨by rw [p.o] <;> rfl,E.o.out⟩
     have bx:se=0:=ac.o J;subst J bx;rw [if_neg dM] at f;have M3:=SL.o (by trivial);have R0:=RG.o 0 _ rfl
     go_upto_region 24 with fail
     refine wp_region_held_drew (S:=fun w'=>w'.cell? ⟨g,off+q*5,none⟩=some (.slice L V cl)∧Blk w' wo.heap.size 23 (sN M N O)∧Below wa wa w') kM ?_ (fun C=>?_)
     ·exact ⟨R0,H.o.2.drew,(qB _ _).drew⟩
     refine kH' 0 C ?_;refine kH' 1 C ?_;refine kH' 2 C ?_;refine kH' 3 C ?_;refine kH' 4 C ?_;refine tkH 5 rfl (yB 23 (.tmp 5) wo (fun w hs=>hs.2.1) underlying23) C ?_;try simp only [pX]
     refine rH 6 rfl (fun K hK=>?_);go_simp;refine (SV.o _ (AT.o.fut C.2.2).nodes).mono ?_;rintro e w7 ⟨A3,m3,c3,rfl,q3,D⟩;have N3:=zH (New.of q3 (Far.mk C.2.2));have K3:=q3.n_eq;clear q3;refine xK hK (zR D C) fun C=>?_;clear hK K;refine kH' 7 C ?_;refine kH' 8 C ?_;refine kH' 9 C ?_;refine kH' 10 C ?_;refine kH' 11 C ?_;refine kH' 12 C ?_;refine kH' 13 C ?_;refine wpAnyH_done kM ?_ _;have FZ:=C.2.2;replace H:=zF FZ H;clear C R0 SV;obtain ⟨b3,o3,rfl,-,-,br,bd,bl,-,r3⟩:=N3.o.old.shape_at V oM;obtain ⟨⟨x1,x2,x3⟩,hx⟩:∃ x,sl.getD V (0,0,0)=x:=⟨_,rfl⟩;rw [hx] at f r3 br bd bl;have R3:=zH r3;have gm:IntKind.i64.wrap ((m3:Int) - 1)=(V:Int):=by rw [show (m3:Int) - 1=(V:Int) by omega];exact wI _ (by have:=N3.o.old.cap_le;have:=N3.o.old.max_le;unfold maxLen at *;omega)
     have gn:(V:Int) < (m3:Int):=oM;have bB:=lT N3.o.old.cap_le N3.o.old.max_le;unfold maxLen at bB;have zw:=H.o.1.1.1.size;have zq:=GA.o.size;clear r3 hx
     go_wp2_with (first
      | (refine lM 23 (.tmp 105) R3.o underlying23 ?_)
      | (refine sG (sN x1 x2 x3) H.o.2 ?_;intro w8 b8 g8;replace H:=zS g8 b8 H;have GW:=zH ((aa FZ GA.o).grown g8 (by have:=FZ.size;omega) (fun j e=>by have:=sI e;omega));clear b8 g8))
     exact ⟨⟨q+1,x1,x2,x3,by omega,by go_num,f.o,⟨br,bd,bl⟩,H.o,GW.o⟩,by simp [intOf];omega⟩
    ·obtain rfl:y=q:=oM;have p2:¬ (y:Int) < (y:Int):=oM;rw [RM.o] at I;simp only at I;rw [I.o] at RN;go_wp2;exact ⟨⟨k+1,by omega,by go_num,by rw [RN.o],aa GO.o G3.o⟩,by simp [intOf];omega⟩
  ·obtain rfl:n=k:=oM;have p1:¬ (n:Int) < (n:Int):=oM;rw [UZ.o _ RZ.o] at p
   go_wp2_with (refine sG #[.int .i64 0,.int .i64 0,.int .i64 0,.int .i64 0] H.o.2 ?_;intro X F t;have E:=zA t (zH H.o.1.1);clear t)
   refine ret_cell rfl F rfl underlying78 kM rfl ?_;exact ⟨by rw [p.o] <;> rfl,E.o.out⟩
end Go.Proofs.YtbecbfpoahhpnaaGreat
