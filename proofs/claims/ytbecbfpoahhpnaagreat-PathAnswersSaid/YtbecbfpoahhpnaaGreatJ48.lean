/- What each block costs, by the document (layer 31): its Table. -/
import Derived.Test.YtbecbfpoahhpnaaGreatJ41
set_option linter.unusedVariables false
set_option linter.unusedSimpArgs false
set_option maxRecDepth 100000
set_option maxHeartbeats 16000000
namespace Go.Proofs.YtbecbfpoahhpnaaGreat
open Go.RowKit Go.ChangeShapes Go.WideShapes Tryz
theorem qk (u:Bun) (A:QA) (n O:Nat) (w:World) (hu:Sl bJ w (blo w) A n O u.models) (hf:iw u) (ok:dn u) :
  Calls prog 15 #[.agg #[.int .i64 u.h,.int .i64 u.v,.int .i64 u.c,.int .i64 u.cl,.slice A n O]] w (sU (aO u) w):=by
 have n3:n≤3:=by have:=ok.three;rw [hu.n_eq] at this;exact this
 obtain ⟨HU,FU,OK,GS,CL,TA,TL⟩:=zh7 (Old.now hu) (fun m J=>hf.2 m J) (fun k m J=>ok.model (k:=k) (m:=m) J) ok.good ok.cl (fun k m J=>iX (u:=u) (k:=k) (m:=m) J) (show (aO u).length=n by unfold aO;rw [List.length_map,hu.n_eq]);obtain ⟨tb,V⟩:∃ x,aO u=x:=⟨_,rfl⟩;obtain ⟨z,hh⟩:∃ x,u.h=x:=⟨_,rfl⟩;obtain ⟨C,hv⟩:∃ x,u.v=x:=⟨_,rfl⟩;obtain ⟨p,hc⟩:∃ x,u.c=x:=⟨_,rfl⟩;obtain ⟨I,hl⟩:∃ x,u.cl=x:=⟨_,rfl⟩;rw [hh,hv,hc,hl,V];simp only [hh,hv,hc,hl,V] at OK GS CL TA TL;clear hh hv hc hl V hu hf ok;have H:=zW w;obtain ⟨w1,ac,Y,k1⟩:=nB w #[.int .i64 z,.int .i64 C,.int .i64 p,.int .i64 I,.slice A n O] 26;replace H:=zN k1 H Y;clear Y k1;have l1:=zL ac;have cA:=fun i=>H.o.2.cell i;go_in;go_wp2_with fail;have H2:=H;clear H cA ac;go_loopw [4,5] (fun v i wr=>∃ (k:Nat) (S:Nat → Prop),k≤n∧i=.int .i64 k∧Own fi wr S w1.heap.size 58 v k (tb.take k)∧(∀ b,S b → w1.heap.size≤b∧b < wr.heap.size∧some b ≠ v.ownBlock)∧Below w1 w1 wr) (fun _ i _=>n - (intOf i).toNat)
 case atStart=>exact ⟨0,fun _=>False,zl _,rfl,Own.nil _ _ _ _ _,fun _ h=>h.elim,qB _ _⟩
 case round =>
  obtain ⟨k,S,hk,rfl,hO,d,f⟩:=hrel;obtain ⟨D,bh⟩:∃ x,x=wr:=⟨_,rfl⟩;subst bh;have H:=zF f H2;obtain ⟨ON,SS,G1⟩:=zh3 hO d f;have z1:=f.size;clear hO d f;by_cases bn:k < n
  ·have p1:(k:Int) < (n:Int):=oM;have gk:IntKind.i64.wrap ((k:Int)+1)=((k+1:Nat):Int):=(wJ).trans sM;obtain ⟨m,ga,oa,A',G,c',J,rfl,bt,U,hA⟩:=(HU.o.fut H.o.1.out).out.model_at k bn;obtain ⟨MO,TK⟩:=zh2 (OK.o k m J) (bG _ _ _ (TA.o k m J));have FM:=zH (FU.o m (mG J)).2;have LM:=hA.n_eq;have m6:G≤6:=by have:=MO.o.six;omega
   have Z:=zH (show Old w eQ D A' G c' m from ⟨hA,H.o.1.size⟩);have HX:=zW D;clear J bt hA;have cA:=fun i=>H.o.2.cell i
   go_wp2_with (first
    | (refine lM 23 (.tmp 20) (aq (off:=0) (vs:=[.int .i64 z,.int .i64 C,.int .i64 p]) H.o.2 rfl) underlying23 ?_)
    | (refine sF 23 (.tmp 7) (.tmp 21) (sN z C p) ?_;intro X b5 k5;replace H:=zF k5 H;have B5:=b5;clear cA b5;have cA:=fun i=>H.o.2.cell i;replace U:=au k5 U))
   have K5:=zH k5;have z5:=k5.size;have y5:=B5.o.lt;have yw:w.heap.size < D.heap.size:=oM;replace Z:=zF k5 Z;clear cA U k5;go_loopw [6,9] (fun rv i wr=>∃ j:Nat,j≤G∧i=.int .i64 j∧Own (ab .i64) wr (fun _=>False) X.heap.size 3 rv j ((dW m (z,C,p) I).take j)∧Blk wr D.heap.size 23 (sN (inV m (z,C,p) j).1 (inV m (z,C,p) j).2.1 (inV m (z,C,p) j).2.2)∧X.grownBy wr (some D.heap.size)) (fun _ i _=>G - (intOf i).toNat)
   case atStart=>exact ⟨0,zl _,rfl,Own.nil _ _ _ _ _,B5.o,World.grownBy.refl _ _⟩
   case round =>
    obtain ⟨j,hj,rfl,hO,b1,g8⟩:=hrel;obtain ⟨l,bs⟩:∃ x,x=wr:=⟨_,rfl⟩;subst bs;obtain ⟨RO,Y,G8⟩:=zh3 hO b1 g8;replace Z:=zA g8 Z;replace H:=zA g8 H;have z8:=g8.size;have x1:=b1.lt;clear hO b1 g8;by_cases bo:j < G
    ·have p2:(j:Int) < (G:Int):=oM;have gj:IntKind.i64.wrap ((j:Int)+1)=((j+1:Nat):Int):=(wJ).trans sM;obtain ⟨b,gb,ob,L,nl,cl,W,nw,cw,B,nb,cb,f,rfl,ba,rg,ah⟩:=Z.o.out.blk_at j bo;have BO:=zH (MO.o.blocks j oM).shapes;rw [aX f] at BO;obtain ⟨BC,RK,IV⟩:=zh3 (qK (cl:=I) BO.o) (bG _ _ _ (mQ (m:=m) (s:=(z,C,p)) (cl:=I) (show j < m.length by omega))) (show inV m (z,C,p) (j+1)=cQ (m.getD j eA) (inV m (z,C,p) j) from rfl);rw [aX f] at RK IV;have II:=zH (kX MO.o GS.o (k:=j) oM).in_;obtain ⟨⟨s1,s2,s3⟩,hs⟩:∃ x,inV m (z,C,p) j=x:=⟨_,rfl⟩;rw [hs] at BO BC RK IV II Y;have FB:=zH (FM.o b (mG f));obtain ⟨CB,AT,RG⟩:=zh3 (fun ww h=>qj b L nl cl W nw cw B nb cb (s1,s2,s3) I ww h II.o FB.o BO.o CL.o) (show dz b L nl cl W nw cw B nb cb (blo l) l from ah.keep (fun _ _=>rfl) (fun x hx=>Nat.lt_of_lt_of_le (show x < w.heap.size from hx) Z.o.le)) rg;obtain ⟨need,al⟩:∃ x,b.head.need=x:=⟨_,rfl⟩;obtain ⟨ex,ad⟩:∃ x,b.exit=x:=⟨_,rfl⟩;simp only [al,ad] at CB RG;obtain ⟨bc,R⟩:∃ x,dC b (s1,s2,s3) I=x:=⟨_,rfl⟩;obtain ⟨⟨t1,t2,t3⟩,ht⟩:∃ x,cQ b (s1,s2,s3)=x:=⟨_,rfl⟩;rw [ht] at IV;rw [R] at BC RK;simp only [R,ht] at CB;have cL:=H.o.2.cell 3;clear hs f ba rg ah al ad R ht
     go_upto_region 11 with fail
     go_cut [10,11,12] (fun a b c wx=>∃ g,a=.int .i64 bc∧b=.pointer (some ⟨g,0,none⟩)∧c=.int .i64 0∧Blk wx g 23 (sN t1 t2 t3)∧l.heap.size≤g∧Below l l wx)
     case first =>
      refine wp_region_held_drew (S:=fun w'=>w'.cell? ⟨w.heap.size,3,none⟩=some (.int .i64 I)∧Blk w' D.heap.size 23 (sN s1 s2 s3)∧Below l l w') kM ?_ (fun d=>?_)
      ·exact ⟨cL,Y.o.drew,(qB _ _).drew⟩
      refine kH' 0 d ?_;refine kH' 1 d ?_;refine kH' 2 d ?_;refine tkH 3 rfl (yieldsIf_load_mid (by rfl) 51 (.tmp 37) rfl gb (ob+j*5) rfl _ _ (fun w hs q v hv=>au hs.2.2 (RG.o q v hv)) underlying51 rfl kM) d ?_;try simp only [pX]
      refine tkH 4 rfl (yB 23 (.tmp 7) D (fun w hs=>hs.2.1) underlying23) d ?_;try simp only [pX]
      refine kH' 5 d ?_;refine kH' 6 d ?_;refine wpAnyH_ready (rs:=[7,12]) kM sM ?_;refine AllReadyH.cons rfl (fun K y=>?_) (AllReadyH.cons rfl (fun K y=>?_) AllReadyH.nil)
      ·go_simp;refine qM (CB.o _ (AT.o.fut d.2.2)) fun wa f=>?_;refine xK y (zR f d) fun d=>?_;clear y K;refine kH' 8 d ?_;refine kH' 9 d ?_;refine kH' 10 d ?_;refine kH' 11 d ?_;refine rH 12 rfl (fun K y=>?_);go_simp;have bd:D.heap.size < wa.heap.size:=d.2.1.lt;have br:l.heap.size≤wa.heap.size:=d.2.2.size;obtain ⟨f,BZ⟩:=zB wa (sN 0 0 0) 23;refine xK y (zR f d) fun d=>?_;clear y K;refine kH' 13 d ?_;refine rH 14 rfl (fun K y=>?_);rw [if_pos (by rfl)];refine oG (sN t1 t2 t3) BZ.o ?_;intro wc M P;refine y.out _ _ ⟨(World.cell?_of_block (P.block w.heap.size (by have:=d.2.1.lt;omega) (fun e=>by have:=sI e;omega))).trans d.1,d.2.1.away P oM,d.2.2.grown P d.2.2.size (fun k h=>by have:=sI h;omega)⟩ (fun d=>?_);clear y K;try simp only [pX]
       refine kH' 15 d ?_;refine wpAnyH_done kM ?_ _;have FZ:=d.2.2;go_wp2_with fail;go_meet
       case rel=>exact ⟨_,rfl,rfl,rfl,M,oM,FZ⟩
      ·go_simp;have bd:D.heap.size < l.heap.size:=d.2.1.lt;have br:l.heap.size≤l.heap.size:=d.2.2.size;have f:Below l.drew.heap.size l.drew (l.drew.alloc (.cells (sN 0 0 0) 23)):=(qB _ _).alloc (lR _) _;have BZ:=zH (Blk.now l.drew l.heap.size 23 (sN 0 0 0) rfl);refine xK y (zR f d) fun d=>?_;clear y K;refine rH 7 rfl (fun K y=>?_);go_simp;refine qM (CB.o _ (AT.o.fut d.2.2)) fun wa f=>?_;replace BZ:=zH (BZ.o.later f);refine xK y (zR f d) fun d=>?_;clear y K;refine kH' 8 d ?_;refine kH' 9 d ?_;refine kH' 10 d ?_;refine kH' 11 d ?_;refine kH' 13 d ?_;refine rH 14 rfl (fun K y=>?_);rw [if_pos (by rfl)];refine oG (sN t1 t2 t3) BZ.o ?_;intro wc M P;refine y.out _ _ ⟨(World.cell?_of_block (P.block w.heap.size (by have:=d.2.1.lt;omega) (fun e=>by have:=sI e;omega))).trans d.1,d.2.1.away P oM,d.2.2.grown P d.2.2.size (fun k h=>by have:=sI h;omega)⟩ (fun d=>?_);clear y K;try simp only [pX]
       refine kH' 15 d ?_;refine wpAnyH_done kM ?_ _;have FZ:=d.2.2;go_wp2_with fail;go_meet
       case rel=>exact ⟨_,rfl,rfl,rfl,M,oM,FZ⟩
     case rest =>
     obtain ⟨gt,rfl,rfl,rfl,M,bl,T⟩:=hcut;obtain ⟨GX,ay⟩:=zh2 T M;obtain ⟨ax,B2⟩:=zh2 (RO.o.below GX.o (lR _) (fun _ h=>h.elim)) (Y.o.fut GX.o);have zx:=T.size;have lx:=M.lt;clear M T cL CB
     go_wp2_with (first
      | (at_builtin;refine wpList_push (W:=wc) (cs:=#[.int .i64 bc]) (E:=3) (t:=ab .i64) (S:=fun _=>False) (base:=X.heap.size) rfl (.tmp 49) (.tmp 51) rfl iN rfl ax.o 1 rfl bc ⟨rfl,BC.o⟩ mL oM oM (fun _ h=>h.elim) ?_;intro v' wz F gz N;have OB:=zH (fun q e=>RO.o.lt q e);have BT:=zH (show Blk wz gt 23 (sN t1 t2 t3) from ⟨(gz.block gt lx (fun e=>by have:=(OB.o gt e.symm).2;omega)).trans ay.o.heap⟩);have B3:=zH (show Blk wz D.heap.size 23 (sN s1 s2 s3) from ⟨(gz.block D.heap.size B2.o.lt (fun e=>by have:=(OB.o D.heap.size e.symm).1;omega)).trans B2.o.heap⟩))
      | (refine lB 23 (.tmp 11) gt BT.o underlying23 ?_)
      | (refine sG (sN t1 t2 t3) B3.o ?_;intro bw be an))
     refine ⟨⟨j+1,by omega,by go_num,by rw [RK.o];exact F.flat an (.inr fun e=>by have:=(F.lt _ e).1;omega) (fun _ h=>h),by rw [IV.o];exact be,(je (G8.o.trans (bm GX.o)) gz (fun q e=>(OB.o q e).1)).trans an⟩,by simp [intOf];omega⟩
    ·obtain rfl:G=j:=oM;have p2:¬ (G:Int) < (G:Int):=oM;have RL:=zH (show (dW m (z,C,p) I).take G=dW m (z,C,p) I from List.take_of_length_le (by rw [jJ];omega));rw [RL.o] at RO;obtain ⟨Ar,cr,rfl,sr⟩:=RO.o.sl (S':=bin X l) dM (fun b Q h2=>⟨Q,h2⟩) (fun _ h=>h.elim);obtain ⟨SR,GO⟩:=zh2 sr (bm (r:=some D.heap.size) K5.o);have O2:=zH ((ON.o.kept (GO.o.trans G8.o) (by
      by_cases h:u4.ownBlock=none
      ·exact .inl h
      ·refine .inr fun e=>?_;have:=(ON.o.lt D.heap.size e).2
       omega) (fun b h=>⟨(SS.o b h).2.1,fun e=>by have:=(SS.o b h).2.1;have:=sI e;omega⟩)).more (S':=fun b=>S b ∨ (X.heap.size≤b∧b < l.heap.size)) (fun b h=>.inl h))
     have z6:=K5.o.size;have VB:=zH (fun q (e:u4.ownBlock=some q)=>ON.o.lt q e);have RP:=zH (show ∀ S',(∀ b,bin X l b → S' b) → fi.rep l S' [.slice Ar G cr] (dW m (z,C,p) I) from fun S' h=>by
      have e:=SR.o.n_eq;have q:=SR.o.more h;rw [← e] at q;rw [← e];exact aZ.2 ⟨_,_,rfl,q⟩)
     clear sr
     go_wp2_with (first
      | (at_builtin;refine wpList_push (W:=l) (cs:=#[.slice Ar G cr]) (E:=58) (t:=fi) (S:=fun b=>S b ∨ (X.heap.size≤b∧b < l.heap.size)) (base:=w1.heap.size) rfl (.tmp 54) (.tmp 56) rfl pV rfl O2.o 1 rfl (dW m (z,C,p) I) (RP.o _ (fun b h=>.inr h)) mL oM oM (fun b h=>?_) ?_;rotate_left;intro v' wz F gz N))
     ·have zz:=gz.size;refine ⟨⟨k+1,_,by omega,by go_num,by rw [TK.o];exact F,?_,?_⟩,by simp [intOf];omega⟩
      ·rintro b (h|h)
       ·have Q:=SS.o b h;refine ⟨Q.1,by omega,?_⟩;rcases N with e|e
        ·rw [e];exact Q.2.2
        ·rw [e];intro q;have:=sI q;omega
       ·refine ⟨by omega,by omega,fun q=>?_⟩;rcases N with e|e
        ·have:=VB.o b (e.symm.trans q.symm);omega
        ·rw [e] at q;have:=sI q;omega
      ·exact ((aa K5.o G1.o).grown G8.o oM (fun q e=>by have:=sI e;omega)).grown gz oM (fun q e=>(VB.o q e).1)
     ·rcases h with h|h
      ·have Q:=SS.o b h;exact ⟨by omega,Q.2.2⟩
      ·exact ⟨h.2,fun e=>by have:=VB.o b e.symm;omega⟩
  ·obtain rfl:n=k:=oM;have p1:¬ (n:Int) < (n:Int):=oM;have TT:=zH (show tb.take n=tb from List.take_of_length_le (by rw [TL.o];exact lR _));rw [TT.o] at ON;obtain ⟨Ar,cr,rfl,sr⟩:=ON.o.sl (S':=bin w D) dM (fun b Q h2=>⟨by omega,h2⟩) (fun b h=>⟨by have:=(SS.o b h).1;omega,(SS.o b h).2.1⟩);have cA:=fun i=>H.o.2.cell i;go_wp2_with fail
   go_ret2
   exact ⟨Ar,n,cr,rfl,sr,H.o.1.out⟩
abbrev wM:Array Value:=(nN 9 0 0 0 0 0 0 0 0 none 0 0 none 0 0 0 0 0 0 0 0 0 0)
end Go.Proofs.YtbecbfpoahhpnaaGreat
