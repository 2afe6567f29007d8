/- A bundle's net (layer 36), where the bundle may be: walk.New. -/
import Derived.Test.YtbecbfpoahhpnaaGreatJ39
import Derived.Test.YtbecbfpoahhpnaaGreatJ38
set_option linter.unusedVariables false
set_option linter.unusedSimpArgs false
set_option maxRecDepth 100000
set_option maxHeartbeats 16000000
namespace Go.Proofs.YtbecbfpoahhpnaaGreat
open Go.RowKit Go.ChangeShapes Go.WideShapes Tryz
def kt:Ty (List Sh3):=tSlice dg
theorem CV:EI prog 90 95 (.slice none 0 0) 1 24:=⟨underlying90,by kernel_rfl,rfl,by decide⟩
structure Ej (u:Bun) (S:Nat → Prop) (g:Nat) (w:World):Prop where
 out:∃ A n cap B cb C cc,Blk w g 99 #[.int .i64 u.h,.int .i64 u.v,.int .i64 u.c,.int .i64 u.cl,.slice A n cap,.slice B n cb,.slice C n cc]∧Sl bJ w S A n cap u.models∧Sl fi w S B n cb (aO u)∧Sl kt w S C n cc (fT u)
theorem yW (u:Bun) (A:QA) (n J:Nat) (w:World) (hu:Sl bJ w (blo w) A n J u.models) (hi:inU u) (hf:iw u) (X:(cP u).1=0) :
  Calls prog 9 #[.agg #[.int .i64 u.h,.int .i64 u.v,.int .i64 u.c,.int .i64 u.cl,.slice A n J]] w fun e w'=>∃ g,e=.returned (.tuple #[.pointer (some ⟨g,0,none⟩),.int .i64 0])∧w.heap.size≤g∧Ej u (bin w w') g w'∧Below w w w':=by
 have ok:=wA X;have N:∀ m ∈ u.models,1≤m.length∧∀ b ∈ m,1≤b.nodes.length:=fun m O=>by
  obtain ⟨k,hk⟩:=List.getElem?_of_mem O;have mo:=ok.model hk;refine ⟨mo.one,fun b d=>?_⟩;obtain ⟨j,hj⟩:=List.getElem?_of_mem d;have:=(mo.blocks j (List.getElem?_eq_some_iff.1 hj).1).shapes;rw [aX hj] at this;exact (ie this).1
 have n3:n≤3:=by have:=ok.three;rw [hu.n_eq] at this;exact this
 have n1:1≤n:=by have:=ok.one;rw [hu.n_eq] at this;exact this
 obtain ⟨T,BC,CT,HU,FU,OK,GS,IA⟩:=zh8 (fun w h=>vL u A n J w h hi hf) (fun w h=>pP u A n J w h hf n1 N) (fun w h=>rL u A n J w h hf ok) (Old.now hu) (fun m O=>hf.2 m O) (fun k m O=>ok.model (k:=k) (m:=m) O) ok.good (fun k m O=>p9 (u:=u) (k:=k) (m:=m) O);obtain ⟨IL,TL⟩:=zh2 (show (fT u).length=n by unfold fT;rw [List.length_map,hu.n_eq]) (show (aO u).length=n by unfold aO;rw [List.length_map,hu.n_eq]);have r:cP u=(0,0,0,0):=by
  have hw:eG u=0:=by
   unfold cP at X;split at X
   ·rename_i c;exact absurd X c
   ·rename_i c;exact Decidable.not_not.1 c
  unfold cP at X ⊢;rw [if_neg (by simpa using hw)] at X ⊢;exact mi X
 simp only [r] at T;obtain ⟨D,hh⟩:∃ x,u.h=x:=⟨_,rfl⟩;obtain ⟨F,hv⟩:∃ x,u.v=x:=⟨_,rfl⟩;obtain ⟨C,hc⟩:∃ x,u.c=x:=⟨_,rfl⟩;obtain ⟨l0,hl⟩:∃ x,u.cl=x:=⟨_,rfl⟩;have HE:=zH (And.intro hh (And.intro hv (And.intro hc hl)));unfold x7 at BC;unfold sU at CT;rw [hh,hv,hc,hl];simp only [hh,hv,hc,hl] at T BC CT OK GS IA;clear r hh hv hc hl hu hi hf X N ok;have H:=zW w;obtain ⟨w1,bH,B1,k1⟩:=nB w #[.int .i64 D,.int .i64 F,.int .i64 C,.int .i64 l0,.slice A n J] 26;replace H:=zN k1 H B1;clear B1 k1;go_in
 go_wp2_with (refine lG H.o.2 ?_)
 refine qM (T.o _ (HU.o.fut H.o.1.out).all) fun w3 d=>?_;replace H:=zF d H;clear d T bH
 go_wp2_with (first
  | (refine sF 87 (.tmp 4) (.tmp 16) #[.int .i64 0,.int .i64 0,.int .i64 0,.int .i64 0] ?_;intro w5 b5 k5;replace H:=zF k5 H;have cB:=fun i=>b5.out.cell i)
  | (refine lG H.o.2 ?_))
 have z5:=H.o.2.lt;refine (BC.o _ (HU.o.fut H.o.1.out).all).mono ?_;rintro e Y ⟨U,f,rfl,q2,d⟩;replace H:=zF d H;have Q2:=zH q2;have z6:=d.size;clear d BC cB b5 q2
 go_wp2_with (first
  | (refine sF 92 (.tmp 5) (.tmp 24) #[.int .i64 D,.int .i64 F,.int .i64 C,.int .i64 l0,.slice U n f,.slice none 0 0,.slice none 0 0] ?_;intro w7 b7 k7;replace H:=zN k7 H b7;have K7:=zH k7;clear b7 k7)
  | (refine lG H.o.1.2 ?_))
 refine (CT.o _ (HU.o.fut H.o.1.1.out).all).mono ?_;rintro e w8 ⟨V,z,y,rfl,q3,d⟩;obtain rfl:z=n:=by rw [← q3.n_eq];exact TL.o
 have N2:=zH (show Sl bJ w8 (fun x=>w.heap.size≤x∧x < w8.heap.size∧x ≠ Y.heap.size) U z f u.models from (Q2.o.keep fun x r=>(aa d K7.o).block x r.2).more fun x r=>⟨by have:=r.1;omega,by have:=r.2;have:=(aa d K7.o).size;omega,by have:=r.2;omega⟩);have z7:=H.o.2.lt;have N3:=zH (show Sl fi w8 (fun x=>w.heap.size≤x∧x < w8.heap.size∧x ≠ Y.heap.size) V z y (aO u) from q3.more fun x r=>⟨by have:=r.1;omega,r.2,by have:=r.1;omega⟩);replace H:=zF d H;have z8:=d.size;clear d CT q3 Q2 K7
 go_wp2_with (first
  | (refine wpList_store_one rfl _ (.tmp 34) (.tmp 33) rfl Y.heap.size 5 (.slice V z y) rfl rfl rfl rfl _ _ #[.int .i64 D,.int .i64 F,.int .i64 C,.int .i64 l0,.slice U z f,.slice V z y,.slice none 0 0] H.o.2 sM kM rfl ?_;intro w9 b9 g9;replace H:=zS g9 b9 H;have G9:=zH g9;clear b9 g9;have cA:=fun i=>H.o.1.2.cell i))
 have H2:=H;have z9:=G9.o.size;clear H cA;go_loopw [38] (fun i wr=>∃ (k:Nat) (S:Nat → Prop) (v:Value),k≤z∧i=.int .i64 k∧Own kt wr S w9.heap.size 95 v k ((fT u).take k)∧(∀ b,S b → w9.heap.size≤b∧b < wr.heap.size∧some b ≠ v.ownBlock)∧Blk wr Y.heap.size 92 #[.int .i64 D,.int .i64 F,.int .i64 C,.int .i64 l0,.slice U z f,.slice V z y,v]∧w9.grownBy wr (some Y.heap.size)) (fun i _=>z - (intOf i).toNat)
 case atStart=>exact ⟨0,fun _=>False,_,zl _,rfl,Own.nil _ _ _ _ _,fun _ h=>h.elim,H2.o.2,World.grownBy.refl _ _⟩
 case round =>
  obtain ⟨k,S,v,hk,rfl,hO,a,hB,hG⟩:=hrel;obtain ⟨wo,bD⟩:∃ x,x=wr:=⟨_,rfl⟩;subst bD;have H:=zA hG (zH H2.o.1);obtain ⟨ON,SS,BK,GG⟩:=zh4 hO a hB hG;have zo:=hG.size;clear hO a hB hG;by_cases bA:k < z
  ·have p1:(k:Int) < (z:Int):=oM;have gk:IntKind.i64.wrap ((k:Int)+1)=((k+1:Nat):Int):=(wJ).trans sM;obtain ⟨m,ga,oa,A',M,c',O,rfl,bg,bs,hA⟩:=(HU.o.fut H.o.1.out).out.model_at k bA;obtain ⟨MO,TK⟩:=zh2 (OK.o k m O) (bG _ _ _ (IA.o k m O));have FM:=zH (FU.o m (mG O)).2;have LM:=hA.n_eq;have m6:M≤6:=by have:=MO.o.six;omega
   obtain ⟨HA,RG⟩:=zh2 (show Old w eQ wo A' M c' m from ⟨hA,H.o.1.size⟩) (qZ bs);have HX:=zW wo;have T1:(gJ m (D,F,C)).take 1=[(D,F,C)]:=by rw [bG _ 0 _ (mI (zl _))];rfl
   clear O bg bs hA;have cA:=fun i=>H.o.2.cell i
   go_wp2_with (first
    | (refine lM 54 (.tmp 40) RG.o underlying54 ?_)
    | (refine sF 54 (.tmp 9) (.tmp 41) #[.slice A' M c'] ?_;intro p bt bd;replace HX:=zN bd HX bt;obtain ⟨H,HA⟩:=uz2 bd H HA;clear cA bt)
    | (refine lM 23 (.tmp 42) (aq (off:=0) (vs:=[.int .i64 D,.int .i64 F,.int .i64 C]) H.o.2 rfl) underlying23 ?_)
    | (refine cJ rfl (.tmp 43) rfl eW (sN D F C) rfl rfl dM ?_;have ay:Below p p (p.alloc (.cells (sN D F C) 23)):=(qB _ _).alloc (lR _) _;have cB:=(zF ay HX).out.2.cell 0))
   have bR:=HX.o.1.size;have zw:=HX.o.2.lt;go_loopw [10,48] (fun rv i wr=>∃ j:Nat,j≤M∧i=.int .i64 j∧Own dg wr (fun _=>False) p.heap.size 23 rv (j+1) ((gJ m (D,F,C)).take (j+1))∧Below p p wr) (fun _ i _=>M - (intOf i).toNat)
   case atStart=>exact ⟨0,zl _,rfl,by rw [T1];exact Own.one (lR _) GS.o.rep,ay⟩
   case round =>
    obtain ⟨j,hj,rfl,hO,Q⟩:=hrel;obtain ⟨P,bB⟩:∃ x,x=wr:=⟨_,rfl⟩;subst bB;obtain ⟨RO,GI⟩:=zh2 hO Q;obtain ⟨HA,H⟩:=uz2 Q HA H;have bN:=zF Q HX;have zi:=Q.size;clear hO Q cB ay;by_cases bz:j < M
    ·have p2:(j:Int) < (M:Int):=oM;have gj:IntKind.i64.wrap ((j:Int)+1)=((j+1:Nat):Int):=(wJ).trans sM;obtain ⟨b,gb,ob,L,nl,cl,W,nw,cw,B,nb,cb,d,rfl,bx,rg,bo⟩:=HA.o.out.blk_at j bz;have BO:=zH (MO.o.blocks j oM).shapes;rw [aX d] at BO;obtain ⟨RK,IV⟩:=zh2 (bG _ _ _ (mI (m:=m) (s:=(D,F,C)) (k:=j+1) oM)) (show inV m (D,F,C) (j+1)=cQ (m.getD j eA) (inV m (D,F,C) j) from rfl);rw [aX d] at IV;have II:=zH (kX MO.o GS.o (k:=j) oM).in_;have GT:=zH (kX MO.o GS.o (k:=j+1) oM);obtain ⟨A1,c1,rfl,sl⟩:=RO.o.sl (S':=bin p P) dM (fun b N h2=>⟨N,h2⟩) (fun _ h=>h.elim);have e2:((gJ m (D,F,C)).take (j+1)).getD j (0,0,0)=inV m (D,F,C) j:=aX (by rw [List.getElem?_take,if_pos oM];exact mI oM);obtain ⟨gl,ol,rfl,-,-,ad,al,ac,-,r3⟩:=sl.shape_at j oM;rw [e2] at ad al ac r3;obtain ⟨⟨s1,s2,s3⟩,hs⟩:∃ x,inV m (D,F,C) j=x:=⟨_,rfl⟩;rw [hs] at BO IV II ad al ac r3;have FB:=zH (FM.o b (mG d));have CO:=zH (fun ww h=>mV b L nl cl W nw cw B nb cb (s1,s2,s3) ww h II.o FB.o BO.o);obtain ⟨⟨t1,t2,t3⟩,ht⟩:∃ x,cQ b (s1,s2,s3)=x:=⟨_,rfl⟩;rw [ht] at IV;rw [IV.o] at RK GT;simp only [ht] at CO;have RG:=zH rg;obtain ⟨need,br⟩:∃ x,b.head.need=x:=⟨_,rfl⟩;obtain ⟨ex,bh⟩:∃ x,b.exit=x:=⟨_,rfl⟩;simp only [br,bh] at CO RG;obtain ⟨bl,R3,HW⟩:=zh3 bo r3 HA.o.le;have HY:=zW P;clear hs d bx rg bo br bh ht sl e2 r3 ad al ac
     go_upto_region 16 with (first
      | (refine lM 51 (.tmp 51) RG.o underlying51 ?_)
      | (refine sF 51 (.tmp 12) (.tmp 52) #[.slice L nl cl,.bool ex,.slice W nw cw,.slice B nb cb,.int .i32 need] ?_;intro l ba R;replace HY:=zN R HY ba;clear ba))
     obtain ⟨RS,AT⟩:=zh2 (de R3.o R) (bl.o.keep (S':=blo l) (fun x r=>R.block x (Nat.lt_of_lt_of_le (show x < w.heap.size from r) HW.o)) (fun x r=>Nat.lt_of_lt_of_le (Nat.lt_of_lt_of_le (show x < w.heap.size from r) HW.o) R.size));try simp only [pX]
     go_cut [13,14] (fun b c wx=>∃ g,b=.pointer (some ⟨g,0,none⟩)∧c=.int .i64 0∧Blk wx g 23 (sN t1 t2 t3)∧Below l l wx)
     case first =>
      refine wp_region_held_drew (S:=fun w'=>Blk w' P.heap.size 51 #[.slice L nl cl,.bool ex,.slice W nw cw,.slice B nb cb,.int .i32 need]∧Below l l w') kM ?_ (fun a=>?_)
      ·exact ⟨HY.o.2.drew,(qB _ _).drew⟩
      refine tkH 0 rfl (yB 51 (.tmp 12) P (fun w hs=>hs.1) underlying51) a ?_;try simp only [pX]
      refine kH' 1 a ?_;refine kH' 2 a ?_;refine tkH 3 rfl (v:=?_) (Or.inl ⟨by rfl,?_⟩) a ?_;rotate_left
      ·intro w bb;(try dsimp only at bb);go_simp;rw [if_pos oM]
      try simp only [pX]
      refine tkH 4 rfl (yieldsIf_load_mid (by rfl) 23 (.tmp 57) rfl gl (ol+j*3) rfl _ _ (fun w hs q v hv=>au hs.2 (RS.o q v hv)) underlying23 rfl kM) a ?_;try simp only [pX]
      refine wpAnyH_ready (rs:=[5,9]) kM sM ?_;refine AllReadyH.cons rfl (fun K G=>?_) (AllReadyH.cons rfl (fun K G=>?_) AllReadyH.nil)
      ·go_simp;refine qM (CO.o _ (AT.o.fut a.2)) fun wa d=>?_;refine xK G (zR d a) fun a=>?_;clear G K;refine kH' 6 a ?_;refine kH' 7 a ?_;refine kH' 8 a ?_;refine rH 9 rfl (fun K G=>?_);go_simp;have bM:P.heap.size < wa.heap.size:=a.1.lt;obtain ⟨d,BZ⟩:=zB wa (sN 0 0 0) 23;have zy:l.heap.size≤wa.heap.size:=a.2.size;refine xK G (zR d a) fun a=>?_;clear G K;refine rH 10 rfl (fun K G=>?_);rw [if_pos (by rfl)];refine oG (sN t1 t2 t3) BZ.o ?_;intro wc BX gc;refine G.out _ _ ⟨a.1.away gc oM,a.2.grown gc a.2.size (fun k h=>by have:=sI h;omega)⟩ (fun a=>?_);clear G K;try simp only [pX]
       refine kH' 11 a ?_;refine wpAnyH_done kM ?_ _;have FZ:=a.2;go_wp2_with fail;go_meet
       case rel=>exact ⟨_,rfl,rfl,BX,FZ⟩
      ·go_simp;have bM:P.heap.size < l.heap.size:=a.1.lt;have d:Below l.drew.heap.size l.drew (l.drew.alloc (.cells (sN 0 0 0) 23)):=(qB _ _).alloc (lR _) _;have BZ:=zH (Blk.now l.drew l.heap.size 23 (sN 0 0 0) rfl);have zy:l.heap.size≤l.heap.size:=a.2.size;refine xK G (zR d a) fun a=>?_;clear G K;refine rH 5 rfl (fun K G=>?_);go_simp;refine qM (CO.o _ (AT.o.fut a.2)) fun wa d=>?_;replace BZ:=zH (BZ.o.later d);refine xK G (zR d a) fun a=>?_;clear G K;refine kH' 6 a ?_;refine kH' 7 a ?_;refine kH' 8 a ?_;refine rH 10 rfl (fun K G=>?_);rw [if_pos (by rfl)];refine oG (sN t1 t2 t3) BZ.o ?_;intro wc BX gc;refine G.out _ _ ⟨a.1.away gc oM,a.2.grown gc a.2.size (fun k h=>by have:=sI h;omega)⟩ (fun a=>?_);clear G K;try simp only [pX]
       refine kH' 11 a ?_;refine wpAnyH_done kM ?_ _;have FZ:=a.2;go_wp2_with fail;go_meet
       case rel=>exact ⟨_,rfl,rfl,BX,FZ⟩
     case rest =>
      obtain ⟨gq,rfl,rfl,BX,bn⟩:=hcut;obtain ⟨GX,bw⟩:=zh2 (aa bn R) BX;have be:=zH (RO.o.below GX.o (lR _) (fun _ h=>h.elim));have zc:=GX.o.size;clear BX bn
      go_wp2_with (first
       | (refine lB 23 (.tmp 13) gq bw.o underlying23 ?_)
       | (refine cJ rfl (.tmp 66) rfl eW (sN t1 t2 t3) rfl rfl dM ?_)
       | (at_builtin;refine wpList_push (W:=wc) (cs:=(sN t1 t2 t3)) (E:=23) (t:=dg) (S:=fun _=>False) (base:=p.heap.size) rfl (.tmp 65) (.tmp 67) rfl eW rfl be.o 1 rfl (t1,t2,t3) GT.o.rep mL oM oM (fun _ h=>h.elim) ?_;intro v' wz I gz an))
      exact ⟨⟨j+1,by omega,by go_num,by rw [RK.o];exact I,(aa GX.o GI.o).grown gz oM (fun q e=>(be.o.lt q e).1)⟩,by simp [intOf];omega⟩
    ·obtain rfl:M=j:=oM;have p2:¬ (M:Int) < (M:Int):=oM;have RL:=zH (show (gJ m (D,F,C)).take (M+1)=gJ m (D,F,C) from List.take_of_length_le (by unfold gJ;rw [List.length_map,List.length_range];omega));rw [RL.o] at RO;obtain ⟨Ar,cr,rfl,sr⟩:=RO.o.sl (S':=bin p P) dM (fun b N h2=>⟨N,h2⟩) (fun _ h=>h.elim);obtain ⟨SR,GO,T⟩:=zh3 sr (aa GI.o HX.o.1.out) (fun q (e:v.ownBlock=some q)=>ON.o.lt q e);obtain ⟨O2,Z⟩:=zh2 ((ON.o.below GO.o (lR _) (fun b h=>(SS.o b h).2.1)).more (S':=fun b=>S b ∨ (p.heap.size≤b∧b < P.heap.size)) (fun b h=>.inl h)) (BK.o.fut GO.o);have RP:=zH (show ∀ S',(∀ b,bin p P b → S' b) → kt.rep P S' [.slice Ar (M+1) cr] (gJ m (D,F,C)) from fun S' h=>by
      have e:=SR.o.n_eq;have q:=SR.o.more h;rw [← e] at q;rw [← e];exact aZ.2 ⟨_,_,rfl,q⟩)
     have cK:=Z.o.cell 6;clear sr
     go_wp2_with (first
      | (at_builtin;refine wpList_push (W:=P) (cs:=#[.slice Ar (M+1) cr]) (E:=95) (t:=kt) (S:=fun b=>S b ∨ (p.heap.size≤b∧b < P.heap.size)) (base:=w9.heap.size) rfl (.tmp 71) (.tmp 73) rfl CV rfl O2.o 1 rfl (gJ m (D,F,C)) (RP.o _ (fun b h=>.inr h)) mL oM oM (fun b h=>?_) ?_;rotate_left;intro v' wz I gz an;obtain ⟨Av,cv,rfl,-⟩:=I.sl (S':=fun _=>True) dM (fun _ _ _=>trivial) (fun _ _=>trivial);have bc:=zH (show Blk wz Y.heap.size 92 #[.int .i64 D,.int .i64 F,.int .i64 C,.int .i64 l0,.slice U z f,.slice V z y,v] from ⟨(gz.block Y.heap.size Z.o.lt (fun e=>by have:=(T.o _ e.symm).1;omega)).trans Z.o.heap⟩))
      | (refine wpList_store_one rfl _ (.tmp 75) (.tmp 74) rfl Y.heap.size 6 (.slice Av (k+1) cv) rfl rfl rfl rfl _ _ #[.int .i64 D,.int .i64 F,.int .i64 C,.int .i64 l0,.slice U z f,.slice V z y,.slice Av (k+1) cv] bc.o sM kM rfl ?_;intro bO bp ah))
     ·have zz:=gz.size;have bT:=ah.size;have ax:=I.kept ah (.inr fun e=>by have:=(I.lt _ e).1;omega) (fun b h=>by
       have d:w9.heap.size≤b∧b < wz.heap.size:=by
        rcases h with h|h
        ·have:=SS.o b h;omega
        ·omega
       exact ⟨d.2,fun e=>by have:=sI e;omega⟩)
      refine ⟨⟨k+1,_,_,by omega,by go_num,by rw [TK.o];exact ax,?_,bp,(je (GG.o.trans (bm GO.o)) gz (fun q e=>(T.o q e).1)).trans ah⟩,by simp [intOf];omega⟩
      ·rintro b (h|h)
       ·have N:=SS.o b h;refine ⟨N.1,by omega,?_⟩;rcases an with e|e
        ·rw [e];exact N.2.2
        ·rw [e];intro q;have:=sI q;omega
       ·refine ⟨by omega,by omega,fun q=>?_⟩;rcases an with e|e
        ·have:=T.o b (e.symm.trans q.symm);omega
        ·rw [e] at q;have:=sI q;omega
     ·rcases h with h|h
      ·have N:=SS.o b h;exact ⟨by omega,N.2.2⟩
      ·exact ⟨h.2,fun e=>by have:=T.o b e.symm;omega⟩
  ·obtain rfl:z=k:=oM;have p1:¬ (z:Int) < (z:Int):=oM;have TT:=zH (show (fT u).take z=fT u from List.take_of_length_le (by rw [IL.o];exact lR _));rw [TT.o] at ON;obtain ⟨Av,cv,rfl,sv⟩:=ON.o.sl (S':=bin w wo) dM (fun b N h2=>⟨by omega,h2⟩) (fun b h=>⟨by have:=(SS.o b h).1;omega,(SS.o b h).2.1⟩);have SV:=zH sv;clear sv
   go_wp2_with (refine lG BK.o ?_)
   go_ret2
   have GA:=zH (G9.o.trans GG.o);have kz:Below wo wo (wo.alloc (.cells #[.int .i64 D,.int .i64 F,.int .i64 C,.int .i64 l0,.slice U z f,.slice V z y,.slice Av z cv] 99)):=(qB _ _).alloc (lR _) _;refine ⟨wo.heap.size,rfl,H.o.1.size,⟨U,z,f,V,y,Av,cv,?_,?_,?_,?_⟩,aa kz H.o.1.out⟩
   ·rw [HE.o.1,HE.o.2.1,HE.o.2.2.1,HE.o.2.2.2];exact Blk.now _ _ _ _ rfl
   ·exact (N2.o.keep fun x r=>(kz.block x (Nat.lt_of_lt_of_le r.2.1 GA.o.size)).trans (GA.o.block x r.2.1 fun e=>r.2.2 (sI e))).more fun x r=>⟨r.1,Nat.lt_of_lt_of_le r.2.1 (lT GA.o.size kz.size)⟩
   ·exact (N3.o.keep fun x r=>(kz.block x (Nat.lt_of_lt_of_le r.2.1 GA.o.size)).trans (GA.o.block x r.2.1 fun e=>r.2.2 (sI e))).more fun x r=>⟨r.1,Nat.lt_of_lt_of_le r.2.1 (lT GA.o.size kz.size)⟩
   ·exact (SV.o.below kz fun x r=>r.2).more fun x r=>⟨r.1,Nat.lt_of_lt_of_le r.2 kz.size⟩
theorem tT (w:World):Calls prog 50 #[.pointer none] w fun e w'=>e=.returned (.slice none 0 0)∧w'=w:=by
 go_in;go_wp2;go_ret;exact ⟨rfl,rfl⟩
theorem tS (g:Nat) (cs:Array Value) (B:QA) (n cb:Nat) (C:List (List Int)) (w:World) (Q:Blk w g 99 cs) (Z:cs[5]?=some (.slice B n cb)) (ht:Sl fi w (blo w) B n cb C) (hn:n≤100) (L:∀ r ∈ C,r.length≤100) :
  Calls prog 50 #[.pointer (some ⟨g,0,none⟩)] w (RetSl fi w C):=by
 obtain ⟨H,TN,HT,HR,C5⟩:=zh5 (And.intro (Far.refl w) Q) ht.n_eq (Old.now ht) L Z;have E:=(Q.cell 5).trans Z;have hg:=Q.lt;clear Q Z ht L;go_in
 go_wp2_with (at_make;refine wpList_make (t:=fi) (S:=fun _=>False) (base:=w.heap.size) rfl _ _ rfl pV .i64 .i64 _ _ n rfl rfl rfl rfl oM mL (lR _) [] (aZ.2 ⟨none,0,rfl,Sl.nil _ _ _⟩) (fun _ h=>h.elim) ?_;intro N z a;have cz:=(a.block g hg sM);have X:N.cell? ⟨g,5,none⟩=some (.slice B n cb):=(World.cell?_of_block cz).trans E)
 have ad:=z.toB (Nat.le_of_ble_eq_true rfl);rcases ad with ⟨q,-,-⟩|⟨g2,ay,F,q,an,m⟩
 ·cases q
 simp only [Value.slice.injEq,Option.some.injEq,Addr.mk.injEq,true_and,and_true] at q;obtain ⟨rfl,rfl⟩:=q;have k1:Below w w N:=⟨a.os,a.tape,a.output,a.size,fun i hi=>a.block i hi sM⟩;have z1:w.heap.size < N.heap.size:=m.blk.lt;have H2:=zF k1 H;clear H cz E X z a an;go_loopw [21] (fun i wr=>∃ (k:Nat) (S:Nat → Nat → Prop) (s:Array Value),k≤n∧i=.int .i64 k∧dY fi wr S w.heap.size 58 n n (C.take k ++ List.replicate (n - k) []) s∧(∀ j x,j < n → S j x → N.heap.size≤x∧x < wr.heap.size)∧N.grownBy wr (some w.heap.size)) (fun i _=>n - (intOf i).toNat)
 case atStart=>exact ⟨0,_,F,zl _,rfl,m,fun _ _ _ h=>h.elim,World.grownBy.refl _ _⟩
 case round =>
  clear m;obtain ⟨k,S,s,hk,rfl,hO,hS,P⟩:=hrel;obtain ⟨y,al⟩:∃ x,x=wr:=⟨_,rfl⟩;subst al;obtain ⟨m,D,GG⟩:=zh3 hO hS P;have H:=zA P H2;have zo:=P.size;clear hO hS P;by_cases K:k < n
  ·have p1:(k:Int) < (n:Int):=oM;have gk:IntKind.i64.wrap ((k:Int)+1)=((k+1:Nat):Int):=(wJ).trans sM;obtain ⟨r,gr,off,v,A,hA,ah,-,L,hc⟩:=(HT.o.fut H.o.1.out).out.cell1 rfl k K;obtain ⟨A',c',e,d⟩:=aZ.1 L;simp only [List.cons.injEq,and_true] at e;subst e hA;have r6:=HR.o r (mG A);have TK:=zH (bG _ _ _ A);have s0:=d.more (dV H.o.1.size);have V:=zH (And.intro m.o.size (And.intro m.o.le m.o.blk));rw [qw,Nat.mul_one] at V;have f0:k < s.size:=by rw [V.o.1];omega
   clear L d ah
   go_wp2_with (first
    | (at_builtin;refine fu (W:=y) (base:=y.heap.size) rfl _ _ rfl iN rfl (Own.nil (ab .i64) y (fun _=>False) y.heap.size 3) rfl s0 mL oM (lR _) ?_;intro v' R o5 p a5;rw [Nat.zero_add,List.nil_append] at o5;have p:y.grownBy R none:=p;obtain ⟨T,E,rfl,ac⟩:=o5.sl (S':=bin y R) dM (fun b h1 Y=>⟨h1,Y⟩) (fun _ h=>h.elim);have k5:Below y y R:=⟨p.os,p.tape,p.output,p.size,fun i hi=>p.block i hi sM⟩;have U:=zH (V.o.2.2.fut k5);obtain ⟨l,I⟩:∃ c:Array Value,c.toList=s.toList.take k ++ [.slice T r.length E] ++ s.toList.drop (k+1):=⟨_,List.toList_toArray⟩)
    | (refine wpList_store_one rfl _ (.tmp 30) (.tmp 29) rfl w.heap.size k (.slice T r.length E) rfl rfl rfl rfl _ s l U.o f0 kM I ?_;intro w6 b6 O))
   have z5:=p.size;have z6:=O.size;have C1:=zH I;have G:dY fi w6 (fun j x=>(j ≠ k∧S j x) ∨ (j=k∧y.heap.size≤x∧x < w6.heap.size)) w.heap.size 58 n n ((C.take k ++ List.replicate (n - k) []).set k r) l:=by
    refine dY.put (w:=R) (o:=0) (ps:=[.slice T r.length E]) (m.o.fut k5 fun j x f d=>(D.o j x f d).2) K O b6 (by rw [C1.o,qw,Nat.mul_one];rfl) (Nat.le_of_ble_eq_true rfl) (fun j x f J d=>⟨.inl ⟨J,d⟩,Nat.lt_of_lt_of_le (D.o j x f d).2 z5,by have:=(D.o j x f d).1;omega⟩) ?_;rw [qw,List.take_zero,List.nil_append,List.drop_of_length_le (by rw [List.length_take];exact Nat.min_le_left _ _),List.append_nil];exact aZ.2 ⟨_,_,rfl,(ac.keep fun x A=>O.block x A.2 fun e=>by have:=sI e;have:=A.1;omega).more fun x A=>.inr ⟨rfl,A.1,Nat.lt_of_lt_of_le A.2 z6⟩⟩
   have M:(C.take k ++ List.replicate (n - k) ([]:List Int)).set k r=C.take (k+1) ++ List.replicate (n - (k+1)) []:=by
    have hl:(C.take k).length=k:=by rw [List.length_take,TN.o];omega
    rw [TK.o,List.set_append_right _ _ oM,hl,Nat.sub_self,show n - k=(n - (k+1))+1 by omega,List.replicate_succ,List.set_cons_zero,List.append_assoc];rfl
   rw [M] at G;refine ⟨⟨k+1,_,l,by omega,by go_num,G,?_,(GG.o.trans (bm k5)).trans O⟩,by simp [intOf];omega⟩
   ·rintro j x f (⟨J,d⟩|⟨rfl,h1,Y⟩)
    ·have:=D.o j x f d;exact ⟨this.1,by omega⟩
    ·exact ⟨by omega,Y⟩
  ·obtain rfl:n=k:=oM;have p1:¬ (n:Int) < (n:Int):=oM;rw [Nat.sub_self,List.replicate_zero,List.append_nil,List.take_of_length_le (by rw [TN.o];exact lR _)] at m;go_wp2;go_ret;exact ⟨some ⟨w.heap.size,0,none⟩,n,n,rfl,m.o.sl ⟨lR _,by omega⟩ fun j x f d=>⟨by have:=(D.o j x f d).1;omega,(D.o j x f d).2⟩,H.o.1.out⟩
def eZ {α:Type} (l:List (List α)):Nat:=(l.map List.length).sum
theorem jT {α:Type} {l:List (List α)} {k:Nat} {r:List α} (h:l[k]?=some r):eZ (l.take (k+1))=eZ (l.take k)+r.length:=by
 unfold eZ;rw [bG _ _ _ h,List.map_append,List.sum_append];simp
theorem qc {α:Type} {l:List (List α)} {c:Nat} (h:∀ r ∈ l,r.length≤c):∀ k,eZ (l.take k)≤k*c
 | 0=>by simp [eZ]
 | k+1=>by
  have e:=qc h k;rw [Nat.add_mul,Nat.one_mul];cases q:l[k]? with
  | none =>
   have:=List.getElem?_eq_none_iff.1 q;rw [List.take_of_length_le oM] at e ⊢;omega
  | some r =>
   rw [jT q];have:=h r (mG q);omega
theorem lW (g:Nat) (cs:Array Value) (B:QA) (n cb:Nat) (t:List (List Int)) (w:World) (a:Blk w g 99 cs) (z:cs[5]?=some (.slice B n cb)) (d:Sl fi w (blo w) B n cb t) (N:n≤100) (s:∀ r ∈ t,r.length≤100) :
  Calls prog 28 #[.pointer (some ⟨g,0,none⟩)] w fun e w'=>e=.returned (.int .i64 (eZ t:Nat))∧Below w w w':=by
 obtain ⟨j,H,D,G,I,x⟩:=zh6 (fun w a d=>tS g cs B n cb t w a z d N s) (Old.now d) a s (qc s) d.n_eq;clear a z d s;go_in;go_wp2_with fail;refine (j.o _ D.o H.o.out).mono ?_;rintro e C ⟨A,m,c,rfl,q,a⟩;have F:=zH (Old.now q.old);have b:=q.n_eq;have E:=zH a;obtain rfl:m=n:=by rw [← b,x.o]
 clear a q b j;go_wp2;go_loopw [3,9] (fun P i wr=>∃ k:Nat,k≤m∧i=.int .i64 k∧P=.int .i64 (eZ (t.take k):Nat)∧Below C C wr) (fun _ i _=>m - (intOf i).toNat)
 case atStart=>exact ⟨0,zl _,rfl,rfl,qB _ _⟩
 case round =>
  obtain ⟨k,M,rfl,rfl,h⟩:=hrel;have l:=zH h;clear h;by_cases y:k < m
  ·have Q:(k:Int) < (m:Int):=oM;have gk:IntKind.i64.wrap ((k:Int)+1)=((k+1:Nat):Int):=(wJ).trans sM;obtain ⟨r,T,off,v,p,L,f,-,s,V⟩:=(F.o.fut l.o).out.cell1 rfl k y;obtain ⟨R,S,e,O⟩:=aZ.1 s;simp only [List.cons.injEq,and_true] at e;subst e L;have J:=zH (jT p);have W:=I.o k;have X:=G.o r (mG p);have U:IntKind.i64.wrap ((eZ (t.take k):Int)+(r.length:Int))=((eZ (t.take (k+1)):Nat):Int):=(wI _ (by have:=Nat.mul_le_mul_right 100 M;omega)).trans (by rw [J.o];simp);clear s O f p;go_wp2;exact ⟨⟨k+1,by omega,by go_num,rfl,l.o⟩,by simp [intOf];omega⟩
  ·obtain rfl:m=k:=oM;have Q:¬ (m:Int) < (m:Int):=oM;have K:=zH (show t.take m=t from List.take_of_length_le (by rw [x.o];exact lR _));go_wp2;go_ret;exact ⟨by rw [K.o] <;> rfl,aa l.o E.o⟩
theorem tR (w:World):Calls prog 28 #[.pointer none] w fun e w'=>e=.returned (.int .i64 0)∧Below w w w':=by
 have t:=zH (fun w=>tT w);go_in;go_wp2_with fail;refine (t.o _).mono ?_;rintro e n ⟨rfl,rfl⟩;go_wp2;go_loopw [3,9] (fun a i wr=>i=.int .i64 0∧a=.int .i64 0∧wr=n) (fun _ _ _=>0)
 case atStart=>exact ⟨rfl,rfl,rfl⟩
 case round =>
  obtain ⟨rfl,rfl,rfl⟩:=hrel;go_wp2;go_ret;exact ⟨rfl,qB _ _⟩
theorem Bj (u:Bun):eZ (aO u)=eZ u.models:=by
 unfold eZ aO;rw [List.map_map];congr 1;exact List.map_congr_left fun m _=>jJ m _ _
def dL (d:af) (l:List ae):ae × Int:=fA d (l.getD d.a.toNat ak) (l.getD (ar d).toNat ak)
inductive DE where
 | on (out:List ae)
 | bad (i:Nat) (e:Int)
def fW (l:List af) (x:ae):Nat → DE
 | 0=>.on [x]
 | k+1=>match fW l x k with
  | .on out=>if (dL (l.getD k aM) out).2 ≠ 0 then .bad k (dL (l.getD k aM) out).2 else .on (out ++ [(dL (l.getD k aM) out).1])
  | .bad i e=>.bad i e
theorem Ci {l : List af} {x : ae} {k i : Nat} {e : Int} (h : fW l x k = .bad i e) : ∀ m, k ≤ m → fW l x m = .bad i e := by
  intro m hm
  induction m with
  | zero => obtain rfl : k = 0 := by omega
            exact h
  | succ m ih =>
    by_cases hk : k = m + 1
    · subst hk; exact h
    · have := ih oM
      show (match fW l x m with | .on out => _ | .bad i e => _) = _
      rw [this]
theorem ro {l:List af} {x:ae} {k:Nat} {out:List ae} {d:af} (h:fW l x k=.on out) (t:l[k]?=some d) :
  fW l x (k+1)=if (dL d out).2 ≠ 0 then .bad k (dL d out).2 else .on (out ++ [(dL d out).1]):=by
 have e:l.getD k aM=d:=by rw [gD,t];rfl
 show (match fW l x k with|.on out=>_|.bad i e=>_)=_;rw [h];simp only [e]
theorem Bp {d:af} {l:List ae} (h:(dL d l).2=0):(dL d l).1.ok=true:=by
 unfold dL at *;exact (pe (x:=(fA d (l.getD d.a.toNat ak) (l.getD (ar d).toNat ak)).1) (by rw [← h])).2.1
theorem uj (u:Bun) (A:QA) (n t:Nat) (w:World) (d:Sl bJ w (blo w) A n t u.models) (s:iw u) :
  Calls prog 16 #[.agg #[.int .i64 u.h,.int .i64 u.v,.int .i64 u.c,.int .i64 u.cl,.slice A n t]] w fun e w'=>e=.returned (.int .i64 (eZ u.models:Nat))∧Below w w w':=by
 obtain ⟨E,I,F,C⟩:=zh4 (Old.now d) d.n_eq (qc (l:=u.models) (c:=8) fun r b=>(s.2 r b).1) (fun r b=>(s.2 r b).1);have V:n≤4:=by have:=s.1;rw [d.n_eq] at this;exact this
 have H:=zW w;obtain ⟨B,j,q,k1⟩:=nB w #[.int .i64 u.h,.int .i64 u.v,.int .i64 u.c,.int .i64 u.cl,.slice A n t] 26;replace H:=zN k1 H q;clear q k1 d s;have x:=fun i=>H.o.2.cell i;go_in;go_wp2_with fail;clear x j;go_loopw [3,4] (fun N i wr=>∃ k:Nat,k≤n∧i=.int .i64 k∧N=.int .i64 (eZ (u.models.take k):Nat)∧Below B B wr) (fun _ i _=>n - (intOf i).toNat)
 case atStart=>exact ⟨0,zl _,rfl,rfl,qB _ _⟩
 case round =>
  obtain ⟨k,L,rfl,rfl,a⟩:=hrel;have D:=zH a;replace H:=zF a H;have x:=fun i=>H.o.2.cell i;clear a;by_cases y:k < n
  ·have P:(k:Int) < (n:Int):=oM;have gk:IntKind.i64.wrap ((k:Int)+1)=((k+1:Nat):Int):=(wJ).trans sM;obtain ⟨m,S,W,Q,O,R,p,rfl,f,K,z⟩:=(E.o.fut H.o.1.out).out.model_at k y;have G:=zH (jT p);have U:=F.o k;have M:=C.o m (mG p);have g:=z.n_eq;rw [g] at M;have T:IntKind.i64.wrap ((eZ (u.models.take k):Int)+(O:Int))=((eZ (u.models.take (k+1)):Nat):Int):=(wI _ (by have:=Nat.mul_le_mul_right 8 L;omega)).trans (by rw [G.o,g];simp);clear f z p g;go_wp2;exact ⟨⟨k+1,by omega,by go_num,rfl,D.o⟩,by simp [intOf];omega⟩
  ·obtain rfl:n=k:=oM;have P:¬ (n:Int) < (n:Int):=oM;have J:=zH (show u.models.take n=u.models from List.take_of_length_le (by rw [I.o];exact lR _));go_wp2;go_ret;exact ⟨by rw [J.o] <;> rfl,H.o.1.out⟩
def DA (u:Bun) (w:World) (e:Ending) (w':World):Prop:=∃ b:Bool,e=.returned (.bool b)∧(b=true → iw u)∧Below w w w'
theorem yz (u:Bun) (A:QA) (n y:Nat) (w:World) (I:Sl bJ w (blo w) A n y u.models) :
  Calls prog 6 #[.agg #[.int .i64 u.h,.int .i64 u.v,.int .i64 u.c,.int .i64 u.cl,.slice A n y]] w (DA u w):=by
 obtain ⟨HU,LU,N⟩:=zh3 (Old.now I) I.n_eq (fun L m cm l w h=>yx L m cm l 0 0 0 none 0 0 w h);have n9:n≤9223372036854775807:=lT I.cap_le I.max_le;have H:=zW w;obtain ⟨w1,an,B1,k1⟩:=nB w #[.int .i64 u.h,.int .i64 u.v,.int .i64 u.c,.int .i64 u.cl,.slice A n y] 26;replace H:=zN k1 H B1;clear B1 k1 I;have P:=fun i=>H.o.2.cell i;by_cases c1:4 < n
 ·have t1:decide (4 < (n:Int))=true:=sO;go_in;go_wp2;go_ret;exact ⟨false,rfl,(fun h=>by cases h),H.o.1.out⟩
 have t1:decide (4 < (n:Int))=false:=sO;go_in;go_wp2_with fail;clear P an t1;go_loopw [3] (fun i wr=>∃ k:Nat,k≤n∧i=.int .i64 k∧(∀ j m,j < k → u.models[j]?=some m → m.length≤8∧∀ b ∈ m,iu b)∧Below w1 w1 wr) (fun i _=>n - (intOf i).toNat)
 case atStart=>exact ⟨0,zl _,rfl,fun j m s=>absurd s (Nat.not_lt_zero _),qB _ _⟩
 case round =>
  obtain ⟨k,hk,rfl,X,z⟩:=hrel;obtain ⟨wo,Z⟩:∃ x,x=wr:=⟨_,rfl⟩;subst Z;obtain ⟨GR,HQ⟩:=zh2 z X;replace H:=zF z H;have P:=fun i=>H.o.2.cell i;clear z X;by_cases V:k < n
  ·have p1:(k:Int) < (n:Int):=oM;have gk:IntKind.i64.wrap ((k:Int)+1)=((k+1:Nat):Int):=(wJ).trans sM;obtain ⟨m,ga,oa,A',a,c',hm,rfl,S,R,F⟩:=(HU.o.fut H.o.1.out).out.model_at k V;obtain ⟨HM,LM⟩:=zh2 hm F.n_eq;have n8:a≤9223372036854775807:=lT F.cap_le F.max_le;have J:=zH (show Old w eQ wo A' a c' m from ⟨F,H.o.1.size⟩);clear hm S F;by_cases c2:8 < a
   ·have t2:decide (8 < (a:Int))=true:=sO;go_wp2;go_ret;exact ⟨false,rfl,(fun h=>by cases h),H.o.1.out⟩
   have t2:decide (8 < (a:Int))=false:=sO;go_wp2_with fail;clear P R t2;go_loopw [5] (fun i wr=>∃ q:Nat,q≤a∧i=.int .i64 q∧(∀ j b,j < q → m[j]?=some b → iu b)∧Below wo wo wr) (fun i _=>a - (intOf i).toNat)
   case atStart=>exact ⟨0,zl _,rfl,fun j m s=>absurd s (Nat.not_lt_zero _),qB _ _⟩
   case round =>
    obtain ⟨q,X,rfl,G,p⟩:=hrel;obtain ⟨M,Y⟩:∃ x,x=wr:=⟨_,rfl⟩;subst Y;obtain ⟨GI,HB⟩:=zh2 p G;obtain ⟨H,J⟩:=uz2 p H J;clear p G;by_cases U:q < a
    ·have p2:(q:Int) < (a:Int):=oM;have gq:IntKind.i64.wrap ((q:Int)+1)=((q+1:Nat):Int):=(wJ).trans sM;obtain ⟨b,g,off,L,nl,cl,W,nw,cw,B,nb,cb,K,rfl,T,rg,t⟩:=J.o.out.blk_at q U;have BM:=zH K;have l2:=t.hw.n_eq;have l3:=t.hb.n_eq;have m2:=lT t.hw.cap_le t.hw.max_le;have m3:=lT t.hb.cap_le t.hb.max_le;obtain ⟨HN,RG⟩:=zh2 (show Sl di M (blo M) L nl cl b.nodes from t.nodes.more fun x hx=>Nat.lt_of_lt_of_le (show x < w.heap.size from hx) J.o.le) rg;have c0:M.cell? ⟨g,off+q*5,none⟩=some (.slice L nl cl):=rg 0 _ rfl;have O:=zW M;clear K T rg t;go_wp2_with fail;refine (N.o L nl cl b.nodes _ HN.o).mono ?_;rintro e w4 ⟨f,rfl,hf,r⟩;obtain ⟨H,O⟩:=uz2 r H O;have FB:=zH hf;have c2:=(de RG.o r) 2 _ rfl;have c3:=(de RG.o r) 3 _ rfl;clear r hf c0;cases f with
     | false =>
      clear c2 c3;go_wp2;go_ret;exact ⟨false,rfl,(fun h=>by cases h),H.o.1.out⟩
     | true =>
     by_cases g2:4000 < nw
     ·have t3:decide (4000 < (nw:Int))=true:=sO;go_wp2;go_ret;exact ⟨false,rfl,(fun h=>by cases h),H.o.1.out⟩
     have t3:decide (4000 < (nw:Int))=false:=sO;by_cases g3:100 < nb
     ·have t4:decide (100 < (nb:Int))=true:=sO;go_wp2;go_ret;exact ⟨false,rfl,(fun h=>by cases h),H.o.1.out⟩
     have t4:decide (100 < (nb:Int))=false:=sO;have Q:=zH (show iu b from ⟨(FB.o rfl).1,by omega,by omega⟩);clear l2 l3;go_wp2_with fail;refine ⟨⟨q+1,by omega,by go_num,fun j d' s C=>?_,aa O.o.out GI.o⟩,by simp [intOf];omega⟩;by_cases D:j < q
     ·exact HB.o j d' D C
     ·obtain rfl:j=q:=oM;rw [BM.o] at C;cases C;exact Q.o
    ·obtain rfl:a=q:=oM;have p2:¬ (a:Int) < (a:Int):=oM;have Q:=zH (show m.length≤8∧∀ b ∈ m,iu b from ⟨by rw [LM.o];omega,fun b K=>by
      obtain ⟨j,s⟩:=List.getElem?_of_mem K;exact HB.o j b (by have:=(List.getElem?_eq_some_iff.1 s).1;rw [LM.o] at this;exact this) s⟩)
     go_wp2_with fail;refine ⟨⟨k+1,by omega,by go_num,fun j m' s E=>?_,aa GI.o GR.o⟩,by simp [intOf];omega⟩;by_cases D:j < k
     ·exact HQ.o j m' D E
     ·obtain rfl:j=k:=oM;rw [HM.o] at E;cases E;exact Q.o
  ·obtain rfl:n=k:=oM;have p1:¬ (n:Int) < (n:Int):=oM;have FN:=zH (show iw u from ⟨by rw [LU.o];omega,fun d hd=>by
    obtain ⟨j,s⟩:=List.getElem?_of_mem hd;exact HQ.o j d (by have:=(List.getElem?_eq_some_iff.1 s).1;rw [LU.o] at this;exact this) s⟩)
   go_wp2;go_ret;exact ⟨true,rfl,fun _=>FN.o,H.o.1.out⟩
end Go.Proofs.YtbecbfpoahhpnaaGreat
