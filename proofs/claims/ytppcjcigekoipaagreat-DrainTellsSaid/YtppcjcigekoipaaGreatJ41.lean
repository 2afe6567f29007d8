/-
  A bundle's net (layer 36), where the bundle may be: walk.New.
-/
import Derived.Test.YtppcjcigekoipaaGreatJ34
import Derived.Test.YtppcjcigekoipaaGreatJ35
import Derived.Test.YtppcjcigekoipaaGreatJ40
set_option linter.unusedVariables false
set_option linter.unusedSimpArgs false
namespace Go.Proofs.YtppcjcigekoipaaGreat
open Go.RowKit Go.ChangeShapes Go.WideShapes
set_option maxRecDepth 100000
set_option maxHeartbeats 4000000
def tIns:Ty (List Sh3):=tSlice tShape
theorem ei_insT:EI Tryz.prog 66 71 (.slice none 0 0) 1 24:=⟨Tryz.underlying66,by kernel_rfl,rfl,by decide⟩
structure NetAt (u:Bun) (S:Nat → Prop) (g:Nat) (w:World):Prop where
 out:∃ A n cap B cb C cc,Blk w g 75 #[.int .i64 u.h,.int .i64 u.v,.int .i64 u.c,.int .i64 u.cl,.slice A n cap,.slice B n cb,.slice C n cc]∧Sl tModel w S A n cap u.models∧Sl tRow w S B n cb (tableC u)∧Sl tIns w S C n cc (insU u)
theorem new_ok (u:Bun) (A:Option Addr) (n cap:Nat) (w:World) (hu:Sl tModel w (blo w.heap.size) A n cap u.models) (hi:inU u) (hf:fewU u) (hz:(bundleV u).1=0) :
  Calls Tryz.prog 7 #[.agg #[.int .i64 u.h,.int .i64 u.v,.int .i64 u.c,.int .i64 u.cl,.slice A n cap]] w fun e w'=>∃ g,e=.returned (.tuple #[.pointer (some ⟨g,0,none⟩),.int .i64 0])∧w.heap.size≤g∧NetAt u (bin w.heap.size w'.heap.size) g w'∧Below w.heap.size w w':=by
 have ok:=bundleV_ok hz
 have h1:∀ m ∈ u.models,1≤m.length∧∀ b ∈ m,1≤b.nodes.length:=fun m hm=>by
  obtain ⟨k,hk⟩:=List.getElem?_of_mem hm
  have mo:=ok.model hk
  refine ⟨mo.one,fun b hb=>?_⟩
  obtain ⟨j,hj⟩:=List.getElem?_of_mem hb
  have:=(mo.blocks j (List.getElem?_eq_some_iff.1 hj).1).shapes
  rw [getD_at hj] at this
  exact (shapes_few this).1
 have n3:n≤3:=by have:=ok.three;rw [hu.n_eq] at this;exact this
 have n1:1≤n:=by have:=ok.one;rw [hu.n_eq] at this;exact this
 have VB:=zH (fun w h=>vbundle_any u A n cap w h hi hf)
 have BC:=zH (fun w h=>bundleCopy_any u A n cap w h hf n1 h1)
 have CT:=zH (fun w h=>costTable_any u A n cap w h hf ok)
 have HU:=zH (Old.now hu)
 have FU:=zH (fun m hm=>hf.2 m hm)
 have OK:=zH (fun k m hm=>ok.model (k:=k) (m:=m) hm)
 have GS:=zH ok.good
 have IA:=zH (fun k m hm=>insU_at (u:=u) (k:=k) (m:=m) hm)
 have IL:=zH (show (insU u).length=n by unfold insU;rw [List.length_map,hu.n_eq])
 have TL:=zH (show (tableC u).length=n by unfold tableC;rw [List.length_map,hu.n_eq])
 have hx:bundleV u=(0,0,0,0):=by
  have hw:wholeV u=0:=by
   unfold bundleV at hz
   split at hz
   ·rename_i c;exact absurd hz c
   ·rename_i c;exact Decidable.not_not.1 c
  unfold bundleV at hz ⊢
  rw [if_neg (by simpa using hw)] at hz ⊢
  exact runU_zero hz
 simp only [hx] at VB
 obtain ⟨h0,hh⟩:∃ x,u.h=x:=⟨_,rfl⟩
 obtain ⟨v0,hv⟩:∃ x,u.v=x:=⟨_,rfl⟩
 obtain ⟨c0,hc⟩:∃ x,u.c=x:=⟨_,rfl⟩
 obtain ⟨l0,hl⟩:∃ x,u.cl=x:=⟨_,rfl⟩
 have HE:=zH (And.intro hh (And.intro hv (And.intro hc hl)))
 unfold RetBun at BC
 unfold RetTab at CT
 rw [hh,hv,hc,hl]
 simp only [hh,hv,hc,hl] at VB BC CT OK GS IA
 clear hx hh hv hc hl hu hi hf hz h1 ok
 have H:=zH (Far.refl w)
 obtain ⟨w1,hw_w1,B1,k1⟩:=nB w #[.int .i64 h0,.int .i64 v0,.int .i64 c0,.int .i64 l0,.slice A n cap] 26
 replace H:=zN k1 H B1
 clear B1 k1
 go_enter Tryz.func7,Tryz.ntmps7
 go_wp2_with (refine lB 26 (.tmp 1) w.heap.size H.out.2 Tryz.underlying26 ?_)
 refine (VB.out _ (HU.out.fut H.out.1.out).all).mono ?_
 rintro e w3 ⟨rfl,hb⟩
 replace H:=zF hb H
 clear hb VB hw_w1
 go_wp2_with (first
  | (refine sF 62 (.tmp 4) (.tmp 16) #[.int .i64 0,.int .i64 0,.int .i64 0,.int .i64 0] ?_;intro w5 b5 k5;replace H:=zF k5 H;have cB:=fun i=>b5.out.cell i)
  | (refine lB 26 (.tmp 1) w.heap.size H.out.2 Tryz.underlying26 ?_))
 have z5:=H.out.2.lt
 refine (BC.out _ (HU.out.fut H.out.1.out).all).mono ?_
 rintro e w6 ⟨A2,cap2,rfl,q2,hb⟩
 replace H:=zF hb H
 have Q2:=zH q2
 have z6:=hb.size
 clear hb BC cB b5 q2
 go_wp2_with (first
  | (refine sF 68 (.tmp 5) (.tmp 24) #[.int .i64 h0,.int .i64 v0,.int .i64 c0,.int .i64 l0,.slice A2 n cap2,.slice none 0 0,.slice none 0 0] ?_;intro w7 b7 k7;replace H:=zN k7 H b7;have K7:=zH k7;clear b7 k7)
  | (refine lB 26 (.tmp 1) w.heap.size H.out.1.2 Tryz.underlying26 ?_))
 refine (CT.out _ (HU.out.fut H.out.1.1.out).all).mono ?_
 rintro e w8 ⟨B3,n',cap3,rfl,q3,hb⟩
 obtain rfl:n'=n:=by rw [← q3.n_eq];exact TL.out
 have N2:=zH (show Sl tModel w8 (fun x=>w.heap.size≤x∧x < w8.heap.size∧x ≠ w6.heap.size) A2 n' cap2 u.models from (Q2.out.keep fun x hx=>(below_later hb K7.out).block x hx.2).more fun x hx=>⟨by have:=hx.1;omega,by have:=hx.2;have:=(below_later hb K7.out).size;omega,by have:=hx.2;omega⟩)
 have z7:=H.out.2.lt
 have N3:=zH (show Sl tRow w8 (fun x=>w.heap.size≤x∧x < w8.heap.size∧x ≠ w6.heap.size) B3 n' cap3 (tableC u) from q3.more fun x hx=>⟨by have:=hx.1;omega,hx.2,by have:=hx.1;omega⟩)
 replace H:=zF hb H
 have z8:=hb.size
 clear hb CT q3 Q2 K7
 go_wp2_with (first
  | (refine wpList_store_one rfl _ (.tmp 34) (.tmp 33) rfl w6.heap.size 5 (.slice B3 n' cap3) rfl rfl rfl rfl _ _ #[.int .i64 h0,.int .i64 v0,.int .i64 c0,.int .i64 l0,.slice A2 n' cap2,.slice B3 n' cap3,.slice none 0 0] H.out.2 (by simp) (by kernel_rfl) rfl ?_;intro w9 b9 g9;replace H:=zS g9 b9 H;have G9:=zH g9;clear b9 g9;have cA:=fun i=>H.out.1.2.cell i))
 have H2:=H
 have z9:=G9.out.size
 clear H cA
 go_loopw [38] (fun i wr=>∃ (k:Nat) (S:Nat → Prop) (v:Value),k≤n'∧i=.int .i64 k∧Own tIns wr S w9.heap.size 71 v k ((insU u).take k)∧(∀ b,S b → w9.heap.size≤b∧b < wr.heap.size∧some b ≠ v.ownBlock)∧Blk wr w6.heap.size 68 #[.int .i64 h0,.int .i64 v0,.int .i64 c0,.int .i64 l0,.slice A2 n' cap2,.slice B3 n' cap3,v]∧w9.grownBy wr (some w6.heap.size)) (fun i _=>n' - (intOf i).toNat)
 case atStart=>exact ⟨0,fun _=>False,_,Nat.zero_le _,rfl,Own.nil _ _ _ _ _,fun _ h=>h.elim,H2.out.2,World.grownBy.refl _ _⟩
 case round =>
  obtain ⟨k,S,v,hk,rfl,hO,hS,hB,hG⟩:=hrel
  obtain ⟨wo,hwo⟩:∃ x,x=wr:=⟨_,rfl⟩
  subst hwo
  have H:=zA hG (zH H2.out.1)
  have ON:=zH hO
  have SS:=zH hS
  have BK:=zH hB
  have GG:=zH hG
  have zo:=hG.size
  clear hO hS hB hG
  by_cases hlt:k < n'
  ·have p1:(k:Int) < (n':Int):=by omega
   have gk:IntKind.i64.wrap ((k:Int)+1)=((k+1:Nat):Int):=(IntWalk.i64_in _ (by omega)).trans (by simp)
   obtain ⟨m,ga,oa,A',nm,c',hm,rfl,hga,hca,hA⟩:=(HU.out.fut H.out.1.out).out.model_at k hlt
   have MO:=zH (OK.out k m hm)
   have TK:=zH (take_snoc _ _ _ (IA.out k m hm))
   have FM:=zH (FU.out m (List.mem_of_getElem? hm)).2
   have LM:=hA.n_eq
   have m6:nm≤6:=by have:=MO.out.six;omega
   have HA:=zH (show Old w tBlk wo A' nm c' m from ⟨hA,H.out.1.size⟩)
   have RG:=zH (range_one hca)
   have HX:=zH (Far.refl wo)
   have T1:(insV m (h0,v0,c0)).take 1=[(h0,v0,c0)]:=by rw [take_snoc _ 0 _ (insV_at (Nat.zero_le _))];rfl
   clear hm hga hca hA
   have cA:=fun i=>H.out.2.cell i
   go_wp2_with (first
    | (refine lM 41 (.tmp 40) RG.out Tryz.underlying41 ?_)
    | (refine sF 41 (.tmp 9) (.tmp 41) #[.slice A' nm c'] ?_;intro w10 b10 k10;replace HX:=zN k10 HX b10;replace H:=zF k10 H;replace HA:=zF k10 HA;clear cA b10)
    | (refine lM 23 (.tmp 42) (range_blk (off:=0) (vs:=[.int .i64 h0,.int .i64 v0,.int .i64 c0]) H.out.2 rfl) Tryz.underlying23 ?_)
    | (refine wpList_lit1 rfl (.tmp 43) rfl ei_shape (sN h0 v0 c0) rfl rfl (by decide) ?_;have k11:Below w10.heap.size w10 (w10.alloc (.cells (sN h0 v0 c0) 23)):=(Below.refl _ _).alloc (Nat.le_refl _) _;have cB:=(zF k11 HX).out.2.cell 0))
   have z10:=HX.out.1.size
   have zw:=HX.out.2.lt
   go_loopw [10,48] (fun rv i wr=>∃ j:Nat,j≤nm∧i=.int .i64 j∧Own tShape wr (fun _=>False) w10.heap.size 23 rv (j+1) ((insV m (h0,v0,c0)).take (j+1))∧Below w10.heap.size w10 wr) (fun _ i _=>nm - (intOf i).toNat)
   case atStart=>exact ⟨0,Nat.zero_le _,rfl,by rw [T1];exact Own.one (Nat.le_refl _) GS.out.rep,k11⟩
   case round =>
    obtain ⟨j,hj,rfl,hO,hbi⟩:=hrel
    obtain ⟨wi,hwi⟩:∃ x,x=wr:=⟨_,rfl⟩
    subst hwi
    have RO:=zH hO
    have GI:=zH hbi
    replace HA:=zF hbi HA
    replace H:=zF hbi H
    have HXi:=zF hbi HX
    have zi:=hbi.size
    clear hO hbi cB k11
    by_cases hlj:j < nm
    ·have p2:(j:Int) < (nm:Int):=by omega
     have gj:IntKind.i64.wrap ((j:Int)+1)=((j+1:Nat):Int):=(IntWalk.i64_in _ (by omega)).trans (by simp)
     obtain ⟨b,gb,ob,L,nl,cl,W,nw,cw,B,nb,cb,hb,rfl,hgb,rg,hat⟩:=HA.out.out.blk_at j hlj
     have BO:=zH (MO.out.blocks j (by omega)).shapes
     rw [getD_at hb] at BO
     have RK:=zH (take_snoc _ _ _ (insV_at (m:=m) (s:=(h0,v0,c0)) (k:=j+1) (by omega)))
     have IV:=zH (show inV m (h0,v0,c0) (j+1)=outV (m.getD j noBlk) (inV m (h0,v0,c0) j) from rfl)
     rw [getD_at hb] at IV
     have II:=zH (inV_good MO.out GS.out (k:=j) (by omega)).in_
     have GT:=zH (inV_good MO.out GS.out (k:=j+1) (by omega))
     obtain ⟨A1,c1,rfl,sl⟩:=RO.out.sl (S':=bin w10.heap.size wi.heap.size) (by decide) (fun b h1 h2=>⟨h1,h2⟩) (fun _ h=>h.elim)
     have e2:((insV m (h0,v0,c0)).take (j+1)).getD j (0,0,0)=inV m (h0,v0,c0) j:=getD_at (by rw [List.getElem?_take,if_pos (by omega)];exact insV_at (by omega))
     obtain ⟨gl,ol,rfl,-,-,hx1,hx2,hx3,-,r3⟩:=sl.shape_at j (by omega)
     rw [e2] at hx1 hx2 hx3 r3
     obtain ⟨⟨s1,s2,s3⟩,hs⟩:∃ x,inV m (h0,v0,c0) j=x:=⟨_,rfl⟩
     rw [hs] at BO IV II hx1 hx2 hx3 r3
     have FB:=zH (FM.out b (List.mem_of_getElem? hb))
     have CO:=zH (fun ww h=>costOut_any b L nl cl W nw cw B nb cb (s1,s2,s3) ww h II.out FB.out BO.out)
     obtain ⟨⟨t1,t2,t3⟩,ht⟩:∃ x,outV b (s1,s2,s3)=x:=⟨_,rfl⟩
     rw [ht] at IV
     rw [IV.out] at RK GT
     simp only [ht] at CO
     have RG:=zH rg
     obtain ⟨need,hnd⟩:∃ x,b.head.need=x:=⟨_,rfl⟩
     obtain ⟨ex,hex⟩:∃ x,b.exit=x:=⟨_,rfl⟩
     simp only [hnd,hex] at CO RG
     have AT0:=zH hat
     have R3:=zH r3
     have HW:=zH HA.out.le
     have HY:=zH (Far.refl wi)
     clear hs hb hgb rg hat hnd hex ht sl e2 r3 hx1 hx2 hx3
     go_upto_region 16 with (first
      | (refine lM 49 (.tmp 51) RG.out Tryz.underlying49 ?_)
      | (refine sF 49 (.tmp 12) (.tmp 52) #[.slice L nl cl,.bool ex,.slice W nw cw,.slice B nb cb,.int .i32 need] ?_;intro w15 b15 k15;replace HY:=zN k15 HY b15;clear b15))
     have RS:=zH (rangeF R3.out k15)
     have AT:=zH (AT0.out.keep (S':=blo w15.heap.size) (fun x hx=>k15.block x (Nat.lt_of_lt_of_le (show x < w.heap.size from hx) HW.out)) (fun x hx=>Nat.lt_of_lt_of_le (Nat.lt_of_lt_of_le (show x < w.heap.size from hx) HW.out) k15.size))
     try simp only [pX]
     go_cut [13,14] (fun b c wx=>∃ g,b=.pointer (some ⟨g,0,none⟩)∧c=.int .i64 0∧Blk wx g 23 (sN t1 t2 t3)∧Below w15.heap.size w15 wx)
     case first =>
      refine wp_region_held_drew (S:=fun w'=>Blk w' wi.heap.size 49 #[.slice L nl cl,.bool ex,.slice W nw cw,.slice B nb cb,.int .i32 need]∧Below w15.heap.size w15 w') (by kernel_rfl) ?_ (fun hS=>?_)
      ·exact ⟨HY.out.2.drew,(Below.refl _ _).drew⟩
      refine tkH 0 rfl (yB 49 (.tmp 12) wi.heap.size (fun w hs=>hs.1) Tryz.underlying49) hS ?_
      try simp only [pX]
      refine kH 1 rfl hS ?_
      try simp only [pX]
      refine kH 2 rfl hS ?_
      try simp only [pX]
      refine tkH 3 rfl (v:=?_) (Or.inl ⟨by rfl,?_⟩) hS ?_
      rotate_left
      ·intro w hSw;(try dsimp only at hSw);go_simp;rw [if_pos (by omega)]
      try simp only [pX]
      refine tkH 4 rfl (yieldsIf_load_mid (by rfl) 23 (.tmp 57) rfl gl (ol+j*3) rfl _ _ (fun w hs q v hv=>cell_later hs.2 (RS.out q v hv)) Tryz.underlying23 rfl (by kernel_rfl)) hS ?_
      try simp only [pX]
      refine wpAnyH_ready (rs:=[5,9]) (by kernel_rfl) (by simp) ?_
      refine AllReadyH.cons rfl (fun K hK=>?_) (AllReadyH.cons rfl (fun K hK=>?_) AllReadyH.nil)
      ·go_simp
       refine (CO.out _ (AT.out.fut hS.2)).mono ?_
       rintro e wa ⟨rfl,hb⟩
       refine hK.out _ _ ?_ (fun hS=>?_)
       ·exact ⟨Blk.later hS.1 hb,below_later hb hS.2⟩
       clear hK K
       try simp only [pX]
       refine kH 6 rfl hS ?_
       try simp only [pX]
       refine kH 7 rfl hS ?_
       try simp only [pX]
       refine kH 8 rfl hS ?_
       try simp only [pX]
       refine rH 9 rfl (fun K hK=>?_)
       go_simp
       have zlt:wi.heap.size < wa.heap.size:=hS.1.lt
       have hb:Below wa.heap.size wa (wa.alloc (.cells (sN 0 0 0) 23)):=(Below.refl _ _).alloc (Nat.le_refl _) _
       have BZ:=zH (Blk.now wa wa.heap.size 23 (sN 0 0 0) rfl)
       have zy:w15.heap.size≤wa.heap.size:=hS.2.size
       refine hK.out _ _ ?_ (fun hS=>?_)
       ·exact ⟨Blk.later hS.1 hb,below_later hb hS.2⟩
       clear hK K
       try simp only [pX]
       refine rH 10 rfl (fun K hK=>?_)
       rw [if_pos (by rfl)]
       refine oper_store_blk 23 (.tmp 13) (.tmp 60) rfl wa.heap.size 0 (sN t1 t2 t3) rfl rfl _ (sN 0 0 0) (sN t1 t2 t3) BZ.out (by simp) (by kernel_rfl) (by simp [Value.oneCell']) rfl ?_
       intro wc BX gc
       refine hK.out _ _ ⟨hS.1.away gc (by omega),hS.2.grown gc hS.2.size (fun k h=>by have:=Option.some.inj h;omega)⟩ (fun hS=>?_)
       clear hK K
       try simp only [pX]
       refine kH 11 rfl hS ?_
       try simp only [pX]
       refine wpAnyH_done (by kernel_rfl) ?_ _
       have FZ:=hS.2
       go_wp2_with fail
       go_meet
       case rel=>exact ⟨_,rfl,rfl,BX,FZ⟩
      ·go_simp
       have zlt:wi.heap.size < w15.heap.size:=hS.1.lt
       have hb:Below w15.drew.heap.size w15.drew (w15.drew.alloc (.cells (sN 0 0 0) 23)):=(Below.refl _ _).alloc (Nat.le_refl _) _
       have BZ:=zH (Blk.now w15.drew w15.heap.size 23 (sN 0 0 0) rfl)
       have zy:w15.heap.size≤w15.heap.size:=hS.2.size
       refine hK.out _ _ ?_ (fun hS=>?_)
       ·exact ⟨Blk.later hS.1 hb,below_later hb hS.2⟩
       clear hK K
       try simp only [pX]
       refine rH 5 rfl (fun K hK=>?_)
       go_simp
       refine (CO.out _ (AT.out.fut hS.2)).mono ?_
       rintro e wa ⟨rfl,hb⟩
       replace BZ:=zH (BZ.out.later hb)
       refine hK.out _ _ ?_ (fun hS=>?_)
       ·exact ⟨Blk.later hS.1 hb,below_later hb hS.2⟩
       clear hK K
       try simp only [pX]
       refine kH 6 rfl hS ?_
       try simp only [pX]
       refine kH 7 rfl hS ?_
       try simp only [pX]
       refine kH 8 rfl hS ?_
       try simp only [pX]
       refine rH 10 rfl (fun K hK=>?_)
       rw [if_pos (by rfl)]
       refine oper_store_blk 23 (.tmp 13) (.tmp 60) rfl w15.heap.size 0 (sN t1 t2 t3) rfl rfl _ (sN 0 0 0) (sN t1 t2 t3) BZ.out (by simp) (by kernel_rfl) (by simp [Value.oneCell']) rfl ?_
       intro wc BX gc
       refine hK.out _ _ ⟨hS.1.away gc (by omega),hS.2.grown gc hS.2.size (fun k h=>by have:=Option.some.inj h;omega)⟩ (fun hS=>?_)
       clear hK K
       try simp only [pX]
       refine kH 11 rfl hS ?_
       try simp only [pX]
       refine wpAnyH_done (by kernel_rfl) ?_ _
       have FZ:=hS.2
       go_wp2_with fail
       go_meet
       case rel=>exact ⟨_,rfl,rfl,BX,FZ⟩
     case rest =>
      obtain ⟨gq,rfl,rfl,BX,hbx⟩:=hcut
      have GX:=zH (below_later hbx k15)
      have BXX:=zH BX
      have RO2:=zH (RO.out.below GX.out (Nat.le_refl _) (fun _ h=>h.elim))
      have zc:=GX.out.size
      clear BX hbx
      go_wp2_with (first
       | (refine lB 23 (.tmp 13) gq BXX.out Tryz.underlying23 ?_)
       | (refine wpList_lit1 rfl (.tmp 66) rfl ei_shape (sN t1 t2 t3) rfl rfl (by decide) ?_)
       | (at_builtin;refine wpList_push (W:=wc) (cs:=(sN t1 t2 t3)) (E:=23) (t:=tShape) (S:=fun _=>False) (base:=w10.heap.size) rfl (.tmp 65) (.tmp 67) rfl ei_shape rfl RO2.out 1 rfl (t1,t2,t3) GT.out.rep (by unfold maxLen;omega) (by omega) (by omega) (fun _ h=>h.elim) ?_;intro v' wz ownz gz atz))
      exact ⟨⟨j+1,by omega,by go_num,by rw [RK.out];exact ownz,(below_later GX.out GI.out).grown gz (by omega) (fun q e=>(RO2.out.lt q e).1)⟩,by simp [intOf];omega⟩
    ·obtain rfl:nm=j:=by omega
     have p2:¬ (nm:Int) < (nm:Int):=by omega
     have RL:=zH (show (insV m (h0,v0,c0)).take (nm+1)=insV m (h0,v0,c0) from List.take_of_length_le (by unfold insV;rw [List.length_map,List.length_range];omega))
     rw [RL.out] at RO
     obtain ⟨Ar,cr,rfl,sr⟩:=RO.out.sl (S':=bin w10.heap.size wi.heap.size) (by decide) (fun b h1 h2=>⟨h1,h2⟩) (fun _ h=>h.elim)
     have SR:=zH sr
     have GO:=zH (below_later GI.out HX.out.1.out)
     have VB:=zH (fun q (e:v.ownBlock=some q)=>ON.out.lt q e)
     have O2:=zH ((ON.out.below GO.out (Nat.le_refl _) (fun b h=>(SS.out b h).2.1)).more (S':=fun b=>S b ∨ (w10.heap.size≤b∧b < wi.heap.size)) (fun b h=>.inl h))
     have BK2:=zH (BK.out.fut GO.out)
     have RP:=zH (show ∀ S',(∀ b,bin w10.heap.size wi.heap.size b → S' b) → tIns.rep wi S' [.slice Ar (nm+1) cr] (insV m (h0,v0,c0)) from fun S' h=>by
      have e:=SR.out.n_eq
      have q:=SR.out.more h
      rw [← e] at q
      rw [← e]
      exact tSlice_iff.2 ⟨_,_,rfl,q⟩)
     have cK:=BK2.out.cell 6
     clear sr
     go_wp2_with (first
      | (at_builtin;refine wpList_push (W:=wi) (cs:=#[.slice Ar (nm+1) cr]) (E:=71) (t:=tIns) (S:=fun b=>S b ∨ (w10.heap.size≤b∧b < wi.heap.size)) (base:=w9.heap.size) rfl (.tmp 71) (.tmp 73) rfl ei_insT rfl O2.out 1 rfl (insV m (h0,v0,c0)) (RP.out _ (fun b h=>.inr h)) (by unfold maxLen;omega) (by omega) (by omega) (fun b h=>?_) ?_;rotate_left;intro v' wz ownz gz atz;obtain ⟨Av,cv,rfl,-⟩:=ownz.sl (S':=fun _=>True) (by decide) (fun _ _ _=>trivial) (fun _ _=>trivial);have BK3:=zH (show Blk wz w6.heap.size 68 #[.int .i64 h0,.int .i64 v0,.int .i64 c0,.int .i64 l0,.slice A2 n' cap2,.slice B3 n' cap3,v] from ⟨(gz.block w6.heap.size BK2.out.lt (fun e=>by have:=(VB.out _ e.symm).1;omega)).trans BK2.out.heap⟩))
      | (refine wpList_store_one rfl _ (.tmp 75) (.tmp 74) rfl w6.heap.size 6 (.slice Av (k+1) cv) rfl rfl rfl rfl _ _ #[.int .i64 h0,.int .i64 v0,.int .i64 c0,.int .i64 l0,.slice A2 n' cap2,.slice B3 n' cap3,.slice Av (k+1) cv] BK3.out (by simp) (by kernel_rfl) rfl ?_;intro w12 b12 g12))
     ·have zz:=gz.size
      have z12:=g12.size
      have own12:=ownz.kept g12 (.inr fun e=>by have:=(ownz.lt _ e).1;omega) (fun b h=>by
       have hb:w9.heap.size≤b∧b < wz.heap.size:=by
        rcases h with h|h
        ·have:=SS.out b h;omega
        ·omega
       exact ⟨hb.2,fun e=>by have:=Option.some.inj e;omega⟩)
      refine ⟨⟨k+1,_,_,by omega,by go_num,by rw [TK.out];exact own12,?_,b12,(grown_past (GG.out.trans (below_grown GO.out)) gz (fun q e=>(VB.out q e).1)).trans g12⟩,by simp [intOf];omega⟩
      ·rintro b (h|h)
       ·have h1:=SS.out b h
        refine ⟨h1.1,by omega,?_⟩
        rcases atz with e|e
        ·rw [e];exact h1.2.2
        ·rw [e];intro q;have:=Option.some.inj q;omega
       ·refine ⟨by omega,by omega,fun q=>?_⟩
        rcases atz with e|e
        ·have:=VB.out b (e.symm.trans q.symm);omega
        ·rw [e] at q;have:=Option.some.inj q;omega
     ·rcases h with h|h
      ·have h1:=SS.out b h
       exact ⟨by omega,h1.2.2⟩
      ·exact ⟨h.2,fun e=>by have:=VB.out b e.symm;omega⟩
  ·obtain rfl:n'=k:=by omega
   have p1:¬ (n':Int) < (n':Int):=by omega
   have TT:=zH (show (insU u).take n'=insU u from List.take_of_length_le (by rw [IL.out];exact Nat.le_refl _))
   rw [TT.out] at ON
   obtain ⟨Av,cv,rfl,sv⟩:=ON.out.sl (S':=bin w.heap.size wo.heap.size) (by decide) (fun b h1 h2=>⟨by omega,h2⟩) (fun b h=>⟨by have:=(SS.out b h).1;omega,(SS.out b h).2.1⟩)
   have SV:=zH sv
   clear sv
   go_wp2_with (refine lB 68 (.tmp 5) w6.heap.size BK.out Tryz.underlying68 ?_)
   go_ret2
   have GA:=zH (G9.out.trans GG.out)
   have kz:Below wo.heap.size wo (wo.alloc (.cells #[.int .i64 h0,.int .i64 v0,.int .i64 c0,.int .i64 l0,.slice A2 n' cap2,.slice B3 n' cap3,.slice Av n' cv] 75)):=(Below.refl _ _).alloc (Nat.le_refl _) _
   refine ⟨wo.heap.size,rfl,H.out.1.size,⟨A2,n',cap2,B3,cap3,Av,cv,?_,?_,?_,?_⟩,below_later kz H.out.1.out⟩
   ·rw [HE.out.1,HE.out.2.1,HE.out.2.2.1,HE.out.2.2.2]
    exact Blk.now _ _ _ _ rfl
   ·exact (N2.out.keep fun x hx=>(kz.block x (Nat.lt_of_lt_of_le hx.2.1 GA.out.size)).trans (GA.out.block x hx.2.1 fun e=>hx.2.2 (Option.some.inj e))).more fun x hx=>⟨hx.1,Nat.lt_of_lt_of_le hx.2.1 (Nat.le_trans GA.out.size kz.size)⟩
   ·exact (N3.out.keep fun x hx=>(kz.block x (Nat.lt_of_lt_of_le hx.2.1 GA.out.size)).trans (GA.out.block x hx.2.1 fun e=>hx.2.2 (Option.some.inj e))).more fun x hx=>⟨hx.1,Nat.lt_of_lt_of_le hx.2.1 (Nat.le_trans GA.out.size kz.size)⟩
   ·exact (SV.out.below kz fun x hx=>hx.2).more fun x hx=>⟨hx.1,Nat.lt_of_lt_of_le hx.2 kz.size⟩
end Go.Proofs.YtppcjcigekoipaaGreat
