/-
  What each block costs, by the document (layer 31): its Table.
-/
import Derived.Test.YthjmghjfklkmbaaGreatJ39
set_option linter.unusedVariables false
set_option linter.unusedSimpArgs false
namespace Go.Proofs.YthjmghjfklkmbaaGreat
open Go.RowKit Go.ChangeShapes Go.WideShapes
set_option maxRecDepth 100000
set_option maxHeartbeats 8000000
theorem rcostTable_any (u:Bun) (A:Option Addr) (n cap:Nat) (w:World) (hu:Sl tModel w (blo w.heap.size) A n cap u.models) (hf:fewU u) (ok:BunOk u) :
  Calls Tryz.prog 10 #[.agg #[.int .i64 u.h,.int .i64 u.v,.int .i64 u.c,.int .i64 u.cl,.slice A n cap]] w (RetTab (tableC u) w):=by
 have n3:n≤3:=by have:=ok.three;rw [hu.n_eq] at this;exact this
 have HU:=zH (Old.now hu)
 have FU:=zH (fun m hm=>hf.2 m hm)
 have OK:=zH (fun k m hm=>ok.model (k:=k) (m:=m) hm)
 have GS:=zH ok.good
 have CL:=zH ok.cl
 have TA:=zH (fun k m hm=>tableC_at (u:=u) (k:=k) (m:=m) hm)
 have TL:=zH (show (tableC u).length=n by unfold tableC;rw [List.length_map,hu.n_eq])
 obtain ⟨tb,htb⟩:∃ x,tableC u=x:=⟨_,rfl⟩
 obtain ⟨h0,hh⟩:∃ x,u.h=x:=⟨_,rfl⟩
 obtain ⟨v0,hv⟩:∃ x,u.v=x:=⟨_,rfl⟩
 obtain ⟨c0,hc⟩:∃ x,u.c=x:=⟨_,rfl⟩
 obtain ⟨l0,hl⟩:∃ x,u.cl=x:=⟨_,rfl⟩
 rw [hh,hv,hc,hl,htb]
 simp only [hh,hv,hc,hl,htb] at OK GS CL TA TL
 clear hh hv hc hl htb hu hf ok
 have H:=zH (Far.refl w)
 obtain ⟨w1,hw_w1,B1,k1⟩:=nB w #[.int .i64 h0,.int .i64 v0,.int .i64 c0,.int .i64 l0,.slice A n cap] 26
 replace H:=zN k1 H B1
 clear B1 k1
 have l1:w.heap.size < w1.heap.size:=by rw [← hw_w1];simp
 have cA:=fun i=>H.out.2.cell i
 go_enter Tryz.func10,Tryz.ntmps10
 go_wp2_with fail
 have H2:=H
 clear H cA hw_w1
 go_loopw [4,5] (fun v i wr=>∃ (k:Nat) (S:Nat → Prop),k≤n∧i=.int .i64 k∧Own tRow wr S w1.heap.size 50 v k (tb.take k)∧(∀ b,S b → w1.heap.size≤b∧b < wr.heap.size∧some b ≠ v.ownBlock)∧Below w1.heap.size w1 wr) (fun _ i _=>n - (intOf i).toNat)
 case atStart=>exact ⟨0,fun _=>False,Nat.zero_le _,rfl,Own.nil _ _ _ _ _,fun _ h=>h.elim,Below.refl _ _⟩
 case round =>
  obtain ⟨k,S,hk,rfl,hO,hS,hb⟩:=hrel
  obtain ⟨wo,hwo⟩:∃ x,x=wr:=⟨_,rfl⟩
  subst hwo
  have H:=zF hb H2
  have ON:=zH hO
  have SS:=zH hS
  have G1:=zH hb
  have z1:=hb.size
  clear hO hS hb
  by_cases hlt:k < n
  ·have p1:(k:Int) < (n:Int):=by omega
   have gk:IntKind.i64.wrap ((k:Int)+1)=((k+1:Nat):Int):=(IntWalk.i64_in _ (by omega)).trans (by simp)
   obtain ⟨m,ga,oa,A',n',c',hm,rfl,hga,hca,hA⟩:=(HU.out.fut H.out.1.out).out.model_at k hlt
   have MO:=zH (OK.out k m hm)
   have TK:=zH (take_snoc _ _ _ (TA.out k m hm))
   have FM:=zH (FU.out m (List.mem_of_getElem? hm)).2
   have LM:=hA.n_eq
   have m6:n'≤6:=by have:=MO.out.six;omega
   have HA:=zH (show Old w tBlk wo A' n' c' m from ⟨hA,H.out.1.size⟩)
   have HX:=zH (Far.refl wo)
   clear hm hga hA
   have cA:=fun i=>H.out.2.cell i
   go_wp2_with (first
    | (refine lM 23 (.tmp 20) (range_blk (off:=0) (vs:=[.int .i64 h0,.int .i64 v0,.int .i64 c0]) H.out.2 rfl) Tryz.underlying23 ?_)
    | (refine sF 23 (.tmp 7) (.tmp 21) (sN h0 v0 c0) ?_;intro w5 b5 k5;replace H:=zF k5 H;have B5:=b5;clear cA b5;have cA:=fun i=>H.out.2.cell i;replace hca:=cell_later k5 hca))
   have K5:=zH k5
   have z5:=k5.size
   have y5:=B5.out.lt
   have yw:w.heap.size < wo.heap.size:=by omega
   replace HA:=zF k5 HA
   clear cA hca k5
   go_loopw [6,9] (fun rv i wr=>∃ j:Nat,j≤n'∧i=.int .i64 j∧Own (tInt .i64) wr (fun _=>False) w5.heap.size 3 rv j ((rowC m (h0,v0,c0) l0).take j)∧Blk wr wo.heap.size 23 (sN (inV m (h0,v0,c0) j).1 (inV m (h0,v0,c0) j).2.1 (inV m (h0,v0,c0) j).2.2)∧w5.grownBy wr (some wo.heap.size)) (fun _ i _=>n' - (intOf i).toNat)
   case atStart=>exact ⟨0,Nat.zero_le _,rfl,Own.nil _ _ _ _ _,B5.out,World.grownBy.refl _ _⟩
   case round =>
    obtain ⟨j,hj,rfl,hO,b1,g8⟩:=hrel
    obtain ⟨wi,hwi⟩:∃ x,x=wr:=⟨_,rfl⟩
    subst hwi
    have RO:=zH hO
    have B1:=zH b1
    have G8:=zH g8
    replace HA:=zA g8 HA
    replace H:=zA g8 H
    have z8:=g8.size
    have x1:=b1.lt
    clear hO b1 g8
    by_cases hlj:j < n'
    ·have p2:(j:Int) < (n':Int):=by omega
     have gj:IntKind.i64.wrap ((j:Int)+1)=((j+1:Nat):Int):=(IntWalk.i64_in _ (by omega)).trans (by simp)
     obtain ⟨b,gb,ob,L,nl,cl,W,nw,cw,B,nb,cb,hb,rfl,hgb,rg,hat⟩:=HA.out.out.blk_at j hlj
     have BO:=zH (MO.out.blocks j (by omega)).shapes
     rw [getD_at hb] at BO
     have BC:=zH (blockC_in (cl:=l0) BO.out)
     have RK:=zH (take_snoc _ _ _ (rowC_at (m:=m) (s:=(h0,v0,c0)) (cl:=l0) (show j < m.length by omega)))
     have IV:=zH (show inV m (h0,v0,c0) (j+1)=outV (m.getD j noBlk) (inV m (h0,v0,c0) j) from rfl)
     rw [getD_at hb] at RK IV
     have II:=zH (inV_good MO.out GS.out (k:=j) (by omega)).in_
     obtain ⟨⟨s1,s2,s3⟩,hs⟩:∃ x,inV m (h0,v0,c0) j=x:=⟨_,rfl⟩
     rw [hs] at BO BC RK IV II B1
     have FB:=zH (FM.out b (List.mem_of_getElem? hb))
     have CB:=zH (fun ww h=>rcostBlock_any b L nl cl W nw cw B nb cb (s1,s2,s3) l0 ww h II.out FB.out BO.out CL.out)
     have AT:=zH (show BlkAt b L nl cl W nw cw B nb cb (blo wi.heap.size) wi from hat.keep (fun _ _=>rfl) (fun x hx=>Nat.lt_of_lt_of_le (show x < w.heap.size from hx) HA.out.le))
     have RG:=zH rg
     obtain ⟨need,hnd⟩:∃ x,b.head.need=x:=⟨_,rfl⟩
     obtain ⟨ex,hex⟩:∃ x,b.exit=x:=⟨_,rfl⟩
     simp only [hnd,hex] at CB RG
     obtain ⟨bc,hbc⟩:∃ x,blockC b (s1,s2,s3) l0=x:=⟨_,rfl⟩
     obtain ⟨⟨t1,t2,t3⟩,ht⟩:∃ x,outV b (s1,s2,s3)=x:=⟨_,rfl⟩
     rw [ht] at IV
     rw [hbc] at BC RK
     simp only [hbc,ht] at CB
     have cL:=H.out.2.cell 3
     clear hs hb hgb rg hat hnd hex hbc ht
     go_upto_region 11 with fail
     go_cut [10,11,12] (fun a b c wx=>∃ g,a=.int .i64 bc∧b=.pointer (some ⟨g,0,none⟩)∧c=.int .i64 0∧Blk wx g 23 (sN t1 t2 t3)∧wi.heap.size≤g∧Below wi.heap.size wi wx)
     case first =>
      refine wp_region_held_drew (S:=fun w'=>w'.cell? ⟨w.heap.size,3,none⟩=some (.int .i64 l0)∧Blk w' wo.heap.size 23 (sN s1 s2 s3)∧Below wi.heap.size wi w') (by kernel_rfl) ?_ (fun hS=>?_)
      ·exact ⟨cL,B1.out.drew,(Below.refl _ _).drew⟩
      refine kH 0 rfl hS ?_
      try simp only [pX]
      refine kH 1 rfl hS ?_
      try simp only [pX]
      refine kH 2 rfl hS ?_
      try simp only [pX]
      refine tkH 3 rfl (yieldsIf_load_mid (by rfl) 65 (.tmp 37) rfl gb (ob+j*5) rfl _ _ (fun w hs q v hv=>cell_later hs.2.2 (RG.out q v hv)) Tryz.underlying65 rfl (by kernel_rfl)) hS ?_
      try simp only [pX]
      refine tkH 4 rfl (yB 23 (.tmp 7) wo.heap.size (fun w hs=>hs.2.1) Tryz.underlying23) hS ?_
      try simp only [pX]
      refine kH 5 rfl hS ?_
      try simp only [pX]
      refine kH 6 rfl hS ?_
      try simp only [pX]
      refine wpAnyH_ready (rs:=[7,12]) (by kernel_rfl) (by simp) ?_
      refine AllReadyH.cons rfl (fun K hK=>?_) (AllReadyH.cons rfl (fun K hK=>?_) AllReadyH.nil)
      ·go_simp
       refine (CB.out _ (AT.out.fut hS.2.2)).mono ?_
       rintro e wa ⟨rfl,hb⟩
       refine hK.out _ _ ?_ (fun hS=>?_)
       ·exact ⟨cell_later hb hS.1,Blk.later hS.2.1 hb,below_later hb hS.2.2⟩
       clear hK K
       try simp only [pX]
       refine kH 8 rfl hS ?_
       try simp only [pX]
       refine kH 9 rfl hS ?_
       try simp only [pX]
       refine kH 10 rfl hS ?_
       try simp only [pX]
       refine kH 11 rfl hS ?_
       try simp only [pX]
       refine rH 12 rfl (fun K hK=>?_)
       go_simp
       have zlt:wo.heap.size < wa.heap.size:=hS.2.1.lt
       have zli:wi.heap.size≤wa.heap.size:=hS.2.2.size
       have hb:Below wa.heap.size wa (wa.alloc (.cells (sN 0 0 0) 23)):=(Below.refl _ _).alloc (Nat.le_refl _) _
       have BZ:=zH (Blk.now wa wa.heap.size 23 (sN 0 0 0) rfl)
       refine hK.out _ _ ?_ (fun hS=>?_)
       ·exact ⟨cell_later hb hS.1,Blk.later hS.2.1 hb,below_later hb hS.2.2⟩
       clear hK K
       try simp only [pX]
       refine kH 13 rfl hS ?_
       try simp only [pX]
       refine rH 14 rfl (fun K hK=>?_)
       rw [if_pos (by rfl)]
       refine oper_store_blk 23 (.tmp 11) (.tmp 44) rfl wa.heap.size 0 (sN t1 t2 t3) rfl rfl _ (sN 0 0 0) (sN t1 t2 t3) BZ.out (by simp) (by kernel_rfl) (by simp [Value.oneCell']) rfl ?_
       intro wc BX gc
       refine hK.out _ _ ⟨(World.cell?_of_block (gc.block w.heap.size (by have:=hS.2.1.lt;omega) (fun e=>by have:=Option.some.inj e;omega))).trans hS.1,hS.2.1.away gc (by omega),hS.2.2.grown gc hS.2.2.size (fun k h=>by have:=Option.some.inj h;omega)⟩ (fun hS=>?_)
       clear hK K
       try simp only [pX]
       refine kH 15 rfl hS ?_
       try simp only [pX]
       refine wpAnyH_done (by kernel_rfl) ?_ _
       have FZ:=hS.2.2
       go_wp2_with fail
       go_meet
       case rel=>exact ⟨_,rfl,rfl,rfl,BX,(by omega),FZ⟩
      ·go_simp
       have zlt:wo.heap.size < wi.heap.size:=hS.2.1.lt
       have zli:wi.heap.size≤wi.heap.size:=hS.2.2.size
       have hb:Below wi.drew.heap.size wi.drew (wi.drew.alloc (.cells (sN 0 0 0) 23)):=(Below.refl _ _).alloc (Nat.le_refl _) _
       have BZ:=zH (Blk.now wi.drew wi.heap.size 23 (sN 0 0 0) rfl)
       refine hK.out _ _ ?_ (fun hS=>?_)
       ·exact ⟨cell_later hb hS.1,Blk.later hS.2.1 hb,below_later hb hS.2.2⟩
       clear hK K
       try simp only [pX]
       refine rH 7 rfl (fun K hK=>?_)
       go_simp
       refine (CB.out _ (AT.out.fut hS.2.2)).mono ?_
       rintro e wa ⟨rfl,hb⟩
       replace BZ:=zH (BZ.out.later hb)
       refine hK.out _ _ ?_ (fun hS=>?_)
       ·exact ⟨cell_later hb hS.1,Blk.later hS.2.1 hb,below_later hb hS.2.2⟩
       clear hK K
       try simp only [pX]
       refine kH 8 rfl hS ?_
       try simp only [pX]
       refine kH 9 rfl hS ?_
       try simp only [pX]
       refine kH 10 rfl hS ?_
       try simp only [pX]
       refine kH 11 rfl hS ?_
       try simp only [pX]
       refine kH 13 rfl hS ?_
       try simp only [pX]
       refine rH 14 rfl (fun K hK=>?_)
       rw [if_pos (by rfl)]
       refine oper_store_blk 23 (.tmp 11) (.tmp 44) rfl wi.heap.size 0 (sN t1 t2 t3) rfl rfl _ (sN 0 0 0) (sN t1 t2 t3) BZ.out (by simp) (by kernel_rfl) (by simp [Value.oneCell']) rfl ?_
       intro wc BX gc
       refine hK.out _ _ ⟨(World.cell?_of_block (gc.block w.heap.size (by have:=hS.2.1.lt;omega) (fun e=>by have:=Option.some.inj e;omega))).trans hS.1,hS.2.1.away gc (by omega),hS.2.2.grown gc hS.2.2.size (fun k h=>by have:=Option.some.inj h;omega)⟩ (fun hS=>?_)
       clear hK K
       try simp only [pX]
       refine kH 15 rfl hS ?_
       try simp only [pX]
       refine wpAnyH_done (by kernel_rfl) ?_ _
       have FZ:=hS.2.2
       go_wp2_with fail
       go_meet
       case rel=>exact ⟨_,rfl,rfl,rfl,BX,(by omega),FZ⟩
     case rest =>
     obtain ⟨gt,rfl,rfl,rfl,BX,hgt,hbx⟩:=hcut
     have GX:=zH hbx
     have BXX:=zH BX
     have RO2:=zH (RO.out.below GX.out (Nat.le_refl _) (fun _ h=>h.elim))
     have B2:=zH (B1.out.fut GX.out)
     have zx:=hbx.size
     have lx:=BX.lt
     clear BX hbx cL CB
     go_wp2_with (first
      | (at_builtin;refine wpList_push (W:=wc) (cs:=#[.int .i64 bc]) (E:=3) (t:=tInt .i64) (S:=fun _=>False) (base:=w5.heap.size) rfl (.tmp 49) (.tmp 51) rfl ei_int rfl RO2.out 1 rfl bc ⟨rfl,BC.out⟩ (by unfold maxLen;omega) (by omega) (by omega) (fun _ h=>h.elim) ?_;intro v' wz ownz gz atz;have OB:=zH (fun q e=>RO.out.lt q e);have BT:=zH (show Blk wz gt 23 (sN t1 t2 t3) from ⟨(gz.block gt lx (fun e=>by have:=(OB.out gt e.symm).2;omega)).trans BXX.out.heap⟩);have B3:=zH (show Blk wz wo.heap.size 23 (sN s1 s2 s3) from ⟨(gz.block wo.heap.size B2.out.lt (fun e=>by have:=(OB.out wo.heap.size e.symm).1;omega)).trans B2.out.heap⟩))
      | (refine lB 23 (.tmp 11) gt BT.out Tryz.underlying23 ?_)
      | (refine sB 23 (.tmp 7) (.tmp 53) wo.heap.size (sN t1 t2 t3) B3.out ?_;intro w11 b11 g11))
     refine ⟨⟨j+1,by omega,by go_num,by rw [RK.out];exact ownz.flat g11 (.inr fun e=>by have:=(ownz.lt _ e).1;omega) (fun _ h=>h),by rw [IV.out];exact b11,(grown_past (G8.out.trans (below_grown GX.out)) gz (fun q e=>(OB.out q e).1)).trans g11⟩,by simp [intOf];omega⟩
    ·obtain rfl:n'=j:=by omega
     have p2:¬ (n':Int) < (n':Int):=by omega
     have RL:=zH (show (rowC m (h0,v0,c0) l0).take n'=rowC m (h0,v0,c0) l0 from List.take_of_length_le (by rw [rowC_len];omega))
     rw [RL.out] at RO
     obtain ⟨Ar,cr,rfl,sr⟩:=RO.out.sl (S':=bin w5.heap.size wi.heap.size) (by decide) (fun b h1 h2=>⟨h1,h2⟩) (fun _ h=>h.elim)
     have SR:=zH sr
     have GO:=zH (below_grown (r:=some wo.heap.size) K5.out)
     have O2:=zH ((ON.out.kept (GO.out.trans G8.out) (by
      by_cases h:u4.ownBlock=none
      ·exact .inl h
      ·refine .inr fun e=>?_
       have:=(ON.out.lt wo.heap.size e).2
       omega) (fun b h=>⟨(SS.out b h).2.1,fun e=>by have:=(SS.out b h).2.1;have:=Option.some.inj e;omega⟩)).more (S':=fun b=>S b ∨ (w5.heap.size≤b∧b < wi.heap.size)) (fun b h=>.inl h))
     have z6:=K5.out.size
     have VB:=zH (fun q (e:u4.ownBlock=some q)=>ON.out.lt q e)
     have RP:=zH (show ∀ S',(∀ b,bin w5.heap.size wi.heap.size b → S' b) → tRow.rep wi S' [.slice Ar n' cr] (rowC m (h0,v0,c0) l0) from fun S' h=>by
      have e:=SR.out.n_eq
      have q:=SR.out.more h
      rw [← e] at q
      rw [← e]
      exact tSlice_iff.2 ⟨_,_,rfl,q⟩)
     clear sr
     go_wp2_with (first
      | (at_builtin;refine wpList_push (W:=wi) (cs:=#[.slice Ar n' cr]) (E:=50) (t:=tRow) (S:=fun b=>S b ∨ (w5.heap.size≤b∧b < wi.heap.size)) (base:=w1.heap.size) rfl (.tmp 54) (.tmp 56) rfl ei_rowT rfl O2.out 1 rfl (rowC m (h0,v0,c0) l0) (RP.out _ (fun b h=>.inr h)) (by unfold maxLen;omega) (by omega) (by omega) (fun b h=>?_) ?_;rotate_left;intro v' wz ownz gz atz))
     ·have zz:=gz.size
      refine ⟨⟨k+1,_,by omega,by go_num,by rw [TK.out];exact ownz,?_,?_⟩,by simp [intOf];omega⟩
      ·rintro b (h|h)
       ·have h1:=SS.out b h
        refine ⟨h1.1,by omega,?_⟩
        rcases atz with e|e
        ·rw [e];exact h1.2.2
        ·rw [e];intro q;have:=Option.some.inj q;omega
       ·refine ⟨by omega,by omega,fun q=>?_⟩
        rcases atz with e|e
        ·have:=VB.out b (e.symm.trans q.symm);omega
        ·rw [e] at q;have:=Option.some.inj q;omega
      ·exact ((below_later K5.out G1.out).grown G8.out (by omega) (fun q e=>by have:=Option.some.inj e;omega)).grown gz (by omega) (fun q e=>(VB.out q e).1)
     ·rcases h with h|h
      ·have h1:=SS.out b h
       exact ⟨by omega,h1.2.2⟩
      ·exact ⟨h.2,fun e=>by have:=VB.out b e.symm;omega⟩
  ·obtain rfl:n=k:=by omega
   have p1:¬ (n:Int) < (n:Int):=by omega
   have TT:=zH (show tb.take n=tb from List.take_of_length_le (by rw [TL.out];exact Nat.le_refl _))
   rw [TT.out] at ON
   obtain ⟨Ar,cr,rfl,sr⟩:=ON.out.sl (S':=bin w.heap.size wo.heap.size) (by decide) (fun b h1 h2=>⟨by omega,h2⟩) (fun b h=>⟨by have:=(SS.out b h).1;omega,(SS.out b h).2.1⟩)
   have cA:=fun i=>H.out.2.cell i
   go_wp2_with fail
   go_ret2
   exact ⟨Ar,n,cr,rfl,sr,H.out.1.out⟩
end Go.Proofs.YthjmghjfklkmbaaGreat
