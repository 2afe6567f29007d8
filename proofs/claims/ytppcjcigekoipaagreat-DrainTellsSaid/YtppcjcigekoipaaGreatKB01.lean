/-
  What comes into a block, and what it costs, by the document (layer 36: In, Cost); the greatest cost (layer 43: Greatest).
-/
import Derived.Test.YtppcjcigekoipaaGreatJ41
import Derived.Test.YtppcjcigekoipaaGreatJ45
set_option linter.unusedVariables false
set_option linter.unusedSimpArgs false
namespace Go.Proofs.YtppcjcigekoipaaGreat
open Go.RowKit Go.ChangeShapes Go.WideShapes
set_option maxRecDepth 100000
set_option maxHeartbeats 8000000
theorem cellAway {w w':World} {g o m:Nat} {v:Value} (h:w.cell? ⟨g,o,none⟩=some v) (k:w.grownBy w' (some m)) (hne:g < m ∨ m < g):w'.cell? ⟨g,o,none⟩=some v :=
 (World.cell?_of_block (k.block g (World.block_lt_of_cell? _ _ h) (fun e=>by have:=Option.some.inj e;omega))).trans h
theorem rin_any (u:Bun) (A:Option Addr) (n cap:Nat) (w:World) (hu:Sl tModel w (blo w.heap.size) A n cap u.models) (hf:fewU u) (ok:BunOk u) (km:Nat) (m:List BlkD) (hm:u.models[km]?=some m) (kb:Nat) (hkb:kb≤m.length) :
  Calls Tryz.prog 45 #[.agg #[.int .i64 u.h,.int .i64 u.v,.int .i64 u.c,.int .i64 u.cl,.slice A n cap],.int .i64 km,.int .i64 kb] w fun e w'=>e=.returned (.agg (sN (inV m (u.h,u.v,u.c) kb).1 (inV m (u.h,u.v,u.c) kb).2.1 (inV m (u.h,u.v,u.c) kb).2.2))∧Below w.heap.size w w':=by
 have HU:=zH (Old.now hu)
 have LU:=zH hu.n_eq
 have MO:=zH (ok.model hm)
 have GS:=zH ok.good
 have CL:=zH ok.cl
 have FM:=zH (hf.2 m (List.mem_of_getElem? hm)).2
 have HM:=zH hm
 have n4:n≤4:=by have:=hf.1;rw [hu.n_eq] at this;exact this
 have kn:km < n:=by have:=(List.getElem?_eq_some_iff.1 hm).1;rw [hu.n_eq] at this;exact this
 have m6:m.length≤6:=MO.out.six
 obtain ⟨h0,hh⟩:∃ x,u.h=x:=⟨_,rfl⟩
 obtain ⟨v0,hv⟩:∃ x,u.v=x:=⟨_,rfl⟩
 obtain ⟨c0,hc⟩:∃ x,u.c=x:=⟨_,rfl⟩
 obtain ⟨l0,hl⟩:∃ x,u.cl=x:=⟨_,rfl⟩
 simp only [hh,hv,hc,hl] at MO GS CL
 rw [hh,hv,hc,hl]
 clear hh hv hc hl hu hf ok
 have H:=zH (Far.refl w)
 obtain ⟨w1,hw_w1,B1,k1⟩:=nB w #[.int .i64 h0,.int .i64 v0,.int .i64 c0,.int .i64 l0,.slice A n cap] 26
 replace H:=zN k1 H B1
 clear B1 k1
 obtain ⟨w2,hw_w2,B2,k2⟩:=nB w1 (sN 0 0 0) 23
 replace H:=zN k2 H B2
 clear B2 k2
 have l1:w.heap.size < w1.heap.size:=by rw [← hw_w1];simp
 have l2:w1.heap.size < w2.heap.size:=by rw [← hw_w2];simp
 go_enter Tryz.func45,Tryz.ntmps45
 have RS:=zH (range_blk (off:=0) (vs:=[.int .i64 h0,.int .i64 v0,.int .i64 c0]) H.out.1.2 rfl)
 go_wp2_with (first
  | (refine lM 23 (.tmp 12) RS.out Tryz.underlying23 ?_)
  | (refine sF 23 (.tmp 7) (.tmp 13) (sN h0 v0 c0) ?_;intro w3 b3 k3;have H3:=zN k3 H b3;clear b3))
 have z3:=k3.size
 clear hw_w1 hw_w2 H RS
 go_loopw [8] (fun i wr=>∃ j:Nat,j≤kb∧i=.int .i64 j∧(((Far w wr∧Blk wr w.heap.size 26 #[.int .i64 h0,.int .i64 v0,.int .i64 c0,.int .i64 l0,.slice A n cap])∧Blk wr w1.heap.size 23 (sN 0 0 0))∧Blk wr w2.heap.size 23 (sN (inV m (h0,v0,c0) j).1 (inV m (h0,v0,c0) j).2.1 (inV m (h0,v0,c0) j).2.2))) (fun i _=>kb - (intOf i).toNat)
 case atStart=>exact ⟨0,Nat.zero_le _,rfl,H3.out⟩
 case round =>
  clear H3
  obtain ⟨j,hj,rfl,hH⟩:=hrel
  obtain ⟨wi,hwi⟩:∃ x,x=wr:=⟨_,rfl⟩
  subst hwi
  have H:=zH hH
  clear hH k3
  by_cases hlj:j < kb
  ·have p1:(j:Int) < (kb:Int):=by omega
   have gj:IntKind.i64.wrap ((j:Int)+1)=((j+1:Nat):Int):=(IntWalk.i64_in _ (by omega)).trans (by simp)
   obtain ⟨m',ga,oa,A',n',c',hm',rfl,hga,hca,hA⟩:=(HU.out.fut H.out.1.1.1.out).out.model_at km kn
   obtain rfl:m'=m:=Option.some.inj (hm'.symm.trans HM.out)
   have ln:=hA.n_eq
   have jn:j < n':=by omega
   have HA:=zH (show Old w tBlk wi A' n' c' m' from ⟨hA,H.out.1.1.1.size⟩)
   obtain ⟨b,gb,ob,L,nl,cl,W,nw,cw,B,nb,cb,hb,rfl,hgb,rg,hat⟩:=HA.out.out.blk_at j (by omega)
   have BO:=zH (MO.out.blocks j (by omega)).shapes
   rw [getD_at hb] at BO
   have II:=zH (inV_good MO.out GS.out (k:=j) (by omega)).in_
   obtain ⟨⟨s1,s2,s3⟩,hs⟩:∃ x,inV m' (h0,v0,c0) j=x:=⟨_,rfl⟩
   have IV:=zH (show inV m' (h0,v0,c0) (j+1)=outV (m'.getD j noBlk) (inV m' (h0,v0,c0) j) from rfl)
   rw [getD_at hb,hs] at IV
   rw [hs] at BO II H
   have FB:=zH (FM.out b (List.mem_of_getElem? hb))
   have CB:=zH (fun ww h=>rcostBlock_any b L nl cl W nw cw B nb cb (s1,s2,s3) l0 ww h II.out FB.out BO.out CL.out)
   have AT:=zH (show BlkAt b L nl cl W nw cw B nb cb (blo wi.heap.size) wi from hat.keep (fun _ _=>rfl) (fun x hx=>Nat.lt_of_lt_of_le (show x < w.heap.size from hx) HA.out.le))
   have RG:=zH rg
   obtain ⟨need,hnd⟩:∃ x,b.head.need=x:=⟨_,rfl⟩
   obtain ⟨ex,hex⟩:∃ x,b.exit=x:=⟨_,rfl⟩
   simp only [hnd,hex] at CB RG
   obtain ⟨bc,hbc⟩:∃ x,blockC b (s1,s2,s3) l0=x:=⟨_,rfl⟩
   obtain ⟨⟨t1,t2,t3⟩,ht⟩:∃ x,outV b (s1,s2,s3)=x:=⟨_,rfl⟩
   rw [ht] at IV
   simp only [hbc,ht] at CB
   have la:ga < w.heap.size:=hga
   have zw:=H.out.2.lt
   have mw:w.heap.size≤wi.heap.size:=H.out.1.1.1.size
   clear hm' hs hb hgb rg hat hnd hex hbc ht hga
   go_upto_region 5 with fail
   go_cut [10] (fun b wx=>∃ g,b=.pointer (some ⟨g,0,none⟩)∧Blk wx g 23 (sN t1 t2 t3)∧wi.heap.size≤g∧Below wi.heap.size wi wx)
   case first =>
     refine wp_region_held_drew (S:=fun w'=>w'.cell? ⟨w.heap.size,4,none⟩=some (.slice (some ⟨ga,oa,none⟩) n cap)∧w'.cell? ⟨w.heap.size,3,none⟩=some (.int .i64 l0)∧w'.cell? ⟨ga,oa+km,none⟩=some (.slice (some ⟨gb,ob,none⟩) n' c')∧Blk w' w2.heap.size 23 (sN s1 s2 s3)∧Below wi.heap.size wi w') (by kernel_rfl) ?_ (fun hS=>?_)
     ·exact ⟨H.out.1.1.2.cell 4,H.out.1.1.2.cell 3,hca,H.out.2.drew,(Below.refl _ _).drew⟩
     refine kH 0 rfl hS ?_
     try simp only [pX]
     refine kH 1 rfl hS ?_
     try simp only [pX]
     refine kH 2 rfl hS ?_
     try simp only [pX]
     refine kH 3 rfl hS ?_
     try simp only [pX]
     refine kH 4 rfl hS ?_
     try simp only [pX]
     refine kH 5 rfl hS ?_
     try simp only [pX]
     refine kH 6 rfl hS ?_
     try simp only [pX]
     refine kH 7 rfl hS ?_
     try simp only [pX]
     refine tkH 8 rfl (yieldsIf_load_mid (by rfl) 49 (.tmp 27) rfl gb (ob+j*5) rfl _ _ (fun w hs q v hv=>cell_later hs.2.2.2.2 (RG.out q v hv)) Tryz.underlying49 rfl (by kernel_rfl)) hS ?_
     try simp only [pX]
     refine tkH 9 rfl (yB 23 (.tmp 7) w2.heap.size (fun w hs=>hs.2.2.2.1) Tryz.underlying23) hS ?_
     try simp only [pX]
     refine kH 10 rfl hS ?_
     try simp only [pX]
     refine kH 11 rfl hS ?_
     try simp only [pX]
     refine wpAnyH_ready (rs:=[12,17]) (by kernel_rfl) (by simp) ?_
     refine AllReadyH.cons rfl (fun K hK=>?_) (AllReadyH.cons rfl (fun K hK=>?_) AllReadyH.nil)
     ·go_simp
      refine (CB.out _ (AT.out.fut (hS.2.2.2.2))).mono ?_
      rintro e wa ⟨rfl,hb⟩
      refine hK.out _ _ ?_ (fun hS=>?_)
      ·exact ⟨(by first|exact cell_later hb hS.1|exact Blk.later hS.1 hb),(by first|exact cell_later hb hS.2.1|exact Blk.later hS.2.1 hb),(by first|exact cell_later hb hS.2.2.1|exact Blk.later hS.2.2.1 hb),(by first|exact cell_later hb hS.2.2.2.1|exact Blk.later hS.2.2.2.1 hb),below_later hb hS.2.2.2.2⟩
      clear hK K
      try simp only [pX]
      refine kH 13 rfl hS ?_
      try simp only [pX]
      refine kH 14 rfl hS ?_
      try simp only [pX]
      refine kH 15 rfl hS ?_
      try simp only [pX]
      refine kH 16 rfl hS ?_
      try simp only [pX]
      refine rH 17 rfl (fun K hK=>?_)
      go_simp
      have zli:wi.heap.size≤wa.heap.size:=(hS.2.2.2.2).size
      have hb:Below wa.heap.size wa (wa.alloc (.cells (sN 0 0 0) 23)):=(Below.refl _ _).alloc (Nat.le_refl _) _
      have BZ:=zH (Blk.now wa wa.heap.size 23 (sN 0 0 0) rfl)
      refine hK.out _ _ ?_ (fun hS=>?_)
      ·exact ⟨(by first|exact cell_later hb hS.1|exact Blk.later hS.1 hb),(by first|exact cell_later hb hS.2.1|exact Blk.later hS.2.1 hb),(by first|exact cell_later hb hS.2.2.1|exact Blk.later hS.2.2.1 hb),(by first|exact cell_later hb hS.2.2.2.1|exact Blk.later hS.2.2.2.1 hb),below_later hb hS.2.2.2.2⟩
      clear hK K
      try simp only [pX]
      refine kH 18 rfl hS ?_
      try simp only [pX]
      refine rH 19 rfl (fun K hK=>?_)
      rw [if_pos (by rfl)]
      refine oper_store_blk 23 (.tmp 10) (.tmp 34) rfl wa.heap.size 0 (sN t1 t2 t3) rfl rfl _ (sN 0 0 0) (sN t1 t2 t3) BZ.out (by simp) (by kernel_rfl) (by simp [Value.oneCell']) rfl ?_
      intro wc BX gc
      refine hK.out _ _ ⟨(by first|exact cellAway hS.1 gc (by omega)|exact hS.1.away gc (by omega)),(by first|exact cellAway hS.2.1 gc (by omega)|exact hS.2.1.away gc (by omega)),(by first|exact cellAway hS.2.2.1 gc (by omega)|exact hS.2.2.1.away gc (by omega)),(by first|exact cellAway hS.2.2.2.1 gc (by omega)|exact hS.2.2.2.1.away gc (by omega)),(hS.2.2.2.2).grown gc (hS.2.2.2.2).size (fun k h=>by have:=Option.some.inj h;omega)⟩ (fun hS=>?_)
      clear hK K
      try simp only [pX]
      refine kH 20 rfl hS ?_
      try simp only [pX]
      refine wpAnyH_done (by kernel_rfl) ?_ _
      have FZ:=hS.2.2.2.2
      go_wp2_with fail
      go_meet
      case rel=>exact ⟨_,rfl,BX,(by omega),FZ⟩
     ·go_simp
      have zli:wi.heap.size≤wi.heap.size:=(hS.2.2.2.2).size
      have hb:Below wi.drew.heap.size wi.drew (wi.drew.alloc (.cells (sN 0 0 0) 23)):=(Below.refl _ _).alloc (Nat.le_refl _) _
      have BZ:=zH (Blk.now wi.drew wi.heap.size 23 (sN 0 0 0) rfl)
      refine hK.out _ _ ?_ (fun hS=>?_)
      ·exact ⟨(by first|exact cell_later hb hS.1|exact Blk.later hS.1 hb),(by first|exact cell_later hb hS.2.1|exact Blk.later hS.2.1 hb),(by first|exact cell_later hb hS.2.2.1|exact Blk.later hS.2.2.1 hb),(by first|exact cell_later hb hS.2.2.2.1|exact Blk.later hS.2.2.2.1 hb),below_later hb hS.2.2.2.2⟩
      clear hK K
      try simp only [pX]
      refine rH 12 rfl (fun K hK=>?_)
      go_simp
      refine (CB.out _ (AT.out.fut (hS.2.2.2.2))).mono ?_
      rintro e wa ⟨rfl,hb⟩
      replace BZ:=zH (BZ.out.later hb)
      refine hK.out _ _ ?_ (fun hS=>?_)
      ·exact ⟨(by first|exact cell_later hb hS.1|exact Blk.later hS.1 hb),(by first|exact cell_later hb hS.2.1|exact Blk.later hS.2.1 hb),(by first|exact cell_later hb hS.2.2.1|exact Blk.later hS.2.2.1 hb),(by first|exact cell_later hb hS.2.2.2.1|exact Blk.later hS.2.2.2.1 hb),below_later hb hS.2.2.2.2⟩
      clear hK K
      try simp only [pX]
      refine kH 13 rfl hS ?_
      try simp only [pX]
      refine kH 14 rfl hS ?_
      try simp only [pX]
      refine kH 15 rfl hS ?_
      try simp only [pX]
      refine kH 16 rfl hS ?_
      try simp only [pX]
      refine kH 18 rfl hS ?_
      try simp only [pX]
      refine rH 19 rfl (fun K hK=>?_)
      rw [if_pos (by rfl)]
      refine oper_store_blk 23 (.tmp 10) (.tmp 34) rfl wi.heap.size 0 (sN t1 t2 t3) rfl rfl _ (sN 0 0 0) (sN t1 t2 t3) BZ.out (by simp) (by kernel_rfl) (by simp [Value.oneCell']) rfl ?_
      intro wc BX gc
      refine hK.out _ _ ⟨(by first|exact cellAway hS.1 gc (by omega)|exact hS.1.away gc (by omega)),(by first|exact cellAway hS.2.1 gc (by omega)|exact hS.2.1.away gc (by omega)),(by first|exact cellAway hS.2.2.1 gc (by omega)|exact hS.2.2.1.away gc (by omega)),(by first|exact cellAway hS.2.2.2.1 gc (by omega)|exact hS.2.2.2.1.away gc (by omega)),(hS.2.2.2.2).grown gc (hS.2.2.2.2).size (fun k h=>by have:=Option.some.inj h;omega)⟩ (fun hS=>?_)
      clear hK K
      try simp only [pX]
      refine kH 20 rfl hS ?_
      try simp only [pX]
      refine wpAnyH_done (by kernel_rfl) ?_ _
      have FZ:=hS.2.2.2.2
      go_wp2_with fail
      go_meet
      case rel=>exact ⟨_,rfl,BX,(by omega),FZ⟩
   case rest =>
   obtain ⟨gt,rfl,BX,hgt,hbx⟩:=hcut
   have BXX:=zH BX
   replace H:=zF hbx H
   have B7:=zH H.out.2
   clear BX hbx
   go_wp2_with (first
    | (refine lB 23 (.tmp 10) gt BXX.out Tryz.underlying23 ?_)
    | (refine sB 23 (.tmp 7) (.tmp 36) w2.heap.size (sN t1 t2 t3) B7.out ?_;intro w8 b8 g8;replace H:=zS g8 b8 H;clear b8 g8))
   exact ⟨⟨j+1,by omega,by go_num,by rw [IV.out];exact H.out⟩,by simp [intOf];omega⟩
  ·obtain rfl:kb=j:=by omega
   have p1:¬ (kb:Int) < (kb:Int):=by omega
   obtain ⟨⟨s1,s2,s3⟩,hs⟩:∃ x,inV m (h0,v0,c0) kb=x:=⟨_,rfl⟩
   rw [hs] at H
   have E:=zH hs
   clear hs
   go_wp2_with (first
    | (refine lB 23 (.tmp 7) w2.heap.size H.out.2 Tryz.underlying23 ?_)
    | (refine sB 23 (.tmp 6) (.tmp 37) w1.heap.size (sN s1 s2 s3) H.out.1.2 ?_;intro w9 b9 g9;have F9:=zA g9 (zH H.out.1.1.1);clear g9))
   refine ret_cell rfl b9 rfl Tryz.underlying23 (by kernel_rfl) rfl ?_
   exact ⟨by rw [E.out],F9.out.out⟩
theorem rcost_any (u:Bun) (A:Option Addr) (n cap:Nat) (w:World) (hu:Sl tModel w (blo w.heap.size) A n cap u.models) (hf:fewU u) (ok:BunOk u) (km:Nat) (m:List BlkD) (hm:u.models[km]?=some m) (j:Nat) (hj:j < m.length) :
  Calls Tryz.prog 23 #[.agg #[.int .i64 u.h,.int .i64 u.v,.int .i64 u.c,.int .i64 u.cl,.slice A n cap],.int .i64 km,.int .i64 j] w fun e w'=>e=.returned (.int .i64 (blockC (m.getD j noBlk) (inV m (u.h,u.v,u.c) j) u.cl))∧Below w.heap.size w w':=by
 have IN:=zH (fun w h=>rin_any u A n cap w h hf ok km m hm j (Nat.le_of_lt hj))
 have HU:=zH (Old.now hu)
 have LU:=zH hu.n_eq
 have MO:=zH (ok.model hm)
 have GS:=zH ok.good
 have CL:=zH ok.cl
 have FM:=zH (hf.2 m (List.mem_of_getElem? hm)).2
 have HM:=zH hm
 have n4:n≤4:=by have:=hf.1;rw [hu.n_eq] at this;exact this
 have kn:km < n:=by have:=(List.getElem?_eq_some_iff.1 hm).1;rw [hu.n_eq] at this;exact this
 have m6:m.length≤6:=MO.out.six
 obtain ⟨h0,hh⟩:∃ x,u.h=x:=⟨_,rfl⟩
 obtain ⟨v0,hv⟩:∃ x,u.v=x:=⟨_,rfl⟩
 obtain ⟨c0,hc⟩:∃ x,u.c=x:=⟨_,rfl⟩
 obtain ⟨l0,hl⟩:∃ x,u.cl=x:=⟨_,rfl⟩
 simp only [hh,hv,hc,hl] at MO GS CL IN
 rw [hh,hv,hc,hl]
 clear hh hv hc hl hu hf ok
 have H:=zH (Far.refl w)
 obtain ⟨w1,hw_w1,B1,k1⟩:=nB w #[.int .i64 h0,.int .i64 v0,.int .i64 c0,.int .i64 l0,.slice A n cap] 26
 replace H:=zN k1 H B1
 clear B1 k1
 have l1:w.heap.size < w1.heap.size:=by rw [← hw_w1];simp
 obtain ⟨m',ga,oa,A',n',c',hm',rfl,hga,hca,hA⟩:=(HU.out.fut H.out.1.out).out.model_at km kn
 obtain rfl:m'=m:=Option.some.inj (hm'.symm.trans HM.out)
 have ln:=hA.n_eq
 have HA:=zH (show Old w tBlk w1 A' n' c' m' from ⟨hA,H.out.1.size⟩)
 obtain ⟨b,gb,ob,L,nl,cl,W,nw,cw,B,nb,cb,hb,rfl,hgb,rg,hat⟩:=HA.out.out.blk_at j (by omega)
 have BO:=zH (MO.out.blocks j (by omega)).shapes
 rw [getD_at hb] at BO
 have II:=zH (inV_good MO.out GS.out (k:=j) (by omega)).in_
 obtain ⟨⟨s1,s2,s3⟩,hs⟩:∃ x,inV m' (h0,v0,c0) j=x:=⟨_,rfl⟩
 rw [getD_at hb]
 rw [hs] at BO II
 simp only [hs] at IN
 rw [hs]
 have FB:=zH (FM.out b (List.mem_of_getElem? hb))
 have CB:=zH (fun ww h=>rcostBlock_any b L nl cl W nw cw B nb cb (s1,s2,s3) l0 ww h II.out FB.out BO.out CL.out)
 have AT:=zH (show BlkAt b L nl cl W nw cw B nb cb (blo w1.heap.size) w1 from hat.keep (fun _ _=>rfl) (fun x hx=>Nat.lt_of_lt_of_le (show x < w.heap.size from hx) HA.out.le))
 have RG:=zH rg
 obtain ⟨need,hnd⟩:∃ x,b.head.need=x:=⟨_,rfl⟩
 obtain ⟨ex,hex⟩:∃ x,b.exit=x:=⟨_,rfl⟩
 simp only [hnd,hex] at CB RG
 obtain ⟨bc,hbc⟩:∃ x,blockC b (s1,s2,s3) l0=x:=⟨_,rfl⟩
 obtain ⟨⟨t1,t2,t3⟩,ht⟩:∃ x,outV b (s1,s2,s3)=x:=⟨_,rfl⟩
 simp only [hbc,ht] at CB
 rw [hbc]
 have la:ga < w.heap.size:=hga
 have jn:j < n':=by omega
 have j1:(j:Int) < (n':Int):=by omega
 have k1:(km:Int) < (n:Int):=by omega
 clear hm' hs hb hgb rg hat hnd hex hbc ht hga
 go_enter Tryz.func23,Tryz.ntmps23
 go_upto_region 1 with fail
 clear hw_w1
 go_cut [7] (fun b wx=>b=.int .i64 bc∧Below w1.heap.size w1 wx)
 case first =>
  refine wp_region_held_drew (S:=fun w'=>w'.cell? ⟨w.heap.size,4,none⟩=some (.slice (some ⟨ga,oa,none⟩) n cap)∧w'.cell? ⟨w.heap.size,3,none⟩=some (.int .i64 l0)∧w'.cell? ⟨ga,oa+km,none⟩=some (.slice (some ⟨gb,ob,none⟩) n' c')∧Blk w' w.heap.size 26 #[.int .i64 h0,.int .i64 v0,.int .i64 c0,.int .i64 l0,.slice (some ⟨ga,oa,none⟩) n cap]∧Below w1.heap.size w1 w') (by kernel_rfl) ?_ (fun hS=>?_)
  ·exact ⟨H.out.2.cell 4,H.out.2.cell 3,hca,H.out.2.drew,(Below.refl _ _).drew⟩
  refine kH 0 rfl hS ?_
  try simp only [pX]
  refine kH 1 rfl hS ?_
  try simp only [pX]
  refine kH 2 rfl hS ?_
  try simp only [pX]
  refine kH 3 rfl hS ?_
  try simp only [pX]
  refine kH 4 rfl hS ?_
  try simp only [pX]
  refine kH 5 rfl hS ?_
  try simp only [pX]
  refine kH 6 rfl hS ?_
  try simp only [pX]
  refine kH 7 rfl hS ?_
  try simp only [pX]
  refine tkH 8 rfl (yieldsIf_load_mid (by rfl) 49 (.tmp 18) rfl gb (ob+j*5) rfl _ _ (fun w hs q v hv=>cell_later hs.2.2.2.2 (RG.out q v hv)) Tryz.underlying49 rfl (by kernel_rfl)) hS ?_
  try simp only [pX]
  refine tkH 9 rfl (yB 26 (.tmp 3) w.heap.size (fun w hs=>hs.2.2.2.1) Tryz.underlying26) hS ?_
  try simp only [pX]
  refine kH 10 rfl hS ?_
  try simp only [pX]
  refine kH 11 rfl hS ?_
  try simp only [pX]
  refine kH 13 rfl hS ?_
  try simp only [pX]
  refine kH 14 rfl hS ?_
  try simp only [pX]
  refine wpAnyH_ready (rs:=[12,20]) (by kernel_rfl) (by simp) ?_
  refine AllReadyH.cons rfl (fun K hK=>?_) (AllReadyH.cons rfl (fun K hK=>?_) AllReadyH.nil)
  ·go_simp
   refine (IN.out _ (HU.out.fut (below_later (hS.2.2.2.2) H.out.1.out)).all).mono ?_
   rintro e wa ⟨rfl,hb⟩
   refine hK.out _ _ ?_ (fun hS=>?_)
   ·exact ⟨(by first|exact cell_later hb hS.1|exact Blk.later hS.1 hb),(by first|exact cell_later hb hS.2.1|exact Blk.later hS.2.1 hb),(by first|exact cell_later hb hS.2.2.1|exact Blk.later hS.2.2.1 hb),(by first|exact cell_later hb hS.2.2.2.1|exact Blk.later hS.2.2.2.1 hb),below_later hb hS.2.2.2.2⟩
   clear hK K
   try simp only [pX]
   refine wpAnyH_ready (rs:=[15,20]) (by kernel_rfl) (by simp) ?_
   refine AllReadyH.cons rfl (fun K hK=>?_) (AllReadyH.cons rfl (fun K hK=>?_) AllReadyH.nil)
   ·go_simp
    refine (CB.out _ (AT.out.fut (hS.2.2.2.2))).mono ?_
    rintro e wb ⟨rfl,hb⟩
    refine hK.out _ _ ?_ (fun hS=>?_)
    ·exact ⟨(by first|exact cell_later hb hS.1|exact Blk.later hS.1 hb),(by first|exact cell_later hb hS.2.1|exact Blk.later hS.2.1 hb),(by first|exact cell_later hb hS.2.2.1|exact Blk.later hS.2.2.1 hb),(by first|exact cell_later hb hS.2.2.2.1|exact Blk.later hS.2.2.2.1 hb),below_later hb hS.2.2.2.2⟩
    clear hK K
    try simp only [pX]
    refine kH 16 rfl hS ?_
    try simp only [pX]
    refine kH 17 rfl hS ?_
    try simp only [pX]
    refine kH 18 rfl hS ?_
    try simp only [pX]
    refine kH 19 rfl hS ?_
    try simp only [pX]
    refine rH 20 rfl (fun K hK=>?_)
    go_simp
    have zli:w1.heap.size≤wb.heap.size:=(hS.2.2.2.2).size
    have hb:Below wb.heap.size wb (wb.alloc (.cells (sN 0 0 0) 23)):=(Below.refl _ _).alloc (Nat.le_refl _) _
    have BZ:=zH (Blk.now wb wb.heap.size 23 (sN 0 0 0) rfl)
    refine hK.out _ _ ?_ (fun hS=>?_)
    ·exact ⟨(by first|exact cell_later hb hS.1|exact Blk.later hS.1 hb),(by first|exact cell_later hb hS.2.1|exact Blk.later hS.2.1 hb),(by first|exact cell_later hb hS.2.2.1|exact Blk.later hS.2.2.1 hb),(by first|exact cell_later hb hS.2.2.2.1|exact Blk.later hS.2.2.2.1 hb),below_later hb hS.2.2.2.2⟩
    clear hK K
    try simp only [pX]
    refine kH 21 rfl hS ?_
    try simp only [pX]
    refine rH 22 rfl (fun K hK=>?_)
    rw [if_pos (by rfl)]
    refine oper_store_blk 23 (.tmp 8) (.tmp 28) rfl wb.heap.size 0 (sN t1 t2 t3) rfl rfl _ (sN 0 0 0) (sN t1 t2 t3) BZ.out (by simp) (by kernel_rfl) (by simp [Value.oneCell']) rfl ?_
    intro wc BX gc
    refine hK.out _ _ ⟨(by first|exact cellAway hS.1 gc (by omega)|exact hS.1.away gc (by omega)),(by first|exact cellAway hS.2.1 gc (by omega)|exact hS.2.1.away gc (by omega)),(by first|exact cellAway hS.2.2.1 gc (by omega)|exact hS.2.2.1.away gc (by omega)),(by first|exact cellAway hS.2.2.2.1 gc (by omega)|exact hS.2.2.2.1.away gc (by omega)),(hS.2.2.2.2).grown gc (hS.2.2.2.2).size (fun k h=>by have:=Option.some.inj h;omega)⟩ (fun hS=>?_)
    clear hK K
    try simp only [pX]
    refine kH 23 rfl hS ?_
    try simp only [pX]
    refine wpAnyH_done (by kernel_rfl) ?_ _
    have FZ:=hS.2.2.2.2
    go_wp2_with fail
    go_meet
    case rel=>exact ⟨rfl,FZ⟩
   ·go_simp
    have zli:w1.heap.size≤wa.heap.size:=(hS.2.2.2.2).size
    have hb:Below wa.heap.size wa (wa.alloc (.cells (sN 0 0 0) 23)):=(Below.refl _ _).alloc (Nat.le_refl _) _
    have BZ:=zH (Blk.now wa wa.heap.size 23 (sN 0 0 0) rfl)
    refine hK.out _ _ ?_ (fun hS=>?_)
    ·exact ⟨(by first|exact cell_later hb hS.1|exact Blk.later hS.1 hb),(by first|exact cell_later hb hS.2.1|exact Blk.later hS.2.1 hb),(by first|exact cell_later hb hS.2.2.1|exact Blk.later hS.2.2.1 hb),(by first|exact cell_later hb hS.2.2.2.1|exact Blk.later hS.2.2.2.1 hb),below_later hb hS.2.2.2.2⟩
    clear hK K
    try simp only [pX]
    refine rH 15 rfl (fun K hK=>?_)
    go_simp
    refine (CB.out _ (AT.out.fut (hS.2.2.2.2))).mono ?_
    rintro e wb ⟨rfl,hb⟩
    replace BZ:=zH (BZ.out.later hb)
    refine hK.out _ _ ?_ (fun hS=>?_)
    ·exact ⟨(by first|exact cell_later hb hS.1|exact Blk.later hS.1 hb),(by first|exact cell_later hb hS.2.1|exact Blk.later hS.2.1 hb),(by first|exact cell_later hb hS.2.2.1|exact Blk.later hS.2.2.1 hb),(by first|exact cell_later hb hS.2.2.2.1|exact Blk.later hS.2.2.2.1 hb),below_later hb hS.2.2.2.2⟩
    clear hK K
    try simp only [pX]
    refine kH 16 rfl hS ?_
    try simp only [pX]
    refine kH 17 rfl hS ?_
    try simp only [pX]
    refine kH 18 rfl hS ?_
    try simp only [pX]
    refine kH 19 rfl hS ?_
    try simp only [pX]
    refine kH 21 rfl hS ?_
    try simp only [pX]
    refine rH 22 rfl (fun K hK=>?_)
    rw [if_pos (by rfl)]
    refine oper_store_blk 23 (.tmp 8) (.tmp 28) rfl wa.heap.size 0 (sN t1 t2 t3) rfl rfl _ (sN 0 0 0) (sN t1 t2 t3) BZ.out (by simp) (by kernel_rfl) (by simp [Value.oneCell']) rfl ?_
    intro wc BX gc
    refine hK.out _ _ ⟨(by first|exact cellAway hS.1 gc (by omega)|exact hS.1.away gc (by omega)),(by first|exact cellAway hS.2.1 gc (by omega)|exact hS.2.1.away gc (by omega)),(by first|exact cellAway hS.2.2.1 gc (by omega)|exact hS.2.2.1.away gc (by omega)),(by first|exact cellAway hS.2.2.2.1 gc (by omega)|exact hS.2.2.2.1.away gc (by omega)),(hS.2.2.2.2).grown gc (hS.2.2.2.2).size (fun k h=>by have:=Option.some.inj h;omega)⟩ (fun hS=>?_)
    clear hK K
    try simp only [pX]
    refine kH 23 rfl hS ?_
    try simp only [pX]
    refine wpAnyH_done (by kernel_rfl) ?_ _
    have FZ:=hS.2.2.2.2
    go_wp2_with fail
    go_meet
    case rel=>exact ⟨rfl,FZ⟩
  ·go_simp
   have zli:w1.heap.size≤w1.heap.size:=(hS.2.2.2.2).size
   have hb:Below w1.drew.heap.size w1.drew (w1.drew.alloc (.cells (sN 0 0 0) 23)):=(Below.refl _ _).alloc (Nat.le_refl _) _
   have BZ:=zH (Blk.now w1.drew w1.heap.size 23 (sN 0 0 0) rfl)
   refine hK.out _ _ ?_ (fun hS=>?_)
   ·exact ⟨(by first|exact cell_later hb hS.1|exact Blk.later hS.1 hb),(by first|exact cell_later hb hS.2.1|exact Blk.later hS.2.1 hb),(by first|exact cell_later hb hS.2.2.1|exact Blk.later hS.2.2.1 hb),(by first|exact cell_later hb hS.2.2.2.1|exact Blk.later hS.2.2.2.1 hb),below_later hb hS.2.2.2.2⟩
   clear hK K
   try simp only [pX]
   refine rH 12 rfl (fun K hK=>?_)
   go_simp
   refine (IN.out _ (HU.out.fut (below_later (hS.2.2.2.2) H.out.1.out)).all).mono ?_
   rintro e wa ⟨rfl,hb⟩
   replace BZ:=zH (BZ.out.later hb)
   refine hK.out _ _ ?_ (fun hS=>?_)
   ·exact ⟨(by first|exact cell_later hb hS.1|exact Blk.later hS.1 hb),(by first|exact cell_later hb hS.2.1|exact Blk.later hS.2.1 hb),(by first|exact cell_later hb hS.2.2.1|exact Blk.later hS.2.2.1 hb),(by first|exact cell_later hb hS.2.2.2.1|exact Blk.later hS.2.2.2.1 hb),below_later hb hS.2.2.2.2⟩
   clear hK K
   try simp only [pX]
   refine rH 15 rfl (fun K hK=>?_)
   go_simp
   refine (CB.out _ (AT.out.fut (hS.2.2.2.2))).mono ?_
   rintro e wb ⟨rfl,hb⟩
   replace BZ:=zH (BZ.out.later hb)
   refine hK.out _ _ ?_ (fun hS=>?_)
   ·exact ⟨(by first|exact cell_later hb hS.1|exact Blk.later hS.1 hb),(by first|exact cell_later hb hS.2.1|exact Blk.later hS.2.1 hb),(by first|exact cell_later hb hS.2.2.1|exact Blk.later hS.2.2.1 hb),(by first|exact cell_later hb hS.2.2.2.1|exact Blk.later hS.2.2.2.1 hb),below_later hb hS.2.2.2.2⟩
   clear hK K
   try simp only [pX]
   refine kH 16 rfl hS ?_
   try simp only [pX]
   refine kH 17 rfl hS ?_
   try simp only [pX]
   refine kH 18 rfl hS ?_
   try simp only [pX]
   refine kH 19 rfl hS ?_
   try simp only [pX]
   refine kH 21 rfl hS ?_
   try simp only [pX]
   refine rH 22 rfl (fun K hK=>?_)
   rw [if_pos (by rfl)]
   refine oper_store_blk 23 (.tmp 8) (.tmp 28) rfl w1.heap.size 0 (sN t1 t2 t3) rfl rfl _ (sN 0 0 0) (sN t1 t2 t3) BZ.out (by simp) (by kernel_rfl) (by simp [Value.oneCell']) rfl ?_
   intro wc BX gc
   refine hK.out _ _ ⟨(by first|exact cellAway hS.1 gc (by omega)|exact hS.1.away gc (by omega)),(by first|exact cellAway hS.2.1 gc (by omega)|exact hS.2.1.away gc (by omega)),(by first|exact cellAway hS.2.2.1 gc (by omega)|exact hS.2.2.1.away gc (by omega)),(by first|exact cellAway hS.2.2.2.1 gc (by omega)|exact hS.2.2.2.1.away gc (by omega)),(hS.2.2.2.2).grown gc (hS.2.2.2.2).size (fun k h=>by have:=Option.some.inj h;omega)⟩ (fun hS=>?_)
   clear hK K
   try simp only [pX]
   refine kH 23 rfl hS ?_
   try simp only [pX]
   refine wpAnyH_done (by kernel_rfl) ?_ _
   have FZ:=hS.2.2.2.2
   go_wp2_with fail
   go_meet
   case rel=>exact ⟨rfl,FZ⟩
 case rest =>
 obtain ⟨rfl,hbx⟩:=hcut
 replace H:=zF hbx H
 go_wp2_with fail
 go_ret
 exact ⟨rfl,H.out.1.out⟩
end Go.Proofs.YtppcjcigekoipaaGreat
