/-
  What a bundle is wrong in, by the document (layer 33): its Bundle.
-/
import Derived.Test.YtppcjcigekoipaaGreatJ43
import Derived.Test.YtppcjcigekoipaaGreatJ35
set_option linter.unusedVariables false
set_option linter.unusedSimpArgs false
namespace Go.Proofs.YtppcjcigekoipaaGreat
open Go.RowKit Go.ChangeShapes Go.WideShapes
set_option maxRecDepth 100000
set_option maxHeartbeats 8000000
theorem rvbundle_any (u:Bun) (A:Option Addr) (n cap:Nat) (w:World) (hu:Sl tModel w (blo w.heap.size) A n cap u.models) (hi:inU u) (hf:fewU u) :
  Calls Tryz.prog 14 #[.agg #[.int .i64 u.h,.int .i64 u.v,.int .i64 u.c,.int .i64 u.cl,.slice A n cap]] w fun e w'=>e=.returned (.agg #[.int .i64 (bundleV u).1,.int .i64 (bundleV u).2.1,.int .i64 (bundleV u).2.2.1,.int .i64 (bundleV u).2.2.2])∧Below w.heap.size w w':=by
 have n9:n≤9223372036854775807:=Nat.le_trans hu.cap_le hu.max_le
 have LN:=zH hu.n_eq
 have HU:=zH (Old.now hu)
 have HF:=zH hf
 have HI:=zH hi
 have HV:=zH (show bundleV u=if wholeV u ≠ 0 then (wholeV u,-1,-1,-1) else runU u u.models.length from rfl)
 have WV:=zH (show wholeV u=if elems u.h u.v u.c=0 then 5 else if u.cl < 2 ∨ 16 < u.cl then 2 else if u.models.length=0 then 12 else if 3 < u.models.length then 4 else 0 from rfl)
 obtain ⟨r,hr⟩:∃ x,bundleV u=x:=⟨_,rfl⟩
 obtain ⟨wv,hwv⟩:∃ x,wholeV u=x:=⟨_,rfl⟩
 rw [hr,hwv,LN.out] at HV
 rw [hwv,LN.out] at WV
 rw [hr]
 obtain ⟨h0,hh⟩:∃ x,u.h=x:=⟨_,rfl⟩
 obtain ⟨v0,hv⟩:∃ x,u.v=x:=⟨_,rfl⟩
 obtain ⟨c0,hc⟩:∃ x,u.c=x:=⟨_,rfl⟩
 obtain ⟨l0,hl⟩:∃ x,u.cl=x:=⟨_,rfl⟩
 have RU:=zH (fun k m (h1:(runU u k).1=0) (h2:u.models[k]?=some m)=>runU_next h1 h2)
 have UB:=zH (fun k=>runU_bad (u:=u) (k:=k))
 have UZ:=zH (fun k=>runU_zero (u:=u) (k:=k))
 unfold inU at HI
 simp only [hh,hv,hc,hl] at RU HI WV
 rw [hh,hv,hc,hl]
 clear hr hwv hh hv hc hl hu hi hf
 have EL:=zH (fun w=>relems_any h0 c0 v0 w HI.out.1 HI.out.2.1 HI.out.2.2.1)
 obtain ⟨el,hel⟩:∃ x,elems h0 v0 c0=x:=⟨_,rfl⟩
 simp only [hel] at EL
 rw [hel] at WV
 clear hel
 have H:=zH (Far.refl w)
 obtain ⟨w1,hw_w1,B1,k1⟩:=nB w #[.int .i64 h0,.int .i64 v0,.int .i64 c0,.int .i64 l0,.slice A n cap] 26
 replace H:=zN k1 H B1
 clear B1 k1
 obtain ⟨w2,hw_w2,B2,k2⟩:=nB w1 #[.int .i64 0,.int .i64 0,.int .i64 0,.int .i64 0] 53
 replace H:=zN k2 H B2
 clear B2 k2
 have l1:w.heap.size < w1.heap.size:=by rw [← hw_w1];simp
 have l2:w1.heap.size < w2.heap.size:=by rw [← hw_w2];simp
 have RS:=zH (range_blk (off:=0) (vs:=[.int .i64 h0,.int .i64 v0,.int .i64 c0]) H.out.1.2 rfl)
 go_enter Tryz.func14,Tryz.ntmps14
 go_wp2_with (refine lM 23 (.tmp 12) RS.out Tryz.underlying23 ?_)
 refine (EL.out _).mono ?_
 rintro e w3 ⟨rfl,hb⟩
 replace H:=zF hb H
 have z3:=hb.size
 clear hb hw_w1 hw_w2 EL RS
 have cA:=fun i=>H.out.1.2.cell i
 by_cases e1:el=0
 ·have t1:(el == 0)=true:=by simp [e1]
  rw [if_pos e1] at WV
  rw [WV.out,if_pos (by decide)] at HV
  clear e1 WV
  go_wp2_with (refine sB 53 (.tmp 2) (.tmp 16) w1.heap.size #[.int .i64 5,.int .i64 (-1),.int .i64 (-1),.int .i64 (-1)] H.out.2 ?_;intro w9 b9 g9;have F9:=zA g9 (zH H.out.1.1);clear g9)
  refine ret_cell rfl b9 rfl Tryz.underlying53 (by kernel_rfl) rfl ?_
  exact ⟨by rw [HV.out] <;> rfl,F9.out.out⟩
 have t1:(el == 0)=false:=by simpa using e1
 rw [if_neg e1] at WV
 clear e1
 by_cases e2:l0 < 2
 ·have t2:decide (l0 < 2)=true:=by simpa using e2
  rw [if_pos (.inl e2)] at WV
  rw [WV.out,if_pos (by decide)] at HV
  clear e2 WV
  go_wp2_with (refine sB 53 (.tmp 2) (.tmp 25) w1.heap.size #[.int .i64 2,.int .i64 (-1),.int .i64 (-1),.int .i64 (-1)] H.out.2 ?_;intro w9 b9 g9;have F9:=zA g9 (zH H.out.1.1);clear g9)
  refine ret_cell rfl b9 rfl Tryz.underlying53 (by kernel_rfl) rfl ?_
  exact ⟨by rw [HV.out] <;> rfl,F9.out.out⟩
 have t2:decide (l0 < 2)=false:=by simpa using e2
 by_cases e3:16 < l0
 ·have t3:decide (16 < l0)=true:=by simpa using e3
  rw [if_pos (.inr e3)] at WV
  rw [WV.out,if_pos (by decide)] at HV
  clear e2 e3 WV
  go_wp2_with (refine sB 53 (.tmp 2) (.tmp 25) w1.heap.size #[.int .i64 2,.int .i64 (-1),.int .i64 (-1),.int .i64 (-1)] H.out.2 ?_;intro w9 b9 g9;have F9:=zA g9 (zH H.out.1.1);clear g9)
  refine ret_cell rfl b9 rfl Tryz.underlying53 (by kernel_rfl) rfl ?_
  exact ⟨by rw [HV.out] <;> rfl,F9.out.out⟩
 have t3:decide (16 < l0)=false:=by simpa using e3
 rw [if_neg (by omega)] at WV
 clear e2 e3
 by_cases e4:n=0
 ·have t4:((n:Int) == 0)=true:=by simp;omega
  rw [if_pos e4] at WV
  rw [WV.out,if_pos (by decide)] at HV
  clear e4 WV
  go_wp2_with (refine sB 53 (.tmp 2) (.tmp 30) w1.heap.size #[.int .i64 12,.int .i64 (-1),.int .i64 (-1),.int .i64 (-1)] H.out.2 ?_;intro w9 b9 g9;have F9:=zA g9 (zH H.out.1.1);clear g9)
  refine ret_cell rfl b9 rfl Tryz.underlying53 (by kernel_rfl) rfl ?_
  exact ⟨by rw [HV.out] <;> rfl,F9.out.out⟩
 have t4:((n:Int) == 0)=false:=by simp;omega
 rw [if_neg e4] at WV
 clear e4
 by_cases e5:3 < n
 ·have t5:decide (3 < (n:Int))=true:=by simp;omega
  rw [if_pos e5] at WV
  rw [WV.out,if_pos (by decide)] at HV
  clear e5 WV
  go_wp2_with (refine sB 53 (.tmp 2) (.tmp 35) w1.heap.size #[.int .i64 4,.int .i64 (-1),.int .i64 (-1),.int .i64 (-1)] H.out.2 ?_;intro w9 b9 g9;have F9:=zA g9 (zH H.out.1.1);clear g9)
  refine ret_cell rfl b9 rfl Tryz.underlying53 (by kernel_rfl) rfl ?_
  exact ⟨by rw [HV.out] <;> rfl,F9.out.out⟩
 have t5:decide (3 < (n:Int))=false:=by simp;omega
 rw [if_neg e5] at WV
 rw [WV.out,if_neg (by decide)] at HV
 go_wp2_with fail
 have H2:=H
 clear H cA t1 t2 t3 t4 t5 WV
 go_loopw [3] (fun i wr=>∃ q:Nat,q≤n∧i=.int .i64 q∧(runU u q).1=0∧Below w3.heap.size w3 wr) (fun i _=>n - (intOf i).toNat)
 case atStart=>exact ⟨0,Nat.zero_le _,rfl,rfl,Below.refl _ _⟩
 case round =>
  obtain ⟨k,hk,rfl,hR,hb⟩:=hrel
  obtain ⟨wo,hwo⟩:∃ x,x=wr:=⟨_,rfl⟩
  subst hwo
  have H:=zF hb H2
  have RZ:=zH hR
  have G3:=zH hb
  have zo:=hb.size
  clear hR hb
  have cA:=fun i=>H.out.1.2.cell i
  by_cases hlt:k < n
  ·have p1:(k:Int) < (n:Int):=by omega
   have gk:IntKind.i64.wrap ((k:Int)+1)=((k+1:Nat):Int):=(IntWalk.i64_in _ (by omega)).trans (by simp)
   obtain ⟨m,ga,oa,A',n',c',hm,rfl,hga,hca,hA⟩:=(HU.out.fut H.out.1.1.out).out.model_at k hlt
   have RN:=zH (RU.out k m RZ.out hm)
   have UN:=zH (UB.out (k+1))
   have LM:=zH hA.n_eq
   have FB:=zH (HF.out.2 m (List.mem_of_getElem? hm))
   have n8:n'≤8:=by have:=FB.out.1;rw [LM.out] at this;exact this
   have MV:=zH (show modelV m (h0,v0,c0) l0 k=(if m.length=0 then (12,(k:Int),-1,-1) else if 6 < m.length then (4,(k:Int),-1,-1) else match runM m (h0,v0,c0) l0 m.length with
    | .on _=>(0,0,0,0)
    | .bad i a e=>(e,(k:Int),i,a):F4) from rfl)
   rw [LM.out] at MV
   have HA:=zH (show Old w tBlk wo A' n' c' m from ⟨hA,H.out.1.1.size⟩)
   rw [RN.out] at UN
   clear hm hga hA
   by_cases e6:n'=0
   ·have t6:((n':Int) == 0)=true:=by simp;omega
    rw [if_pos e6] at MV
    rw [MV.out] at UN
    rw [UN.out (by show (12:Int) ≠ 0;decide) n (by omega)] at HV
    clear e6
    go_wp2_with (refine sB 53 (.tmp 2) (.tmp 53) w1.heap.size #[.int .i64 12,.int .i64 k,.int .i64 (-1),.int .i64 (-1)] H.out.2 ?_;intro w9 b9 g9;have F9:=zA g9 (zH H.out.1.1);clear g9)
    refine ret_cell rfl b9 rfl Tryz.underlying53 (by kernel_rfl) rfl ?_
    exact ⟨by rw [HV.out] <;> rfl,F9.out.out⟩
   have t6:((n':Int) == 0)=false:=by simp;omega
   rw [if_neg e6] at MV
   by_cases e7:6 < n'
   ·have t7:decide (6 < (n':Int))=true:=by simp;omega
    rw [if_pos e7] at MV
    rw [MV.out] at UN
    rw [UN.out (by show (4:Int) ≠ 0;decide) n (by omega)] at HV
    clear e7
    go_wp2_with (refine sB 53 (.tmp 2) (.tmp 58) w1.heap.size #[.int .i64 4,.int .i64 k,.int .i64 (-1),.int .i64 (-1)] H.out.2 ?_;intro w9 b9 g9;have F9:=zA g9 (zH H.out.1.1);clear g9)
    refine ret_cell rfl b9 rfl Tryz.underlying53 (by kernel_rfl) rfl ?_
    exact ⟨by rw [HV.out] <;> rfl,F9.out.out⟩
   have t7:decide (6 < (n':Int))=false:=by simp;omega
   rw [if_neg e7] at MV
   have RS:=zH (range_blk (off:=0) (vs:=[.int .i64 h0,.int .i64 v0,.int .i64 c0]) H.out.1.2 rfl)
   go_wp2_with (first|(refine lM 23 (.tmp 59) RS.out Tryz.underlying23 ?_)|(refine sF 23 (.tmp 5) (.tmp 60) (sN h0 v0 c0) ?_;intro w5 b5 k5;have H5:=zN k5 H b5;clear cA hca b5))
   have z5:=k5.size
   have HA0:=HA
   clear HA
   clear t6 t7 e6 RS
   go_loopw [6] (fun i wr=>∃ (q:Nat) (s1 s2 s3:Int),q≤n'∧i=.int .i64 q∧runM m (h0,v0,c0) l0 q=.on (s1,s2,s3)∧(InK .i64 s1∧InK .i64 s2∧InK .i64 s3)∧(((Far w wr∧Blk wr w.heap.size 26 #[.int .i64 h0,.int .i64 v0,.int .i64 c0,.int .i64 l0,.slice (some ⟨ga,oa,none⟩) n cap])∧Blk wr w1.heap.size 53 #[.int .i64 0,.int .i64 0,.int .i64 0,.int .i64 0])∧Blk wr wo.heap.size 23 (sN s1 s2 s3))∧Below wo.heap.size wo wr) (fun i _=>n' - (intOf i).toNat)
   case atStart=>exact ⟨0,h0,v0,c0,Nat.zero_le _,rfl,rfl,⟨HI.out.1,HI.out.2.1,HI.out.2.2.1⟩,H5.out,k5⟩
   case round =>
    clear H5
    obtain ⟨q,s1,s2,s3,hq,rfl,hRM,hs,hH,hbo⟩:=hrel
    obtain ⟨wi,hwi⟩:∃ x,x=wr:=⟨_,rfl⟩
    subst hwi
    have H:=zH hH
    have GO:=zH hbo
    have RM:=zH hRM
    have IS:=zH hs
    clear hRM hs hH hbo
    by_cases hlq:q < n'
    ·have p2:(q:Int) < (n':Int):=by omega
     have gq:IntKind.i64.wrap ((q:Int)+1)=((q+1:Nat):Int):=(IntWalk.i64_in _ (by omega)).trans (by simp)
     have gl:IntKind.i64.wrap ((n':Int) - 1)=(n':Int) - 1:=IntWalk.i64_in _ (by omega)
     obtain ⟨b,g,off,L,nl,cl,W,nw,cw,B,nb,cb,hb,rfl,hga,rg,hat⟩:=(show Sl tBlk wi (blo w.heap.size) A' n' c' m from HA0.out.out.below GO.out (fun x hx=>Nat.lt_of_lt_of_le hx HA0.out.le)).blk_at q hlq
     have RN2:=zH (runM_next RM.out hb)
     rw [LM.out] at RN2
     have FX:=zH (FB.out.2 b (List.mem_of_getElem? hb))
     have VB:=zH (fun w h=>rvblock_any b L nl cl W nw cw B nb cb (s1,s2,s3) l0 ((q:Int) == (n':Int) - 1) w h IS.out HI.out.2.2.2 FX.out)
     have SV:=zH (fun w h=>rshapes_any L nl cl b.nodes s1 s2 s3 w h IS.out.1 IS.out.2.1 IS.out.2.2 FX.out.1.2)
     have BO:=zH (blockV_ok (b:=b) (s:=(s1,s2,s3)) (cl:=l0) (last:=((q:Int) == (n':Int) - 1)))
     have NL:=zH hat.nodes.n_eq
     have AT:=zH (hat.keep (S':=blo wi.heap.size) (fun _ _=>rfl) (fun x hx=>Nat.lt_of_lt_of_le hx H.out.1.1.1.size))
     have RG:=zH rg
     have SL:=zH (shapes_len (l:=b.nodes) (s:=(s1,s2,s3)))
     unfold outV at RN2
     unfold RetShapes at SV
     rw [NL.out] at RN2 SL
     clear hb hat rg hga
     obtain ⟨⟨ba,be⟩,hbv⟩:∃ x,blockV b (s1,s2,s3) l0 ((q:Int) == (n':Int) - 1)=x:=⟨_,rfl⟩
     obtain ⟨⟨sl,sp,se⟩,hsv⟩:∃ x,shapesV b.nodes (s1,s2,s3)=x:=⟨_,rfl⟩
     simp only [hbv] at RN2 VB BO
     simp only [hsv] at RN2 SV SL
     have BO2:=zH (fun h=>(BO.out h).shapes)
     rw [hsv] at BO2
     obtain ⟨need,hnd⟩:∃ x,b.head.need=x:=⟨_,rfl⟩
     obtain ⟨ex,hex⟩:∃ x,b.exit=x:=⟨_,rfl⟩
     simp only [hnd,hex] at VB RG
     obtain ⟨la,hla⟩:∃ x,((q:Int) == (n':Int) - 1)=x:=⟨_,rfl⟩
     simp only [hla] at VB
     clear hbv hsv BO hnd hex
     have R0:=zH (fun z:Ext wi=>rangeF RG.out z.2)
     have R1:=zH (fun z:Ext wi=>range_blk (off:=0) (vs:=[.int .i64 s1,.int .i64 s2,.int .i64 s3]) (H.out.2.ext z) rfl)
     have c3:∀ z:Ext wi,z.1.cell? ⟨w.heap.size,3,none⟩=some (.int .i64 l0):=fun z=>(H.out.1.1.2.ext z).cell 3
     have E1:=zH (fun z:Ext wi=>calls_ext z (VB.out z.1 (AT.out.fut z.2)))
     go_upto_region 21 with fail
     refine wp_region_ext wi (by kernel_rfl) (by kernel_rfl) (Below.refl _ _) ?_
     go_big_quiet_step (fail)
     go_big_quiet_step (fail)
     go_big_quiet_step (fail)
     refine wpQuiet_load_mid (by kernel_rfl) 49 (.tmp 70) rfl g (off+q*5) rfl _ _ (by rintro _ ⟨z,rfl⟩;exact R0.out z) Tryz.underlying49 rfl (by kernel_rfl) ?_
     simp only [pX]
     refine wpQuiet_load_mid (by kernel_rfl) 23 (.tmp 5) rfl wo.heap.size 0 rfl _ _ (by rintro _ ⟨z,rfl⟩;exact R1.out z) Tryz.underlying23 rfl (by kernel_rfl) ?_
     simp only [pX]
     repeat (go_big_quiet_step ((with_reducible exact E1.out _)))
     refine wpQuiet_nil ?_
     rintro wa ⟨⟨_,hb⟩,rfl⟩
     replace H:=zF hb H
     replace AT:=zH (AT.out.fut hb)
     replace RG:=zF hb RG
     have GA:=zH (below_later hb GO.out)
     clear hb R0 R1 c3 E1 GO hla
     by_cases e3:be=0
     rotate_left
     ·have t3:(be != 0)=true:=by simpa using e3
      rw [if_pos e3] at RN2
      rw [runM_bad RN2.out n' (by omega)] at MV
      simp only at MV
      rw [MV.out] at UN
      rw [UN.out (by exact e3) n (by omega)] at HV
      clear RN2 SV e3
      go_wp2_with (refine sB 53 (.tmp 2) (.tmp 89) w1.heap.size #[.int .i64 be,.int .i64 k,.int .i64 q,.int .i64 ba] H.out.1.2 ?_;intro w9 b9 g9;have F9:=zA g9 (zH H.out.1.1.1);clear g9)
      refine ret_cell rfl b9 rfl Tryz.underlying53 (by kernel_rfl) rfl ?_
      exact ⟨by rw [HV.out] <;> rfl,F9.out.out⟩
     have hse:se=0:=BO2.out e3
     subst e3 hse
     rw [if_neg (by decide)] at RN2
     have M3:=SL.out (by trivial)
     have R0:=RG.out 0 _ rfl
     go_upto_region 24 with fail
     refine wp_region_held_drew (S:=fun w'=>w'.cell? ⟨g,off+q*5,none⟩=some (.slice L nl cl)∧Blk w' wo.heap.size 23 (sN s1 s2 s3)∧Below wa.heap.size wa w') (by kernel_rfl) ?_ (fun hS=>?_)
     ·exact ⟨R0,H.out.2.drew,(Below.refl _ _).drew⟩
     refine kH 0 rfl hS ?_
     try simp only [pX]
     refine kH 1 rfl hS ?_
     try simp only [pX]
     refine kH 2 rfl hS ?_
     try simp only [pX]
     refine kH 3 rfl hS ?_
     try simp only [pX]
     refine kH 4 rfl hS ?_
     try simp only [pX]
     refine tkH 5 rfl (yB 23 (.tmp 5) wo.heap.size (fun w hs=>hs.2.1) Tryz.underlying23) hS ?_
     try simp only [pX]
     refine rH 6 rfl (fun K hK=>?_)
     go_simp
     refine (SV.out _ (AT.out.fut hS.2.2).nodes).mono ?_;rintro e w7 ⟨A3,m3,c3,rfl,q3,hb⟩;have N3:=zH (New.of q3 (Far.mk hS.2.2));have K3:=q3.n_eq;clear q3
     refine hK.out _ _ ?_ (fun hS=>?_)
     ·exact ⟨(by first|exact cell_later hb hS.1|exact Blk.later hS.1 hb),(by first|exact cell_later hb hS.2.1|exact Blk.later hS.2.1 hb),below_later hb hS.2.2⟩
     clear hK K
     try simp only [pX]
     refine kH 7 rfl hS ?_
     try simp only [pX]
     refine kH 8 rfl hS ?_
     try simp only [pX]
     refine kH 9 rfl hS ?_
     try simp only [pX]
     refine kH 10 rfl hS ?_
     try simp only [pX]
     refine kH 11 rfl hS ?_
     try simp only [pX]
     refine kH 12 rfl hS ?_
     try simp only [pX]
     refine kH 13 rfl hS ?_
     try simp only [pX]
     refine wpAnyH_done (by kernel_rfl) ?_ _
     have FZ:=hS.2.2
     replace H:=zF FZ H
     clear hS R0 SV
     obtain ⟨b3,o3,rfl,-,-,hx1,hx2,hx3,-,r3⟩:=N3.out.old.shape_at nl (by omega)
     obtain ⟨⟨x1,x2,x3⟩,hx⟩:∃ x,sl.getD nl (0,0,0)=x:=⟨_,rfl⟩
     rw [hx] at RN2 r3 hx1 hx2 hx3
     have R3:=zH r3
     have gm:IntKind.i64.wrap ((m3:Int) - 1)=(nl:Int):=by rw [show (m3:Int) - 1=(nl:Int) by omega];exact IntWalk.i64_in _ (by have:=N3.out.old.cap_le;have:=N3.out.old.max_le;unfold maxLen at *;omega)
     have gn:(nl:Int) < (m3:Int):=by omega
     have mm3:=Nat.le_trans N3.out.old.cap_le N3.out.old.max_le
     unfold maxLen at mm3
     have zw:=H.out.1.1.1.size
     have zq:=GA.out.size
     clear r3 hx
     go_wp2_with (first
      | (refine lM 23 (.tmp 105) R3.out Tryz.underlying23 ?_)
      | (refine sB 23 (.tmp 5) (.tmp 106) wo.heap.size (sN x1 x2 x3) H.out.2 ?_;intro w8 b8 g8;replace H:=zS g8 b8 H;have GW:=zH ((below_later FZ GA.out).grown g8 (by have:=FZ.size;omega) (fun j e=>by have:=Option.some.inj e;omega));clear b8 g8))
     exact ⟨⟨q+1,x1,x2,x3,by omega,by go_num,RN2.out,⟨hx1,hx2,hx3⟩,H.out,GW.out⟩,by simp [intOf];omega⟩
    ·obtain rfl:n'=q:=by omega
     have p2:¬ (n':Int) < (n':Int):=by omega
     rw [RM.out] at MV
     simp only at MV
     rw [MV.out] at RN
     go_wp2_with fail
     exact ⟨⟨k+1,by omega,by go_num,by rw [RN.out],below_later GO.out G3.out⟩,by simp [intOf];omega⟩
  ·obtain rfl:n=k:=by omega
   have p1:¬ (n:Int) < (n:Int):=by omega
   rw [UZ.out _ RZ.out] at HV
   go_wp2_with (refine sB 53 (.tmp 2) (.tmp 107) w1.heap.size #[.int .i64 0,.int .i64 0,.int .i64 0,.int .i64 0] H.out.2 ?_;intro w9 b9 g9;have F9:=zA g9 (zH H.out.1.1);clear g9)
   refine ret_cell rfl b9 rfl Tryz.underlying53 (by kernel_rfl) rfl ?_
   exact ⟨by rw [HV.out] <;> rfl,F9.out.out⟩
end Go.Proofs.YtppcjcigekoipaaGreat
