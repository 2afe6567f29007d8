/-
  What is wrong with a bundle (layer 33): valid.whole, valid.model, valid.Bundle.
-/
import Derived.Test.YtppcjcigekoipaaGreatJ32
set_option linter.unusedVariables false
set_option linter.unusedSimpArgs false
namespace Go.Proofs.YtppcjcigekoipaaGreat
open Go.RowKit Go.ChangeShapes Go.WideShapes
set_option maxRecDepth 100000
set_option maxHeartbeats 4000000
def inU (u:Bun):Prop:=InK .i64 u.h∧InK .i64 u.v∧InK .i64 u.c∧InK .i64 u.cl
theorem whole_any (u:Bun) (A:Option Addr) (n cap:Nat) (w:World) (hu:Sl tModel w (blo w.heap.size) A n cap u.models) (hi:inU u) :
  Calls Tryz.prog 37 #[.agg #[.int .i64 u.h,.int .i64 u.v,.int .i64 u.c,.int .i64 u.cl,.slice A n cap]] w fun e w'=>e=.returned (.int .i64 (wholeV u))∧Below w.heap.size w w':=by
 have LN:=hu.n_eq
 have RI:=zH (fun w=>shapeRight_any u.h u.c u.v w hi.1 hi.2.1 hi.2.2.1)
 have n9:n≤9223372036854775807:=Nat.le_trans hu.cap_le hu.max_le
 have m0:=(elems_range u.h u.v u.c).1
 have HV:=zH (show wholeV u=if elems u.h u.v u.c=0 then 5 else if u.cl < 2 ∨ 16 < u.cl then 2 else if u.models.length=0 then 12 else if 3 < u.models.length then 4 else 0 from rfl)
 obtain ⟨r,hr⟩:∃ x,wholeV u=x:=⟨_,rfl⟩
 obtain ⟨h0,hh⟩:∃ x,u.h=x:=⟨_,rfl⟩
 obtain ⟨v0,hv⟩:∃ x,u.v=x:=⟨_,rfl⟩
 obtain ⟨c0,hc⟩:∃ x,u.c=x:=⟨_,rfl⟩
 obtain ⟨l0,hl⟩:∃ x,u.cl=x:=⟨_,rfl⟩
 rw [hr,LN,hh,hv,hc,hl] at HV
 rw [hh,hv,hc] at RI m0
 rw [hr,hh,hv,hc,hl]
 obtain ⟨el,he⟩:∃ x,elems h0 v0 c0=x:=⟨_,rfl⟩
 rw [he] at HV RI m0
 have H:=zH (Far.refl w)
 clear hh hv hc hl hu hr he hi LN
 obtain ⟨w1,hw_w1,B1,k1⟩:=nB w #[.int .i64 h0,.int .i64 v0,.int .i64 c0,.int .i64 l0,.slice A n cap] 26
 replace H:=zN k1 H B1
 clear B1 k1
 have cA:=fun i=>H.out.2.cell i
 by_cases e1:el=0
 ·have t1:decide (0 < el)=false:=by simp;omega
  rw [if_pos e1] at HV
  clear e1
  go_enter Tryz.func37,Tryz.ntmps37
  go_wp2_with (refine lM 23 (.tmp 4) (range_blk (off:=0) (vs:=[.int .i64 h0,.int .i64 v0,.int .i64 c0]) H.out.2 rfl) Tryz.underlying23 ?_)
  refine (RI.out _).mono ?_
  rintro e w2 ⟨rfl,hb⟩
  replace H:=zF hb H
  clear hb cA
  go_wp2_with fail
  go_ret
  exact ⟨by rw [HV.out] <;> rfl,H.out.1.out⟩
 have t1:decide (0 < el)=true:=by simp;omega
 rw [if_neg e1] at HV
 clear e1
 go_enter Tryz.func37,Tryz.ntmps37
 go_wp2_with (refine lM 23 (.tmp 4) (range_blk (off:=0) (vs:=[.int .i64 h0,.int .i64 v0,.int .i64 c0]) H.out.2 rfl) Tryz.underlying23 ?_)
 refine (RI.out _).mono ?_
 rintro e w2 ⟨rfl,hb⟩
 replace H:=zF hb H
 clear hb cA RI
 have cA:=fun i=>H.out.2.cell i
 by_cases e2:l0 < 2
 ·rw [if_pos (.inl e2)] at HV
  go_wp2_with fail
  go_ret
  exact ⟨by rw [HV.out] <;> rfl,H.out.1.out⟩
 by_cases e3:16 < l0
 ·rw [if_pos (.inr e3)] at HV
  go_wp2_with fail
  go_ret
  exact ⟨by rw [HV.out] <;> rfl,H.out.1.out⟩
 rw [if_neg (by omega)] at HV
 by_cases e4:n=0
 ·rw [if_pos e4] at HV
  subst e4
  go_wp2_with fail
  go_ret
  exact ⟨by rw [HV.out] <;> rfl,H.out.1.out⟩
 have t4:((n:Int) == 0)=false:=by simp;omega
 rw [if_neg e4] at HV
 by_cases e5:3 < n
 ·have t5:decide (3 < (n:Int))=true:=by simp;omega
  rw [if_pos e5] at HV
  go_wp2_with fail
  go_ret
  exact ⟨by rw [HV.out] <;> rfl,H.out.1.out⟩
 have t5:decide (3 < (n:Int))=false:=by simp;omega
 rw [if_neg e5] at HV
 go_wp2_with fail
 go_ret
 exact ⟨by rw [HV.out] <;> rfl,H.out.1.out⟩
theorem model_any (u:Bun) (A:Option Addr) (n cap:Nat) (w:World) (hu:Sl tModel w (blo w.heap.size) A n cap u.models) (hi:inU u) (m:List BlkD) (k:Nat) (hm:u.models[k]?=some m) (hf:∀ b ∈ m,fewB b) :
  Calls Tryz.prog 38 #[.agg #[.int .i64 u.h,.int .i64 u.v,.int .i64 u.c,.int .i64 u.cl,.slice A n cap],.int .i64 k] w fun e w'=>e=.returned (.agg #[.int .i64 (modelV m (u.h,u.v,u.c) u.cl k).1,.int .i64 (modelV m (u.h,u.v,u.c) u.cl k).2.1,.int .i64 (modelV m (u.h,u.v,u.c) u.cl k).2.2.1,.int .i64 (modelV m (u.h,u.v,u.c) u.cl k).2.2.2])∧Below w.heap.size w w':=by
 have kn:k < n:=by have:=(List.getElem?_eq_some_iff.1 hm).1;rw [hu.n_eq] at this;exact this
 have n9:n≤9223372036854775807:=Nat.le_trans hu.cap_le hu.max_le
 obtain ⟨m',ga,oa,A',n',c',hm',rfl,hga,hca,hA⟩:=hu.model_at k kn
 rw [hm] at hm'
 cases hm'
 have LM:=zH hA.n_eq
 have m9:n'≤9223372036854775807:=Nat.le_trans hA.cap_le hA.max_le
 have HA:=zH (Old.now hA)
 have HC:=zH hca
 have FB:=zH hf
 have HI:=zH hi
 obtain ⟨r,hr⟩:∃ x,modelV m (u.h,u.v,u.c) u.cl k=x:=⟨_,rfl⟩
 have HV:=hr.symm
 unfold modelV at HV
 replace HV:=zH HV
 unfold inU at HI
 obtain ⟨h0,hh⟩:∃ x,u.h=x:=⟨_,rfl⟩
 obtain ⟨v0,hv⟩:∃ x,u.v=x:=⟨_,rfl⟩
 obtain ⟨c0,hc⟩:∃ x,u.c=x:=⟨_,rfl⟩
 obtain ⟨l0,hl⟩:∃ x,u.cl=x:=⟨_,rfl⟩
 rw [LM.out,hh,hv,hc,hl] at HV
 rw [hh,hv,hc,hl] at HI
 rw [hr,hh,hv,hc,hl]
 clear hr hh hv hc hl hu hi hm hca hA hf hga
 have H:=zH (Far.refl w)
 obtain ⟨w1,hw_w1,B1,k1⟩:=nB w #[.int .i64 h0,.int .i64 v0,.int .i64 c0,.int .i64 l0,.slice (some ⟨ga,oa,none⟩) n cap] 26
 replace H:=zN k1 H B1
 clear B1 k1
 obtain ⟨w2,hw_w2,B2,k2⟩:=nB w1 #[.int .i64 0,.int .i64 0,.int .i64 0,.int .i64 0] 62
 replace H:=zN k2 H B2
 clear B2 k2
 have l1:w.heap.size < w1.heap.size:=by rw [← hw_w1];simp
 have l2:w1.heap.size < w2.heap.size:=by rw [← hw_w2];simp
 have cA:=fun i=>H.out.1.2.cell i
 have cC:=cell_later H.out.1.1.out HC.out
 go_enter Tryz.func38,Tryz.ntmps38
 by_cases e1:n'=0
 ·subst e1
  rw [if_pos rfl] at HV
  go_wp2_with (refine sB 62 (.tmp 4) (.tmp 25) w1.heap.size #[.int .i64 12,.int .i64 k,.int .i64 (-1),.int .i64 (-1)] H.out.2 ?_;intro w9 b9 g9;have F9:=zA g9 (zH H.out.1.1);clear g9)
  refine ret_cell rfl b9 rfl Tryz.underlying62 (by kernel_rfl) rfl ?_
  exact ⟨by rw [HV.out] <;> rfl,F9.out.out⟩
 have t1:((n':Int) == 0)=false:=by simp;omega
 rw [if_neg e1] at HV
 by_cases e2:6 < n'
 ·have t2:decide (6 < (n':Int))=true:=by simp;omega
  rw [if_pos e2] at HV
  go_wp2_with (refine sB 62 (.tmp 4) (.tmp 31) w1.heap.size #[.int .i64 4,.int .i64 k,.int .i64 (-1),.int .i64 (-1)] H.out.2 ?_;intro w9 b9 g9;have F9:=zA g9 (zH H.out.1.1);clear g9)
  refine ret_cell rfl b9 rfl Tryz.underlying62 (by kernel_rfl) rfl ?_
  exact ⟨by rw [HV.out] <;> rfl,F9.out.out⟩
 have t2:decide (6 < (n':Int))=false:=by simp;omega
 rw [if_neg e2] at HV
 go_wp2_with (first|(refine lM 23 (.tmp 32) (range_blk (off:=0) (vs:=[.int .i64 h0,.int .i64 v0,.int .i64 c0]) H.out.1.2 rfl) Tryz.underlying23 ?_)|(refine sF 23 (.tmp 6) (.tmp 33) (sN h0 v0 c0) ?_;intro w3 b3 k3;have H2:=zN k3 H b3;clear cA cC H b3))
 have z3:=k3.size
 clear hw_w1 hw_w2 t1 e1 k3
 go_loopw [36] (fun i wr=>∃ (q:Nat) (s1 s2 s3:Int),q≤n'∧i=.int .i64 q∧runM m (h0,v0,c0) l0 q=.on (s1,s2,s3)∧(InK .i64 s1∧InK .i64 s2∧InK .i64 s3)∧((((Far w wr∧Blk wr w.heap.size 26 #[.int .i64 h0,.int .i64 v0,.int .i64 c0,.int .i64 l0,.slice (some ⟨ga,oa,none⟩) n cap])∧Blk wr w1.heap.size 62 #[.int .i64 0,.int .i64 0,.int .i64 0,.int .i64 0])∧Blk wr w2.heap.size 23 (sN s1 s2 s3))∧w2.heap.size < wr.heap.size)) (fun i _=>n' - (intOf i).toNat)
 case atStart=>exact ⟨0,h0,v0,c0,Nat.zero_le _,rfl,rfl,⟨HI.out.1,HI.out.2.1,HI.out.2.2.1⟩,H2.out,H2.out.2.lt⟩
 case round =>
  clear H2
  obtain ⟨q,s1,s2,s3,hq,rfl,hR,hs,hH,z2⟩:=hrel
  have H:=zH hH
  have RM:=zH hR
  have IS:=zH hs
  clear hR hs hH
  by_cases hlq:q < n'
  ·have p1:(q:Int) < (n':Int):=by omega
   have gq:IntKind.i64.wrap ((q:Int)+1)=((q+1:Nat):Int):=(IntWalk.i64_in _ (by omega)).trans (by simp)
   have gl:IntKind.i64.wrap ((n':Int) - 1)=(n':Int) - 1:=IntWalk.i64_in _ (by omega)
   obtain ⟨b,g,off,L,nl,cl,W,nw,cw,B,nb,cb,hb,rfl,hga,rg,hat⟩:=(HA.out.fut H.out.1.1.1.out).out.blk_at q hlq
   have RN:=zH (runM_next RM.out hb)
   rw [LM.out] at RN
   have FX:=zH (FB.out b (List.mem_of_getElem? hb))
   have VB:=zH (fun w h=>vblock_any b L nl cl W nw cw B nb cb (s1,s2,s3) l0 ((q:Int) == (n':Int) - 1) w h IS.out HI.out.2.2.2 FX.out)
   have SH:=zH (fun w h=>shapes_any L nl cl b.nodes s1 s2 s3 w h IS.out.1 IS.out.2.1 IS.out.2.2 FX.out.1.2)
   have BO:=zH (blockV_ok (b:=b) (s:=(s1,s2,s3)) (cl:=l0) (last:=((q:Int) == (n':Int) - 1)))
   have NL:=zH hat.nodes.n_eq
   have AT:=zH (hat.keep (S':=blo wr.heap.size) (fun _ _=>rfl) (fun x hx=>Nat.lt_of_lt_of_le hx H.out.1.1.1.size))
   have RG:=zH rg
   have SL:=zH (shapes_len (l:=b.nodes) (s:=(s1,s2,s3)))
   unfold outV at RN
   unfold RetShapes at SH
   rw [NL.out] at RN SL
   clear hb hat rg hga
   obtain ⟨⟨ba,be⟩,hbv⟩:∃ x,blockV b (s1,s2,s3) l0 ((q:Int) == (n':Int) - 1)=x:=⟨_,rfl⟩
   obtain ⟨⟨sl,sp,se⟩,hsv⟩:∃ x,shapesV b.nodes (s1,s2,s3)=x:=⟨_,rfl⟩
   simp only [hbv] at RN VB BO
   simp only [hsv] at RN SH SL
   have BO2:=zH (fun h=>(BO.out h).shapes)
   rw [hsv] at BO2
   obtain ⟨need,hnd⟩:∃ x,b.head.need=x:=⟨_,rfl⟩
   obtain ⟨ex,hex⟩:∃ x,b.exit=x:=⟨_,rfl⟩
   simp only [hnd,hex] at VB RG
   obtain ⟨la,hla⟩:∃ x,((q:Int) == (n':Int) - 1)=x:=⟨_,rfl⟩
   simp only [hla] at VB
   clear hbv hsv BO hnd hex
   have HX:=zH (Far.refl wr)
   have cA:=fun i=>H.out.1.1.2.cell i
   go_wp2_with (first
    | (refine lM 49 (.tmp 39) RG.out Tryz.underlying49 ?_)
    | (refine sF 49 (.tmp 8) (.tmp 40) #[.slice L nl cl,.bool ex,.slice W nw cw,.slice B nb cb,.int .i32 need] ?_;intro w5 b5 k5;replace HX:=zN k5 HX b5;replace H:=zF k5 H;have cB:=fun i=>HX.out.2.cell i;clear cA b5;have cA:=fun i=>H.out.1.1.2.cell i)
    | (refine lB 49 (.tmp 8) wr.heap.size HX.out.2 Tryz.underlying49 ?_)
    | (refine lB 23 (.tmp 6) w2.heap.size H.out.2 Tryz.underlying23 ?_))
   clear cA cB
   refine (VB.out _ (AT.out.fut HX.out.1.out)).mono ?_
   rintro e w6 ⟨rfl,hb⟩
   replace H:=zF hb H
   replace HX:=zF hb HX
   clear hb VB
   by_cases e3:be=0
   rotate_left
   ·have t3:(be != 0)=true:=by simpa using e3
    rw [if_pos e3] at RN
    rw [runM_bad RN.out n' (by omega)] at HV
    clear RN SH
    go_wp2_with (refine sB 62 (.tmp 4) (.tmp 60) w1.heap.size #[.int .i64 be,.int .i64 k,.int .i64 q,.int .i64 ba] H.out.1.2 ?_;intro w9 b9 g9;have F9:=zA g9 (zH H.out.1.1.1);clear g9)
    refine ret_cell rfl b9 rfl Tryz.underlying62 (by kernel_rfl) rfl ?_
    exact ⟨by rw [HV.out] <;> rfl,F9.out.out⟩
   have hse:se=0:=BO2.out e3
   subst e3 hse
   rw [if_neg (by decide)] at RN
   have M3:=SL.out (by trivial)
   have cB:=fun i=>HX.out.2.cell i
   go_wp2_with (refine lB 23 (.tmp 6) w2.heap.size H.out.2 Tryz.underlying23 ?_)
   refine (SH.out _ (AT.out.fut HX.out.1.out).nodes).mono ?_
   rintro e w7 ⟨A3,m3,c3,rfl,q3,hb⟩
   have N3:=zH (New.of q3 (Far.refl _))
   have K3:=q3.n_eq
   replace H:=zF hb H
   clear hb cB q3 SH HX
   obtain ⟨b3,o3,rfl,-,-,hx1,hx2,hx3,-,r3⟩:=N3.out.old.shape_at nl (by omega)
   obtain ⟨⟨x1,x2,x3⟩,hx⟩:∃ x,sl.getD nl (0,0,0)=x:=⟨_,rfl⟩
   rw [hx] at RN r3 hx1 hx2 hx3
   have R3:=zH r3
   have gm:IntKind.i64.wrap ((m3:Int) - 1)=(nl:Int):=by rw [show (m3:Int) - 1=(nl:Int) by omega];exact IntWalk.i64_in _ (by have:=N3.out.old.cap_le;have:=N3.out.old.max_le;unfold maxLen at *;omega)
   have gn:(nl:Int) < (m3:Int):=by omega
   clear r3 hx
   go_wp2_with (first
    | (refine lM 23 (.tmp 73) R3.out Tryz.underlying23 ?_)
    | (refine sB 23 (.tmp 6) (.tmp 74) w2.heap.size (sN x1 x2 x3) H.out.2 ?_;intro w8 b8 g8;replace H:=zS g8 b8 H;have z8:=b8.lt;clear b8 g8))
   exact ⟨⟨q+1,x1,x2,x3,by omega,by go_num,RN.out,⟨hx1,hx2,hx3⟩,H.out,z8⟩,by simp [intOf];omega⟩
  ·obtain rfl:n'=q:=by omega
   have p1:¬ (n':Int) < (n':Int):=by omega
   rw [RM.out] at HV
   go_wp2_with (refine sB 62 (.tmp 4) (.tmp 76) w1.heap.size #[.int .i64 0,.int .i64 0,.int .i64 0,.int .i64 0] H.out.1.2 ?_;intro w9 b9 g9;have F9:=zA g9 (zH H.out.1.1.1);clear g9)
   refine ret_cell rfl b9 rfl Tryz.underlying62 (by kernel_rfl) rfl ?_
   exact ⟨by rw [HV.out] <;> rfl,F9.out.out⟩
theorem vbundle_any (u:Bun) (A:Option Addr) (n cap:Nat) (w:World) (hu:Sl tModel w (blo w.heap.size) A n cap u.models) (hi:inU u) (hf:fewU u) :
  Calls Tryz.prog 18 #[.agg #[.int .i64 u.h,.int .i64 u.v,.int .i64 u.c,.int .i64 u.cl,.slice A n cap]] w fun e w'=>e=.returned (.agg #[.int .i64 (bundleV u).1,.int .i64 (bundleV u).2.1,.int .i64 (bundleV u).2.2.1,.int .i64 (bundleV u).2.2.2])∧Below w.heap.size w w':=by
 have n9:n≤9223372036854775807:=Nat.le_trans hu.cap_le hu.max_le
 have LN:=zH hu.n_eq
 have WH:=zH (fun w h=>whole_any u A n cap w h hi)
 have MO:=zH (fun w h m k hm=>model_any u A n cap w h hi m k hm ((hf.2 m (List.mem_of_getElem? hm)).2))
 have HU:=zH (Old.now hu)
 have HV:=zH (show bundleV u=if wholeV u ≠ 0 then (wholeV u,-1,-1,-1) else runU u u.models.length from rfl)
 obtain ⟨r,hr⟩:∃ x,bundleV u=x:=⟨_,rfl⟩
 obtain ⟨wv,hwv⟩:∃ x,wholeV u=x:=⟨_,rfl⟩
 rw [hr,hwv,LN.out] at HV
 rw [hwv] at WH
 rw [hr]
 obtain ⟨h0,hh⟩:∃ x,u.h=x:=⟨_,rfl⟩
 obtain ⟨v0,hv⟩:∃ x,u.v=x:=⟨_,rfl⟩
 obtain ⟨c0,hc⟩:∃ x,u.c=x:=⟨_,rfl⟩
 obtain ⟨l0,hl⟩:∃ x,u.cl=x:=⟨_,rfl⟩
 have RU:=zH (fun k m (h1:(runU u k).1=0) (h2:u.models[k]?=some m)=>runU_next h1 h2)
 have MZ:=zH (fun m k=>modelV_zero (l:=m) (s:=(h0,v0,c0)) (cl:=l0) (at':=k))
 have UB:=zH (fun k=>runU_bad (u:=u) (k:=k))
 have UZ:=zH (fun k=>runU_zero (u:=u) (k:=k))
 simp only [hh,hv,hc,hl] at MO WH RU
 rw [hh,hv,hc,hl]
 clear hr hwv hh hv hc hl hu hi hf
 have H:=zH (Far.refl w)
 obtain ⟨w1,hw_w1,B1,k1⟩:=nB w #[.int .i64 h0,.int .i64 v0,.int .i64 c0,.int .i64 l0,.slice A n cap] 26
 replace H:=zN k1 H B1
 clear B1 k1
 obtain ⟨w2,hw_w2,B2,k2⟩:=nB w1 #[.int .i64 0,.int .i64 0,.int .i64 0,.int .i64 0] 62
 replace H:=zN k2 H B2
 clear B2 k2
 have l1:w.heap.size < w1.heap.size:=by rw [← hw_w1];simp
 go_enter Tryz.func18,Tryz.ntmps18
 go_wp2_with (refine lB 26 (.tmp 1) w.heap.size H.out.1.2 Tryz.underlying26 ?_)
 refine (WH.out _ (HU.out.fut H.out.1.1.out).all).mono ?_
 rintro e w3 ⟨rfl,hb⟩
 replace H:=zF hb H
 clear hb WH hw_w1 hw_w2
 have cA:=fun i=>H.out.1.2.cell i
 by_cases e1:wv=0
 rotate_left
 ·have t1:(wv != 0)=true:=by simpa using e1
  rw [if_pos e1] at HV
  go_wp2_with (refine sB 62 (.tmp 2) (.tmp 11) w1.heap.size #[.int .i64 wv,.int .i64 (-1),.int .i64 (-1),.int .i64 (-1)] H.out.2 ?_;intro w9 b9 g9;have F9:=zA g9 (zH H.out.1.1);clear g9)
  refine ret_cell rfl b9 rfl Tryz.underlying62 (by kernel_rfl) rfl ?_
  exact ⟨by rw [HV.out] <;> rfl,F9.out.out⟩
 subst e1
 rw [if_neg (by decide)] at HV
 go_wp2_with fail
 have H2:=H
 clear H cA
 go_loopw [15] (fun i wr=>∃ q:Nat,q≤n∧i=.int .i64 q∧(runU u q).1=0∧Below w3.heap.size w3 wr) (fun i _=>n - (intOf i).toNat)
 case atStart=>exact ⟨0,Nat.zero_le _,rfl,rfl,Below.refl _ _⟩
 case round =>
  obtain ⟨q,hq,rfl,hR,hb⟩:=hrel
  have H:=zF hb H2
  have RZ:=zH hR
  have G3:=zH hb
  have z3:=hb.size
  clear hR hb
  by_cases hlq:q < n
  ·have p1:(q:Int) < (n:Int):=by omega
   have gq:IntKind.i64.wrap ((q:Int)+1)=((q+1:Nat):Int):=(IntWalk.i64_in _ (by omega)).trans (by simp)
   have hm:u.models[q]?=some (u.models[q]'(by rw [LN.out];exact hlq)):=List.getElem?_eq_getElem _
   obtain ⟨m,hmm⟩:∃ m,u.models[q]'(by rw [LN.out];exact hlq)=m:=⟨_,rfl⟩
   rw [hmm] at hm
   have HM:=zH hm
   have RN:=zH (RU.out q m RZ.out hm)
   have UN:=zH (UB.out (q+1))
   have M1:=zH (fun w h=>MO.out w h m q hm)
   have MM:=MZ.out m (q:Int)
   obtain ⟨⟨x1,x2,x3,x4⟩,hx⟩:∃ x,modelV m (h0,v0,c0) l0 q=x:=⟨_,rfl⟩
   simp only [hx] at M1 RN MM
   rw [RN.out] at UN
   clear hm hmm hx
   go_wp2_with (refine lB 26 (.tmp 1) w.heap.size H.out.1.2 Tryz.underlying26 ?_)
   refine (M1.out _ (HU.out.fut H.out.1.1.out).all).mono ?_
   rintro e w4 ⟨rfl,hb⟩
   replace H:=zF hb H
   have G4:=zH hb
   clear hb M1
   go_upto_region 8 with (first
    | (refine sF 62 (.tmp 5) (.tmp 20) #[.int .i64 x1,.int .i64 x2,.int .i64 x3,.int .i64 x4] ?_;intro w5 b5 k5;replace H:=zF k5 H;have F5:=b5)
    | (refine lB 62 (.tmp 5) w4.heap.size F5.out Tryz.underlying62 ?_))
   by_cases e2:x1=0
   ·have MM2:=MM e2
    simp only [Prod.mk.injEq] at MM2
    obtain ⟨rfl,rfl,rfl,rfl⟩:=MM2
    clear MM UN MZ
    go_wp2_with (refine lB 62 (.tmp 5) w4.heap.size F5.out Tryz.underlying62 ?_)
    exact ⟨⟨q+1,by omega,by go_num,by rw [RN.out],below_later k5 (below_later G4.out G3.out)⟩,by simp [intOf];omega⟩
   ·have t2:(x1 == 0)=false:=by simpa using e2
    rw [UN.out e2 n (by omega)] at HV
    clear MM UN MZ
    go_wp2_with (first|(refine lB 62 (.tmp 5) w4.heap.size F5.out Tryz.underlying62 ?_)|(refine sB 62 (.tmp 2) (.tmp 24) w1.heap.size #[.int .i64 x1,.int .i64 x2,.int .i64 x3,.int .i64 x4] H.out.2 ?_;intro w9 b9 g9;have F9:=zA g9 (zH H.out.1.1);clear g9))
    all_goals
     refine ret_cell rfl b9 rfl Tryz.underlying62 (by kernel_rfl) rfl ?_
     exact ⟨by rw [HV.out] <;> rfl,F9.out.out⟩
  ·obtain rfl:n=q:=by omega
   have p1:¬ (n:Int) < (n:Int):=by omega
   rw [UZ.out _ RZ.out] at HV
   go_wp2_with (refine sB 62 (.tmp 2) (.tmp 26) w1.heap.size #[.int .i64 0,.int .i64 0,.int .i64 0,.int .i64 0] H.out.2 ?_;intro w9 b9 g9;have F9:=zA g9 (zH H.out.1.1);clear g9)
   refine ret_cell rfl b9 rfl Tryz.underlying62 (by kernel_rfl) rfl ?_
   exact ⟨by rw [HV.out] <;> rfl,F9.out.out⟩
end Go.Proofs.YtppcjcigekoipaaGreat
