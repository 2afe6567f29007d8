/-
  What each block costs (layer 31): cost.Table.
-/
import Derived.Test.YtppcjcigekoipaaGreatJ39
set_option linter.unusedVariables false
set_option linter.unusedSimpArgs false
namespace Go.Proofs.YtppcjcigekoipaaGreat
open Go.RowKit Go.ChangeShapes Go.WideShapes
set_option maxRecDepth 100000
set_option maxHeartbeats 4000000
def tRow:Ty (List Int):=tSlice (tInt .i64)
theorem ei_rowT:EI Tryz.prog 65 120 (.slice none 0 0) 1 24:=⟨Tryz.underlying65,by kernel_rfl,rfl,by decide⟩
theorem rowSize:tRow.size=1:=rfl
def RetTab (l:List (List Int)) (w:World) (e:Ending) (w':World):Prop :=
 ∃ A n cap,e=.returned (.tuple #[.slice A n cap,.int .i64 0])∧Sl tRow w' (bin w.heap.size w'.heap.size) A n cap l∧Below w.heap.size w w'
theorem costTable_any (u:Bun) (A:Option Addr) (n cap:Nat) (w:World) (hu:Sl tModel w (blo w.heap.size) A n cap u.models) (hf:fewU u) (ok:BunOk u) :
  Calls Tryz.prog 20 #[.agg #[.int .i64 u.h,.int .i64 u.v,.int .i64 u.c,.int .i64 u.cl,.slice A n cap]] w (RetTab (tableC u) w):=by
 have n3:n≤3:=by have:=ok.three;rw [hu.n_eq] at this;exact this
 have HU:=zH (Old.now hu)
 have FU:=zH (fun m hm=>hf.2 m hm)
 have OK:=zH (fun k m hm=>ok.model (k:=k) (m:=m) hm)
 have GS:=zH ok.good
 have CL:=zH ok.cl
 have TA:=zH (fun k m hm=>tableC_at (u:=u) (k:=k) (m:=m) hm)
 have TL:=zH (show (tableC u).length=n by unfold tableC;rw [List.length_map,hu.n_eq])
 obtain ⟨tb,htb⟩:∃ x,tableC u=x:=⟨_,rfl⟩
 obtain ⟨h0,hh⟩:∃ x,u.h=x:=⟨_,rfl⟩
 obtain ⟨v0,hv⟩:∃ x,u.v=x:=⟨_,rfl⟩
 obtain ⟨c0,hc⟩:∃ x,u.c=x:=⟨_,rfl⟩
 obtain ⟨l0,hl⟩:∃ x,u.cl=x:=⟨_,rfl⟩
 rw [hh,hv,hc,hl,htb]
 simp only [hh,hv,hc,hl,htb] at OK GS CL TA TL
 clear hh hv hc hl htb hu hf ok
 have H:=zH (Far.refl w)
 obtain ⟨w1,hw_w1,B1,k1⟩:=nB w #[.int .i64 h0,.int .i64 v0,.int .i64 c0,.int .i64 l0,.slice A n cap] 26
 replace H:=zN k1 H B1
 clear B1 k1
 have l1:w.heap.size < w1.heap.size:=by rw [← hw_w1];simp
 have cA:=fun i=>H.out.2.cell i
 go_enter Tryz.func20,Tryz.ntmps20
 go_wp2_with fail
 have H2:=H
 clear H cA hw_w1
 go_loopw [4,16] (fun v i wr=>∃ (k:Nat) (S:Nat → Prop),k≤n∧i=.int .i64 k∧Own tRow wr S w1.heap.size 120 v k (tb.take k)∧(∀ b,S b → w1.heap.size≤b∧b < wr.heap.size∧some b ≠ v.ownBlock)∧Below w1.heap.size w1 wr) (fun _ i _=>n - (intOf i).toNat)
 case atStart=>exact ⟨0,fun _=>False,Nat.zero_le _,rfl,Own.nil _ _ _ _ _,fun _ h=>h.elim,Below.refl _ _⟩
 case round =>
  obtain ⟨k,S,hk,rfl,hO,hS,hb⟩:=hrel
  obtain ⟨wo,hwo⟩:∃ x,x=wr:=⟨_,rfl⟩
  subst hwo
  have H:=zF hb H2
  have ON:=zH hO
  have SS:=zH hS
  have G1:=zH hb
  have z1:=hb.size
  clear hO hS hb
  by_cases hlt:k < n
  ·have p1:(k:Int) < (n:Int):=by omega
   have gk:IntKind.i64.wrap ((k:Int)+1)=((k+1:Nat):Int):=(IntWalk.i64_in _ (by omega)).trans (by simp)
   obtain ⟨m,ga,oa,A',n',c',hm,rfl,hga,hca,hA⟩:=(HU.out.fut H.out.1.out).out.model_at k hlt
   have MO:=zH (OK.out k m hm)
   have TK:=zH (take_snoc _ _ _ (TA.out k m hm))
   have FM:=zH (FU.out m (List.mem_of_getElem? hm)).2
   have LM:=hA.n_eq
   have m6:n'≤6:=by have:=MO.out.six;omega
   have HA:=zH (show Old w tBlk wo A' n' c' m from ⟨hA,H.out.1.size⟩)
   have RG:=zH (range_one hca)
   have HX:=zH (Far.refl wo)
   clear hm hga hca hA
   have cA:=fun i=>H.out.2.cell i
   go_wp2_with (first
    | (refine lM 41 (.tmp 18) RG.out Tryz.underlying41 ?_)
    | (refine sF 41 (.tmp 6) (.tmp 19) #[.slice A' n' c'] ?_;intro w5 b5 k5;replace HX:=zN k5 HX b5;replace H:=zF k5 H;clear cA b5;have cA:=fun i=>H.out.2.cell i)
    | (refine lM 23 (.tmp 20) (range_blk (off:=0) (vs:=[.int .i64 h0,.int .i64 v0,.int .i64 c0]) H.out.2 rfl) Tryz.underlying23 ?_))
   refine (meter_any h0 v0 c0 l0 w5).mono ?_
   rintro e w6 ⟨g1,g2,rfl,hg1,hg2,b1,b2,hb⟩
   have z5:=HX.out.1.size
   replace H:=zN hb H (zH (And.intro b1 b2))
   replace HX:=zF hb HX
   have y1:=b1.lt
   have y2:=b2.lt
   replace HA:=zF HX.out.1.out HA
   unfold mtr
   clear cA hb b1 b2 RG
   have cB:=HX.out.2.cell 0
   go_wp2_with fail
   go_loopw [8,28] (fun rv i wr=>∃ j:Nat,j≤n'∧i=.int .i64 j∧Own (tInt .i64) wr (fun _=>False) w6.heap.size 3 rv j ((rowC m (h0,v0,c0) l0).take j)∧Blk wr g1 23 (sN (inV m (h0,v0,c0) j).1 (inV m (h0,v0,c0) j).2.1 (inV m (h0,v0,c0) j).2.2)∧w6.grownBy wr (some g1)) (fun _ i _=>n' - (intOf i).toNat)
   case atStart=>exact ⟨0,Nat.zero_le _,rfl,Own.nil _ _ _ _ _,H.out.2.1,World.grownBy.refl _ _⟩
   case round =>
    obtain ⟨j,hj,rfl,hO,b1,g8⟩:=hrel
    obtain ⟨wi,hwi⟩:∃ x,x=wr:=⟨_,rfl⟩
    subst hwi
    have RO:=zH hO
    have B1:=zH b1
    have G8:=zH g8
    replace HA:=zA g8 HA
    have B2:=zA g8 (zH H.out.2.2)
    replace H:=zA g8 (zH H.out.1)
    have z8:=g8.size
    have x1:=b1.lt
    clear hO b1 g8 cB
    by_cases hlj:j < n'
    ·have p2:(j:Int) < (n':Int):=by omega
     have gj:IntKind.i64.wrap ((j:Int)+1)=((j+1:Nat):Int):=(IntWalk.i64_in _ (by omega)).trans (by simp)
     obtain ⟨b,gb,ob,L,nl,cl,W,nw,cw,B,nb,cb,hb,rfl,hgb,rg,hat⟩:=HA.out.out.blk_at j hlj
     have BO:=zH (MO.out.blocks j (by omega)).shapes
     rw [getD_at hb] at BO
     have BC:=zH (blockC_in (cl:=l0) BO.out)
     have RK:=zH (take_snoc _ _ _ (rowC_at (m:=m) (s:=(h0,v0,c0)) (cl:=l0) (show j < m.length by omega)))
     have IV:=zH (show inV m (h0,v0,c0) (j+1)=outV (m.getD j noBlk) (inV m (h0,v0,c0) j) from rfl)
     rw [getD_at hb] at RK IV
     have II:=zH (inV_good MO.out GS.out (k:=j) (by omega)).in_
     obtain ⟨⟨s1,s2,s3⟩,hs⟩:∃ x,inV m (h0,v0,c0) j=x:=⟨_,rfl⟩
     rw [hs] at BO BC RK IV II B1
     have FB:=zH (FM.out b (List.mem_of_getElem? hb))
     have ME:=zH (fun ww h h1 h2=>meter1_any b L nl cl W nw cw B nb cb s1 s2 s3 l0 g1 g2 w.heap.size ww h (by omega) hg2 h1 h2 II.out FB.out BO.out CL.out)
     have AT:=zH hat
     have RG:=zH rg
     have HW:=zH HA.out.le
     obtain ⟨need,hnd⟩:∃ x,b.head.need=x:=⟨_,rfl⟩
     obtain ⟨ex,hex⟩:∃ x,b.exit=x:=⟨_,rfl⟩
     simp only [hnd,hex] at ME RG
     obtain ⟨bc,hbc⟩:∃ x,blockC b (s1,s2,s3) l0=x:=⟨_,rfl⟩
     obtain ⟨⟨t1,t2,t3⟩,ht⟩:∃ x,outV b (s1,s2,s3)=x:=⟨_,rfl⟩
     rw [ht] at IV
     rw [hbc] at BC RK
     simp only [hbc,ht] at ME
     have HY:=zH (Far.refl wi)
     clear hs hb hgb rg hat hnd hex hbc ht
     go_wp2_with (first
      | (refine lM 49 (.tmp 30) RG.out Tryz.underlying49 ?_)
      | (refine sF 49 (.tmp 10) (.tmp 31) #[.slice L nl cl,.bool ex,.slice W nw cw,.slice B nb cb,.int .i32 need] ?_;intro w9 b9 k9;replace HY:=zN k9 HY b9;clear b9 k9)
      | (refine lB 49 (.tmp 10) wi.heap.size HY.out.2 Tryz.underlying49 ?_))
     have y9:=HY.out.1.size
     refine (ME.out _ (AT.out.keep (fun x hx=>HY.out.1.out.block x (Nat.lt_of_lt_of_le (show x < w.heap.size from hx) HW.out)) (fun x hx=>hx)) (B1.out.fut HY.out.1.out) (B2.out.fut HY.out.1.out)).mono ?_
     rintro e w10 ⟨rfl,b10,g10⟩
     have G10:=zH ((below_grown HY.out.1.out).trans g10)
     have z10:=G10.out.size
     have RO2:=zH (RO.out.flat G10.out (by
      by_cases h:u8.ownBlock=none
      ·exact .inl h
      ·refine .inr fun e=>?_
       have:=(RO.out.lt g1 e).1
       omega) (fun _ h=>h))
     clear g10 ME HY
     go_wp2_with (first
      | (at_builtin;refine wpList_push (W:=w10) (cs:=#[.int .i64 bc]) (E:=3) (t:=tInt .i64) (S:=fun _=>False) (base:=w6.heap.size) rfl (.tmp 41) (.tmp 43) rfl ei_int rfl RO2.out 1 rfl bc ⟨rfl,BC.out⟩ (by unfold maxLen;omega) (by omega) (by omega) (fun _ h=>h.elim) ?_;intro v' wz ownz gz atz))
     have OB:=fun q e=>(RO2.out.lt q e).1
     refine ⟨⟨j+1,by omega,by go_num,by rw [RK.out];exact ownz,?_,grown_past (G8.out.trans G10.out) gz (fun q e=>OB q e)⟩,by simp [intOf];omega⟩
     rw [IV.out]
     refine ⟨(gz.block g1 b10.lt ?_).trans b10.heap⟩
     intro e
     have:=OB g1 e.symm
     omega
    ·obtain rfl:n'=j:=by omega
     have p2:¬ (n':Int) < (n':Int):=by omega
     have RL:=zH (show (rowC m (h0,v0,c0) l0).take n'=rowC m (h0,v0,c0) l0 from List.take_of_length_le (by rw [rowC_len];omega))
     rw [RL.out] at RO
     obtain ⟨Ar,cr,rfl,sr⟩:=RO.out.sl (S':=bin w6.heap.size wi.heap.size) (by decide) (fun b h1 h2=>⟨h1,h2⟩) (fun _ h=>h.elim)
     have SR:=zH sr
     have GO:=zH (below_grown (r:=some g1) HX.out.1.out)
     have O2:=zH ((ON.out.kept (GO.out.trans G8.out) (by
      by_cases h:u4.ownBlock=none
      ·exact .inl h
      ·refine .inr fun e=>?_
       have:=(ON.out.lt g1 e).2
       omega) (fun b h=>⟨(SS.out b h).2.1,fun e=>by have:=(SS.out b h).2.1;have:=Option.some.inj e;omega⟩)).more (S':=fun b=>S b ∨ (w6.heap.size≤b∧b < wi.heap.size)) (fun b h=>.inl h))
     have z6:=HX.out.1.size
     have VB:=zH (fun q (e:u4.ownBlock=some q)=>ON.out.lt q e)
     have RP:=zH (show ∀ S',(∀ b,bin w6.heap.size wi.heap.size b → S' b) → tRow.rep wi S' [.slice Ar n' cr] (rowC m (h0,v0,c0) l0) from fun S' h=>by
      have e:=SR.out.n_eq
      have q:=SR.out.more h
      rw [← e] at q
      rw [← e]
      exact tSlice_iff.2 ⟨_,_,rfl,q⟩)
     clear sr
     go_wp2_with (first
      | (at_builtin;refine wpList_push (W:=wi) (cs:=#[.slice Ar n' cr]) (E:=120) (t:=tRow) (S:=fun b=>S b ∨ (w6.heap.size≤b∧b < wi.heap.size)) (base:=w1.heap.size) rfl (.tmp 46) (.tmp 48) rfl ei_rowT rfl O2.out 1 rfl (rowC m (h0,v0,c0) l0) (RP.out _ (fun b h=>.inr h)) (by unfold maxLen;omega) (by omega) (by omega) (fun b h=>?_) ?_;rotate_left;intro v' wz ownz gz atz))
     ·have zz:=gz.size
      refine ⟨⟨k+1,_,by omega,by go_num,by rw [TK.out];exact ownz,?_,?_⟩,by simp [intOf];omega⟩
      ·rintro b (h|h)
       ·have h1:=SS.out b h
        refine ⟨h1.1,by omega,?_⟩
        rcases atz with e|e
        ·rw [e];exact h1.2.2
        ·rw [e];intro q;have:=Option.some.inj q;omega
       ·refine ⟨by omega,by omega,fun q=>?_⟩
        rcases atz with e|e
        ·have:=VB.out b (e.symm.trans q.symm);omega
        ·rw [e] at q;have:=Option.some.inj q;omega
      ·exact ((below_later (HX.out.1.out) G1.out).grown G8.out (by omega) (fun q e=>by have:=Option.some.inj e;omega)).grown gz (by omega) (fun q e=>(VB.out q e).1)
     ·rcases h with h|h
      ·have h1:=SS.out b h
       exact ⟨by omega,h1.2.2⟩
      ·exact ⟨h.2,fun e=>by have:=VB.out b e.symm;omega⟩
  ·obtain rfl:n=k:=by omega
   have p1:¬ (n:Int) < (n:Int):=by omega
   have TT:=zH (show tb.take n=tb from List.take_of_length_le (by rw [TL.out];exact Nat.le_refl _))
   rw [TT.out] at ON
   obtain ⟨Ar,cr,rfl,sr⟩:=ON.out.sl (S':=bin w.heap.size wo.heap.size) (by decide) (fun b h1 h2=>⟨by omega,h2⟩) (fun b h=>⟨by have:=(SS.out b h).1;omega,(SS.out b h).2.1⟩)
   go_wp2_with fail
   go_ret2
   exact ⟨Ar,n,cr,rfl,sr,H.out.1.out⟩
end Go.Proofs.YtppcjcigekoipaaGreat
