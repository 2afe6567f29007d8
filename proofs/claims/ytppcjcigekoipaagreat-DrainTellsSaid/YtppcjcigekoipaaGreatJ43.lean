/-
  Between which numbers all values of a block lie (layer 32): the document's Flow.
  What a block is wrong in, by the document (layer 33): its Block.
-/
import Derived.Test.YtppcjcigekoipaaGreatJ42
import Derived.Test.YtppcjcigekoipaaGreatJ39
set_option linter.unusedVariables false
set_option linter.unusedSimpArgs false
namespace Go.Proofs.YtppcjcigekoipaaGreat
open Go.RowKit Go.ChangeShapes Go.WideShapes
set_option maxRecDepth 100000
set_option maxHeartbeats 16000000
theorem ei_rR:EI Tryz.prog 127 131 (.agg #[.int .i8 0,.int .i8 0]) 2 2:=⟨Tryz.underlying127,by kernel_rfl,rfl,by decide⟩
theorem rflow_any (A:Option Addr) (n cap:Nat) (l:List Node) (lo hi:Int) (w:World) (hs:Sl tNode w (blo w.heap.size) A n cap l) (hlo:InK .i8 lo) (hhi:InK .i8 hi) (hf:∀ d ∈ l,d.w.length≤1000∧d.bias.length≤100) (h1:∀ d ∈ l,sumsK d.kind=true → 1≤d.w.length) :
  Calls Tryz.prog 46 #[.slice A n cap,.agg #[.int .i8 lo,.int .i8 hi]] w (RetFlow (flowR l (lo,hi)) w):=by
 have hn:=hs.n_eq
 obtain ⟨r,hr⟩:∃ r,flowR l (lo,hi)=r:=⟨_,rfl⟩
 rw [hr]
 unfold flowR at hr
 simp only [hn] at hr
 have II:=zH (And.intro hlo hhi)
 have VV:=zH hr.symm
 have H:=zH hs
 have HF:=zH hf
 have H1:=zH h1
 have hmax:n≤9223372036854775807:=Nat.le_trans hs.cap_le hs.max_le
 clear hr hs hf h1 hlo hhi hn
 have FR:=zH (Far.refl w)
 obtain ⟨w1,hw_w1,BA,k_w1⟩:=nB w #[.int .i8 lo,.int .i8 hi] 131
 replace FR:=zH (FR.out.fut k_w1)
 clear k_w1
 have l1:w.heap.size < w1.heap.size:=by rw [← hw_w1];simp
 by_cases c1:n=0
 ·have t1:((n:Int) == 0)=true:=by simp;omega
  have R:=zH (show r=([],-1,12) by rw [VV.out,if_pos c1])
  clear c1 VV
  go_enter Tryz.func46,Tryz.ntmps46
  go_wp2_with fail
  go_ret3
  rw [R.out]
  exact RetFlow.none FR.out.out
 have t1:((n:Int) == 0)=false:=by simp;omega
 by_cases c2:8 < n
 ·have t2:decide (8 < (n:Int))=true:=by simp;omega
  have R:=zH (show r=([],-1,4) by rw [VV.out,if_neg c1,if_pos c2])
  clear c1 c2 VV
  go_enter Tryz.func46,Tryz.ntmps46
  go_wp2_with fail
  go_ret3
  rw [R.out]
  exact RetFlow.none FR.out.out
 have t2:decide (8 < (n:Int))=false:=by simp;omega
 have hn8:n≤8:=by omega
 have cB:=fun i=>BA.out.cell i
 by_cases c3:hi < lo
 ·have t3:decide (hi < lo)=true:=by simpa using c3
  have R:=zH (show r=([],-1,2) by rw [VV.out,if_neg c1,if_neg c2,if_pos c3])
  clear c1 c2 c3 VV
  go_enter Tryz.func46,Tryz.ntmps46
  go_wp2_with fail
  go_ret3
  rw [R.out]
  exact RetFlow.none FR.out.out
 have t3:decide (hi < lo)=false:=by simpa using c3
 have V2:=zH (show r=endG n (runG stepR l (lo,hi) n) by rw [VV.out,if_neg c1,if_neg c2,if_neg c3])
 clear c1 c2 c3 VV
 go_enter Tryz.func46,Tryz.ntmps46
 go_wp2_with (first|(refine lB 131 (.tmp 3) w.heap.size BA.out Tryz.underlying131 ?_)|(refine wpList_lit1 rfl (.tmp 24) rfl ei_rR #[.int .i8 lo,.int .i8 hi] rfl rfl (by decide) ?_))
 have z2:=FR.out.size
 clear cB
 go_loopw [7,8] (fun u i wr=>∃ (k:Nat) (out:List (Int × Int)),k≤n∧i=.int .i64 k∧runG stepR l (lo,hi) k=.on out∧(∀ p ∈ out,InK .i8 p.1∧InK .i8 p.2)∧Own (tRg .i8) wr (fun _=>False) w.heap.size 131 u (k+1) out∧Below w.heap.size w wr) (fun _ i _=>n - (intOf i).toNat)
 case atStart=>exact ⟨0,[(lo,hi)],Nat.zero_le _,rfl,rfl,by intro p hp;rw [List.mem_singleton.1 hp];exact II.out,Own.one z2 (rg_rep II.out.1 II.out.2),FR.out.out.alloc z2 _⟩
 case round =>
  clear FR BA z2 t1 t2 t3
  obtain ⟨k,out,hk,rfl,hrun,hin,hown,hb⟩:=hrel
  have HB:=zH hb
  have ON:=zH hown
  have HR:=zH hrun
  have HI:=zH hin
  obtain ⟨A1,c1,rfl,sl⟩:=hown.sl (S':=bin w.heap.size wr.heap.size) (by show 0 < 2;decide) (fun b h1 h2=>⟨h1,h2⟩) (fun _ h=>h.elim)
  have SL:=zH sl
  clear hb hown hrun sl hin
  by_cases hlt:k < n
  ·have p1:(k:Int) < (n:Int):=by omega
   obtain ⟨d,b0,off,W,nw,cw,B,nb,cb,hd,rfl,_,_,hin,hw8,hw32,hrg⟩:=(H.out.below HB.out (fun _ h=>h)).node_at k hlt
   have hsz:=HF.out d (List.mem_of_getElem? hd)
   have hs1:=H1.out d (List.mem_of_getElem? hd)
   have hnx:=runG_next HR.out hd
   have q8:=hw8.n_eq
   have q32:=hw32.n_eq
   rw [q8] at hs1
   have hol:=SL.out.n_eq
   have HXI:=zH (stepR_in HI.out hin)
   have RG:=zH hrg
   have HW2:=zH (hw8.more (blo_more HB.out.size))
   have HW3:=zH (hw32.more (blo_more HB.out.size))
   have TH:=zH (fun w=>rthere_any d W nw cw B nb cb ((k+1:Nat):Int) w)
   have GG:=zH (fun al ah bl bh w h1 h2 i1 i2 i3 i4=>rguardNode_any d W nw cw B nb cb al ah bl bh w h1 h2 hin i1 i2 i3 i4 (by omega) (by omega) hs1)
   have TB:=there_bd (d:=d) (n:=((k+1:Nat):Int))
   have SV:=zH (show stepR d out=if thereV d ((k+1:Nat):Int)=false then ((0,0),8) else nodeR d (out.getD d.a.toNat (0,0)) (out.getD (secondV d).toNat (0,0)) by unfold stepR;rw [hol])
   obtain ⟨th,hth⟩:∃ x,thereV d ((k+1:Nat):Int)=x:=⟨_,rfl⟩
   rw [hth] at TH TB SV
   have KF:=zH (show (d.kind=6 → secondV d=d.b)∧(d.kind ≠ 6 → secondV d=d.a) from ⟨fun h=>if_pos h,fun h=>if_neg h⟩)
   have NX:=zH hnx
   clear hd hin hw8 hw32 hrg hs1 hnx hol hth q8 q32 hsz
   have zr:=HB.out.size
   have HX:=zH (Far.refl wr)
   cases th with
   | false =>
    have R:=zH (show r=([],(k:Int),8) by
     have:=NX.out
     rw [SV.out,if_pos rfl,if_pos (by decide)] at this
     rw [V2.out,runG_bad this n (by omega)];rfl)
    clear TB SV NX V2 GG KF HXI
    go_wp2_with (first
     | (refine lM 87 (.tmp 34) RG.out Tryz.underlying87 ?_)
     | (refine sF 87 (.tmp 9) (.tmp 35) (nN d.kind d.a d.b d.k d.s d.p d.out d.za d.zb W nw cw B nb cb d.qm d.qs d.qz d.rm d.rs d.rz d.lo d.hi) ?_;intro w7 b7 k7;replace HX:=zN k7 HX b7;clear b7)
     | (refine lB 87 (.tmp 9) wr.heap.size HX.out.2 Tryz.underlying87 ?_))
    refine (TH.out _).mono ?_
    rintro e w8 ⟨rfl,hb⟩
    replace HX:=zF hb HX
    clear hb
    go_wp2_with fail
    go_ret3
    rw [R.out]
    exact RetFlow.none (below_later HX.out.1.out HB.out)
   | true =>
    obtain ⟨u1,u2,u3,u4⟩:=TB rfl
    rw [if_neg (by decide)] at SV
    obtain ⟨⟨y1,y2⟩,g0,go0,hy,e0,_,_,j1,j2,q1⟩:=SL.out.rg_at d.a.toNat (by omega)
    obtain ⟨⟨b1,b2⟩,g0',go0',hz,e1,_,_,j3,j4,q2⟩:=SL.out.rg_at (secondV d).toNat (by omega)
    subst e0
    obtain ⟨rfl,rfl⟩:g0=g0'∧go0=go0':=by simpa using e1
    rw [getD_at hy,getD_at hz] at SV
    simp only at q1 q2 j1 j2 j3 j4
    have Q1:=zH q1
    have GN:=zH (fun w h1 h2=>GG.out y1 y2 b1 b2 w h1 h2 j1 j2 j3 j4)
    unfold RetR at GN
    obtain ⟨⟨⟨x1,x2⟩,xe⟩,hxx⟩:∃ s,nodeR d (y1,y2) (b1,b2)=s:=⟨_,rfl⟩
    rw [hxx] at GN SV
    simp only at GN
    rw [SV.out] at NX HXI
    simp only at NX HXI
    have y3:d.a < (k:Int)+1:=by omega
    have W6:=zH (show d.kind=6 → 0≤d.b∧d.b < (k:Int)+1∧wr.rangeAt g0 (go0+d.b.toNat*2) [.int .i8 b1,.int .i8 b2] from fun h=>by
     have e:=KF.out.1 h
     rw [e] at q2
     exact ⟨by omega,by omega,q2⟩)
    have N6:=zH (show d.kind ≠ 6 → y1=b1∧y2=b2 from fun h=>by
     rw [KF.out.2 h,hy] at hz
     simpa using hz)
    clear hy hz hxx e1 q1 q2 j1 j2 j3 j4 SV GG u2 u3 u4 TB KF
    go_wp2_with (first
     | (refine lM 87 (.tmp 34) RG.out Tryz.underlying87 ?_)
     | (refine sF 87 (.tmp 9) (.tmp 35) (nN d.kind d.a d.b d.k d.s d.p d.out d.za d.zb W nw cw B nb cb d.qm d.qs d.qz d.rm d.rs d.rz d.lo d.hi) ?_;intro w7 b7 k7;replace HX:=zN k7 HX b7;clear b7)
     | (refine lB 87 (.tmp 9) wr.heap.size HX.out.2 Tryz.underlying87 ?_))
    refine (TH.out _).mono ?_
    rintro e w8 ⟨rfl,hb⟩
    replace HX:=zF hb HX
    clear hb
    have cA:=fun i=>HX.out.2.cell i
    have w8s:=zH (show wr.heap.size < w8.heap.size from HX.out.2.lt)
    have Q1w:=zH (rangeF Q1.out HX.out.1.out)
    go_upto_if 49 with (first
     | (refine lM 131 (.tmp 45) Q1w.out Tryz.underlying131 ?_)
     | (refine sF 131 (.tmp 10) (.tmp 46) #[.int .i8 y1,.int .i8 y2] ?_;intro w9 b9 k9;replace HX:=zN k9 HX b9;clear b9 cA;have cA:=fun i=>HX.out.1.2.cell i))
    obtain ⟨gb,hgb⟩:∃ x,x=w8.heap.size:=⟨_,rfl⟩
    rw [← hgb] at HX ⊢
    have GB:=zH hgb
    clear hgb k9
    go_cut [] (fun wx=>(Far wr wx∧Blk wx wr.heap.size 87 (nN d.kind d.a d.b d.k d.s d.p d.out d.za d.zb W nw cw B nb cb d.qm d.qs d.qz d.rm d.rs d.rz d.lo d.hi))∧Blk wx gb 131 #[.int .i8 b1,.int .i8 b2])
    case first =>
     by_cases c6:d.kind=6
     ·have t6:(d.kind == 6)=true:=by simp [c6]
      obtain ⟨v1,v2,q2⟩:=W6.out c6
      have Q2w:=zH (rangeF q2 HX.out.1.1.out)
      have zb:wr.heap.size < gb:=by rw [GB.out];exact w8s.out
      clear c6 q2
      go_wp2_with (first
       | (refine lM 131 (.tmp 53) Q2w.out Tryz.underlying131 ?_)
       | (refine sB 131 (.tmp 10) (.tmp 54) gb #[.int .i8 b1,.int .i8 b2] HX.out.2 ?_;intro w10 b10 g10;replace HX:=zS g10 b10 HX;clear b10 g10))
      go_meet
      case rel=>exact HX.out
     ·have t6:(d.kind == 6)=false:=by simpa using c6
      obtain ⟨rfl,rfl⟩:=N6.out c6
      clear c6
      go_wp2_with fail
      go_meet
      case rel=>exact HX.out
    case rest =>
    obtain ⟨w9,hw9⟩:∃ x,x=wc:=⟨_,rfl⟩
    subst hw9
    have BD:=zH hcut.1.2
    have BB:=zH hcut.2
    have G8:=zH hcut.1.1.out
    clear hcut HX cA
    go_upto_region 17 with fail
    go_cut [11,12] (fun b c wx=>∃ g,b=.pointer (some ⟨g,0,none⟩)∧c=.int .i64 xe∧Blk wx g 131 #[.int .i8 x1,.int .i8 x2]∧Below wr.heap.size wr wx)
    case first =>
     refine wp_region_held_drew (S:=fun w'=>w'.cell? ⟨wr.heap.size,1,none⟩=some (.int .i64 d.a)∧Blk w' wr.heap.size 87 (nN d.kind d.a d.b d.k d.s d.p d.out d.za d.zb W nw cw B nb cb d.qm d.qs d.qz d.rm d.rs d.rz d.lo d.hi)∧Blk w' gb 131 #[.int .i8 b1,.int .i8 b2]∧Below wr.heap.size wr w') (by kernel_rfl) ?_ (fun hS=>?_)
     ·exact ⟨BD.out.drew.cell 1,BD.out.drew,BB.out.drew,G8.out.drew⟩
     refine tkH 0 rfl (yieldsIf_load_blk (by rfl) 87 (.tmp 9) rfl wr.heap.size 0 rfl _ _ (nN d.kind d.a d.b d.k d.s d.p d.out d.za d.zb W nw cw B nb cb d.qm d.qs d.qz d.rm d.rs d.rz d.lo d.hi) _ (fun w hs=>hs.2.1) Tryz.underlying87 rfl (by kernel_rfl) rfl) hS ?_
     try simp only [pX]
     refine kH 1 rfl hS ?_
     try simp only [pX]
     refine kH 2 rfl hS ?_
     try simp only [pX]
     refine kH 3 rfl hS ?_
     try simp only [pX]
     refine kH 4 rfl hS ?_
     try simp only [pX]
     refine tkH 5 rfl (yieldsIf_load_mid (by rfl) 131 (.tmp 60) rfl g0 (go0+d.a.toNat*2) rfl _ _ (fun w hs j v hv=>cell_later hs.2.2.2 (Q1.out j v hv)) Tryz.underlying131 rfl (by kernel_rfl)) hS ?_
     try simp only [pX]
     refine tkH 6 rfl (yieldsIf_load_blk (by rfl) 131 (.tmp 10) rfl gb 0 rfl _ _ #[.int .i8 b1,.int .i8 b2] _ (fun w hs=>hs.2.2.1) Tryz.underlying131 rfl (by kernel_rfl) rfl) hS ?_
     try simp only [pX]
     refine wpAnyH_ready (rs:=[7,11]) (by kernel_rfl) (by simp) ?_
     refine AllReadyH.cons rfl (fun K hK=>?_) (AllReadyH.cons rfl (fun K hK=>?_) AllReadyH.nil)
     ·go_simp
      refine (GN.out _ (HW2.out.later hS.2.2.2 (Nat.le_refl _)) (HW3.out.later hS.2.2.2 (Nat.le_refl _))).mono ?_
      rintro e wa ⟨rfl,hb⟩
      refine hK.out _ _ ?_ (fun hS=>?_)
      ·exact ⟨cell_later hb hS.1,Blk.later hS.2.1 hb,Blk.later hS.2.2.1 hb,below_later hb hS.2.2.2⟩
      clear hK K
      try simp only [pX]
      refine kH 8 rfl hS ?_
      try simp only [pX]
      refine kH 9 rfl hS ?_
      try simp only [pX]
      refine kH 10 rfl hS ?_
      try simp only [pX]
      refine rH 11 rfl (fun K hK=>?_)
      go_simp
      have zlt:wr.heap.size < wa.heap.size:=hS.2.1.lt
      have zlb:gb < wa.heap.size:=hS.2.2.1.lt
      have hb:Below wa.heap.size wa (wa.alloc (.cells #[.int .i8 0,.int .i8 0] 131)):=(Below.refl _ _).alloc (Nat.le_refl _) _
      have BZ:=zH (Blk.now wa wa.heap.size 131 #[.int .i8 0,.int .i8 0] rfl)
      refine hK.out _ _ ?_ (fun hS=>?_)
      ·exact ⟨cell_later hb hS.1,Blk.later hS.2.1 hb,Blk.later hS.2.2.1 hb,below_later hb hS.2.2.2⟩
      clear hK K
      try simp only [pX]
      refine rH 12 rfl (fun K hK=>?_)
      rw [if_pos (by rfl)]
      refine oper_store_blk 131 (.tmp 11) (.tmp 64) rfl wa.heap.size 0 #[.int .i8 x1,.int .i8 x2] rfl rfl _ #[.int .i8 0,.int .i8 0] #[.int .i8 x1,.int .i8 x2] BZ.out (by simp) (by kernel_rfl) (by simp [Value.oneCell']) rfl ?_
      intro wc BX gc
      have BDc:=hS.2.1.away gc (by omega)
      refine hK.out _ _ ⟨BDc.cell 1,BDc,hS.2.2.1.away gc (by omega),hS.2.2.2.grown gc hS.2.2.2.size (fun k h=>by have:=Option.some.inj h;omega)⟩ (fun hS=>?_)
      clear hK K
      try simp only [pX]
      refine kH 13 rfl hS ?_
      try simp only [pX]
      refine wpAnyH_done (by kernel_rfl) ?_ _
      have FZ:=hS.2.2.2
      go_wp2_with fail
      go_meet
      case rel=>exact ⟨_,rfl,rfl,BX,FZ⟩
     ·go_simp
      have zlt:wr.heap.size < w9.heap.size:=hS.2.1.lt
      have zlb:gb < w9.heap.size:=hS.2.2.1.lt
      have hb:Below w9.drew.heap.size w9.drew (w9.drew.alloc (.cells #[.int .i8 0,.int .i8 0] 131)):=(Below.refl _ _).alloc (Nat.le_refl _) _
      have BZ:=zH (Blk.now w9.drew w9.heap.size 131 #[.int .i8 0,.int .i8 0] rfl)
      refine hK.out _ _ ?_ (fun hS=>?_)
      ·exact ⟨cell_later hb hS.1,Blk.later hS.2.1 hb,Blk.later hS.2.2.1 hb,below_later hb hS.2.2.2⟩
      clear hK K
      try simp only [pX]
      refine rH 7 rfl (fun K hK=>?_)
      go_simp
      refine (GN.out _ (HW2.out.later hS.2.2.2 (Nat.le_refl _)) (HW3.out.later hS.2.2.2 (Nat.le_refl _))).mono ?_
      rintro e wa ⟨rfl,hb⟩
      replace BZ:=zH (BZ.out.later hb)
      refine hK.out _ _ ?_ (fun hS=>?_)
      ·exact ⟨cell_later hb hS.1,Blk.later hS.2.1 hb,Blk.later hS.2.2.1 hb,below_later hb hS.2.2.2⟩
      clear hK K
      try simp only [pX]
      refine kH 8 rfl hS ?_
      try simp only [pX]
      refine kH 9 rfl hS ?_
      try simp only [pX]
      refine kH 10 rfl hS ?_
      try simp only [pX]
      refine rH 12 rfl (fun K hK=>?_)
      rw [if_pos (by rfl)]
      refine oper_store_blk 131 (.tmp 11) (.tmp 64) rfl w9.heap.size 0 #[.int .i8 x1,.int .i8 x2] rfl rfl _ #[.int .i8 0,.int .i8 0] #[.int .i8 x1,.int .i8 x2] BZ.out (by simp) (by kernel_rfl) (by simp [Value.oneCell']) rfl ?_
      intro wc BX gc
      have BDc:=hS.2.1.away gc (by omega)
      refine hK.out _ _ ⟨BDc.cell 1,BDc,hS.2.2.1.away gc (by omega),hS.2.2.2.grown gc hS.2.2.2.size (fun k h=>by have:=Option.some.inj h;omega)⟩ (fun hS=>?_)
      clear hK K
      try simp only [pX]
      refine kH 13 rfl hS ?_
      try simp only [pX]
      refine wpAnyH_done (by kernel_rfl) ?_ _
      have FZ:=hS.2.2.2
      go_wp2_with fail
      go_meet
      case rel=>exact ⟨_,rfl,rfl,BX,FZ⟩
    case rest =>
     obtain ⟨wb,rfl,rfl,BX,hbx⟩:=hcut
     have G9:=zH hbx
     have BXX:=zH BX
     have OC:=zH (ON.out.below G9.out (Nat.le_refl _) (fun _ h=>h.elim))
     clear BX hbx BD BB G8 GN
     by_cases hxe:xe=0
     ·subst hxe
      rw [if_neg (by decide)] at NX
      go_wp2_with (first
       | (refine lB 131 (.tmp 11) wb BXX.out Tryz.underlying131 ?_)
       | (refine wpList_lit1 rfl (.tmp 71) rfl ei_rR #[.int .i8 x1,.int .i8 x2] rfl rfl (by decide) ?_)
       | (at_builtin;refine wpList_push (W:=wc) (cs:=#[.int .i8 x1,.int .i8 x2]) (E:=131) (t:=tRg .i8) (S:=fun _=>False) (base:=w.heap.size) rfl (.tmp 70) (.tmp 72) rfl ei_rR rfl OC.out 1 rfl (x1,x2) (rg_rep HXI.out.1 HXI.out.2) (by unfold maxLen;omega) (by omega) (Nat.le_trans zr G9.out.size) (fun _ h=>h.elim) ?_;intro v' wz ownz gz atz))
      have bz:=(below_later G9.out HB.out).grown gz (Nat.le_trans zr G9.out.size) (fun j hj=>(OC.out.lt j hj).1)
      exact ⟨⟨k+1,out ++ [(x1,x2)],by omega,by go_num,NX.out,by intro p hp;rcases List.mem_append.1 hp with h|h;exact HI.out p h;rw [List.mem_singleton.1 h];exact HXI.out,ownz,bz⟩,by simp [intOf];omega⟩
     ·have t5:(xe != 0)=true:=by simpa using hxe
      rw [if_pos hxe] at NX
      have R:=zH (show r=([],(k:Int),xe) by rw [V2.out,runG_bad NX.out n (by omega)];rfl)
      clear hxe NX V2
      go_wp2_with fail
      go_ret3
      rw [R.out]
      exact RetFlow.none (below_later G9.out HB.out)
  ·obtain rfl:k=n:=by omega
   have R:=zH (show r=(out,(k:Int),0) by rw [V2.out,HR.out];rfl)
   clear hlt hk V2
   go_wp2_with fail
   go_ret3
   rw [R.out]
   exact ⟨A1,_,c1,rfl,SL.out,HB.out⟩
theorem check_w {m:Int} {nw nb:Nat} {need cl:Int} (h:checkI m nw nb need cl=0):1≤nw:=by
 unfold checkI at h
 split at h
 ·cases h
 split at h
 ·cases h
 split at h
 ·cases h
 rename_i c1 c2 c3
 have h1:(nw:Int)=cl*m:=Classical.byContradiction fun q=>c3 (.inl q)
 have h2:cl*m ≠ 0:=Int.mul_ne_zero (by omega) c1
 omega
theorem rvblock_any (b:BlkD) (L:Option Addr) (n cn:Nat) (W:Option Addr) (nw cw:Nat) (B:Option Addr) (nb cb:Nat) (s:Sh3) (cl:Int) (last:Bool) (w:World)
  (hb:BlkAt b L n cn W nw cw B nb cb (blo w.heap.size) w) (hs:InK .i64 s.1∧InK .i64 s.2.1∧InK .i64 s.2.2) (hcl:InK .i64 cl) (hf:fewB b) :
  Calls Tryz.prog 29 #[.agg #[.slice L n cn,.bool b.exit,.slice W nw cw,.slice B nb cb,.int .i32 b.head.need],.agg (sN s.1 s.2.1 s.2.2),.int .i64 cl,.bool last] w
   fun e w'=>e=.returned (.tuple #[.int .i64 (blockV b s cl last).1,.int .i64 (blockV b s cl last).2])∧Below w.heap.size w w':=by
 have HN:=zH (Old.now hb.nodes)
 have HB:=zH hb
 have LN:=zH hb.nodes.n_eq
 have SP:=zH (fun w h=>rshapes_any L n cn b.nodes s.1 s.2.1 s.2.2 w h hs.1 hs.2.1 hs.2.2 hf.1.2)
 have FL:=zH (fun w h h1=>rflow_any L n cn b.nodes (-128) 127 w h (by decide) (by decide) hf.1.2 h1)
 have CK:=zH (fun h v c w h0 h1 h2=>refCheck_any h v c W nw cw B nb cb b.head.need cl w h0 h1 h2 (Nat.le_trans hb.hw.cap_le hb.hw.max_le) (Nat.le_trans hb.hb.cap_le hb.hb.max_le) hcl)
 have n16:nw≤16384∧nb≤16384:=⟨by have:=hf.2.1;rw [hb.hw.n_eq] at this;omega,by have:=hf.2.2;rw [hb.hb.n_eq] at this;omega⟩
 have HD:=zH (fun lo hi w (hb:BlkAt b L n cn W nw cw B nb cb (blo w.heap.size) w) hlo hhi h1=>rguardHead_any W nw cw b.head.w B nb cb b.head.bias b.head.need lo hi w (BlkAt.hw hb) (BlkAt.hb hb) hlo hhi n16.1 n16.2 h1)
 have EXV:=zH (fun o r=>show exitV b o r cl last=if b.exit=false then (if last=true ∨ toldH b.head=true then 11 else 0) else if checkI (elems o.1 o.2.1 o.2.2) nw nb b.head.need cl ≠ 0 then checkI (elems o.1 o.2.1 o.2.2) nw nb b.head.need cl else headR b.head.w b.head.bias r.1 r.2 by unfold exitV;rw [hb.hw.n_eq,hb.hb.n_eq])
 have TV:=zH (show toldH b.head=(decide (0 < nw) || (decide (0 < nb) || b.head.need != 0)) by unfold toldH;rw [hb.hw.n_eq,hb.hb.n_eq])
 have CW:=zH (fun m=>check_w (m:=m) (nw:=nw) (nb:=nb) (need:=b.head.need) (cl:=cl))
 have mw:nw≤9223372036854775807:=by omega
 have mb:nb≤9223372036854775807:=by omega
 have SW:=zH (shapes_w (l:=b.nodes) (s:=s))
 have SL:=zH (shapes_len (l:=b.nodes) (s:=s))
 have FLL:=zH (flow_len (l:=b.nodes) (a:=(-128,127)))
 have HV:=zH (show blockV b s cl last=if (shapesV b.nodes s).2.2 ≠ 0 then (shapesV b.nodes s).2 else if (flowR b.nodes (-128,127)).2.2 ≠ 0 then (flowR b.nodes (-128,127)).2
  else if exitV b ((shapesV b.nodes s).1.getD b.nodes.length (0,0,0)) ((flowR b.nodes (-128,127)).1.getD b.nodes.length (0,0)) cl last ≠ 0 then (-1,exitV b ((shapesV b.nodes s).1.getD b.nodes.length (0,0,0)) ((flowR b.nodes (-128,127)).1.getD b.nodes.length (0,0)) cl last)
  else ((b.nodes.length:Int),0) from rfl)
 obtain ⟨r,hr⟩:∃ x,blockV b s cl last=x:=⟨_,rfl⟩
 obtain ⟨⟨sl,sp,se⟩,hsv⟩:∃ x,shapesV b.nodes s=x:=⟨_,rfl⟩
 obtain ⟨⟨fl,fp,fe⟩,hfv⟩:∃ x,flowR b.nodes (-128,127)=x:=⟨_,rfl⟩
 obtain ⟨s1,s2,s3⟩:=s
 simp only at SP
 rw [hr,hsv,hfv] at HV
 simp only [LN.out] at HV
 rw [hr]
 simp only [hsv] at SP SW SL
 simp only [hfv] at FL FLL
 rw [LN.out] at SL FLL
 unfold RetShapes at SP
 unfold RetFlow at FL
 simp only at SP FL
 obtain ⟨need,hnd⟩:∃ x,b.head.need=x:=⟨_,rfl⟩
 obtain ⟨ex,hex⟩:∃ x,b.exit=x:=⟨_,rfl⟩
 rw [hnd,hex]
 simp only [hnd,hex] at CK HD EXV TV CW
 obtain ⟨td,htd⟩:∃ x,toldH b.head=x:=⟨_,rfl⟩
 simp only [htd] at EXV TV
 have H:=zH (Far.refl w)
 have mx:n≤9223372036854775807:=Nat.le_trans hb.nodes.cap_le hb.nodes.max_le
 clear hb hs hcl hr hsv hfv hnd hex hf htd n16
 obtain ⟨w1,hw_w1,B1,k1⟩:=nB w #[.slice L n cn,.bool ex,.slice W nw cw,.slice B nb cb,.int .i32 need] 49
 replace H:=zN k1 H B1
 clear B1 k1
 obtain ⟨w2,hw_w2,B2,k2⟩:=nB w1 (sN s1 s2 s3) 23
 replace H:=zN k2 H B2
 clear B2 k2
 have cA:=fun i=>H.out.1.2.cell i
 go_enter Tryz.func29,Tryz.ntmps29
 go_wp2_with (refine lB 23 (.tmp 5) w1.heap.size H.out.2 Tryz.underlying23 ?_)
 refine (SP.out _ (HN.out.fut H.out.1.1.out).all).mono ?_
 rintro e w3 ⟨A3,m3,c3,rfl,q3,hb⟩
 have N3:=zH (New.of q3 H.out.1.1)
 have K3:=zH q3.n_eq
 replace H:=zN hb H N3
 clear hb cA q3 N3
 have cA:=fun i=>H.out.1.1.2.cell i
 by_cases e1:se=0
 rotate_left
 ·have t1:(se != 0)=true:=by simpa using e1
  rw [if_pos e1] at HV
  clear e1
  go_wp2_with fail
  go_ret2
  exact ⟨by rw [HV.out] <;> rfl,H.out.1.1.1.out⟩
 subst e1
 rw [if_neg (by decide)] at HV
 go_wp2_with fail
 refine (FL.out _ (HN.out.fut H.out.1.1.1.out).all (SW.out (by trivial))).mono ?_
 rintro e w4 ⟨A4,m4,c4,rfl,q4,hb⟩
 have N4:=zH (New.of q4 H.out.1.1.1)
 have K4:=zH q4.n_eq
 replace H:=zN hb H N4
 clear hb cA q4 N4
 have cA:=fun i=>H.out.1.1.1.2.cell i
 by_cases e2:fe=0
 rotate_left
 ·have t2:(fe != 0)=true:=by simpa using e2
  rw [if_pos e2] at HV
  clear e2
  go_wp2_with fail
  go_ret2
  exact ⟨by rw [HV.out] <;> rfl,H.out.1.1.1.1.out⟩
 subst e2
 rw [if_neg (by decide)] at HV
 have M3:m3=n+1:=by rw [← K3.out];exact SL.out (by trivial)
 have M4:m4=n+1:=by rw [← K4.out];exact FLL.out (by trivial)
 have i3:(n:Int) < (m3:Int):=by omega
 have i4:(n:Int) < (m4:Int):=by omega
 have mm3:=Nat.le_trans H.out.1.2.old.cap_le H.out.1.2.old.max_le
 have mm4:=Nat.le_trans H.out.2.old.cap_le H.out.2.old.max_le
 unfold maxLen at mm3 mm4
 have s3:IntKind.i64.wrap ((m3:Int) - 1)=(n:Int):=(IntWalk.i64_in _ (by omega)).trans (by omega)
 have s4:IntKind.i64.wrap ((m4:Int) - 1)=(n:Int):=(IntWalk.i64_in _ (by omega)).trans (by omega)
 obtain ⟨b3,o3,rfl,-,-,hx1,hx2,hx3,-,r3⟩:=H.out.1.2.old.shape_at n (by omega)
 obtain ⟨y,b4,o4,hy,rfl,-,-,hy1,hy2,r4⟩:=H.out.2.old.rg_at n (by omega)
 rw [getD_at hy] at HV
 obtain ⟨⟨x1,x2,x3⟩,hx⟩:∃ x,sl.getD n (0,0,0)=x:=⟨_,rfl⟩
 rw [hx] at HV r3 hx1 hx2 hx3
 obtain ⟨y1,y2⟩:=y
 replace CK:=zH (fun w=>CK.out x1 x2 x3 w hx1 hx2 hx3)
 replace HD:=zH (fun w hb h1=>HD.out y1 y2 w hb hy1 hy2 h1)
 have EV:=EXV.out (x1,x2,x3) (y1,y2)
 simp only at EV
 replace CW:=zH (CW.out (elems x1 x2 x3))
 obtain ⟨ck,hck⟩:∃ g,checkI (elems x1 x2 x3) nw nb need cl=g:=⟨_,rfl⟩
 obtain ⟨hd,hhd⟩:∃ g,headR b.head.w b.head.bias y1 y2=g:=⟨_,rfl⟩
 rw [hck,hhd] at EV
 simp only [hck] at CK CW
 simp only [hhd] at HD
 rw [EV] at HV
 clear M3 M4 hx hy hx1 hx2 hx3 hy1 hy2 hck hhd EV EXV K3 K4 SL FLL
 have R3:=zH r3
 have R4:=zH r4
 clear r3 r4
 go_upto_region 7 with fail
 go_cut [16] (fun v wx=>v=.bool td∧wx=w4)
 case first =>
  by_cases g1:0 < nw
  ·have t3:decide (0 < (nw:Int))=true:=by simp;omega
   have E:=zH (show td=true by rw [TV.out,decide_eq_true g1];rfl)
   go_wp2_with fail
   go_meet
   case rel=>exact ⟨by rw [E.out],rfl⟩
  have t3:decide (0 < (nw:Int))=false:=by simp;omega
  by_cases g2:0 < nb
  ·have t4:decide (0 < (nb:Int))=true:=by simp;omega
   have E:=zH (show td=true by rw [TV.out,decide_eq_true g2];simp)
   go_wp2_with fail
   go_meet
   case rel=>exact ⟨by rw [E.out],rfl⟩
  have t4:decide (0 < (nb:Int))=false:=by simp;omega
  have E:=zH (show td=(need != 0) by rw [TV.out,decide_eq_false g1,decide_eq_false g2];rfl)
  go_wp2_with fail
  go_meet
  case rel=>exact ⟨by rw [E.out],rfl⟩
 case rest =>
 obtain ⟨rfl,rfl⟩:=hcut
 clear TV
 cases ex with
 | false =>
  rw [if_pos rfl] at HV
  by_cases c5:last=true ∨ td=true
  ·rw [if_pos c5,if_pos (by decide)] at HV
   have E:=zH (show (last || td)=true by simpa using c5)
   clear c5
   cases last with
   | true =>
    go_wp2_with fail
    go_ret2
    exact ⟨by rw [HV.out] <;> rfl,H.out.1.1.1.1.out⟩
   | false =>
    have t5:td=true:=by simpa using E.out
    subst t5
    go_wp2_with fail
    go_ret2
    exact ⟨by rw [HV.out] <;> rfl,H.out.1.1.1.1.out⟩
  ·rw [if_neg c5,if_neg (by decide)] at HV
   obtain rfl:last=false:=by cases last;rfl;exact absurd (Or.inl rfl) c5
   obtain rfl:td=false:=by cases td;rfl;exact absurd (Or.inr rfl) c5
   clear c5
   go_wp2_with fail
   go_ret2
   exact ⟨by rw [HV.out] <;> rfl,H.out.1.1.1.1.out⟩
 | true =>
  rw [if_neg (show ¬ (true=false) by decide)] at HV
  have R0:=zH (fun z:Ext wc=>range_blk (off:=2) (vs:=[.slice W nw cw,.slice B nb cb,.int .i32 need]) (H.out.1.1.1.2.ext z) rfl)
  have R3x:=zH (fun z:Ext wc=>rangeF R3.out z.2)
  have E1:=zH (fun z:Ext wc=>calls_ext z (CK.out z.1))
  go_upto_region 11 with fail
  refine wp_region_ext wc (by kernel_rfl) (by kernel_rfl) (Below.refl _ _) ?_
  repeat (go_big_quiet_step (fail))
  refine wpQuiet_load_mid (by kernel_rfl) 23 (.tmp 76) rfl b3 (o3+n*3) rfl _ _ (by rintro _ ⟨z,rfl⟩;exact R3x.out z) Tryz.underlying23 rfl (by kernel_rfl) ?_
  simp only [pX]
  repeat (go_big_quiet_step (fail))
  refine wpQuiet_load_mid (by kernel_rfl) 47 (.tmp 78) rfl w.heap.size 2 rfl _ _ (by rintro _ ⟨z,rfl⟩;exact R0.out z) Tryz.underlying47 rfl (by kernel_rfl) ?_
  simp only [pX]
  repeat (go_big_quiet_step ((with_reducible exact E1.out _)))
  refine wpQuiet_nil ?_
  rintro wa ⟨⟨_,hb⟩,rfl⟩
  replace H:=zF hb H
  replace R4:=zF hb R4
  clear hb cA R0 R3x E1
  have cA:=fun i=>H.out.1.1.1.2.cell i
  by_cases e3:ck=0
  rotate_left
  ·have t3:(ck != 0)=true:=by simpa using e3
   rw [if_pos e3,if_pos e3] at HV
   clear e3
   go_wp2_with fail
   go_ret2
   exact ⟨by rw [HV.out] <;> rfl,H.out.1.1.1.1.out⟩
  rw [if_neg (show ¬ ck ≠ 0 by simpa using e3)] at HV
  have W1:=zH (CW.out e3)
  subst e3
  have R0:=zH (fun z:Ext wa=>range_blk (off:=2) (vs:=[.slice W nw cw,.slice B nb cb,.int .i32 need]) (H.out.1.1.1.2.ext z) rfl)
  have R4x:=zH (fun z:Ext wa=>rangeF R4.out z.2)
  have E1:=zH (fun z:Ext wa=>calls_ext z (HD.out z.1 ((HB.out.fut H.out.1.1.1.1.out).fut z.2) W1.out))
  go_upto_region 14 with fail
  refine wp_region_ext wa (by kernel_rfl) (by kernel_rfl) (Below.refl _ _) ?_
  go_big_quiet_step (fail)
  refine wpQuiet_load_mid (by kernel_rfl) 47 (.tmp 85) rfl w.heap.size 2 rfl _ _ (by rintro _ ⟨z,rfl⟩;exact R0.out z) Tryz.underlying47 rfl (by kernel_rfl) ?_
  simp only [pX]
  repeat (go_big_quiet_step (fail))
  refine wpQuiet_load_mid (by kernel_rfl) 131 (.tmp 91) rfl b4 (o4+n*2) rfl _ _ (by rintro _ ⟨z,rfl⟩;exact R4x.out z) Tryz.underlying131 rfl (by kernel_rfl) ?_
  simp only [pX]
  repeat (go_big_quiet_step ((with_reducible exact E1.out _)))
  refine wpQuiet_nil ?_
  rintro wb ⟨⟨_,hb⟩,rfl⟩
  replace H:=zF hb H
  clear hb cA R0 R4x E1
  have cA:=fun i=>H.out.1.1.1.2.cell i
  by_cases e4:hd=0
  ·subst e4
   rw [if_neg (by decide)] at HV
   go_wp2_with fail
   go_ret2
   exact ⟨by rw [HV.out] <;> rfl,H.out.1.1.1.1.out⟩
  ·have t4:(hd != 0)=true:=by simpa using e4
   rw [if_pos e4] at HV
   clear e4
   go_wp2_with fail
   go_ret2
   exact ⟨by rw [HV.out] <;> rfl,H.out.1.1.1.1.out⟩
end Go.Proofs.YtppcjcigekoipaaGreat
