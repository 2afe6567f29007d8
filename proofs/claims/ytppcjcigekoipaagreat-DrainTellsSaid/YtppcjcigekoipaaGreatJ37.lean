/-
  The shapes of all values (layer 27): the document's Shapes.
-/
import Derived.Test.YtppcjcigekoipaaGreatJ31
set_option linter.unusedVariables false
set_option linter.unusedSimpArgs false
namespace Go.Proofs.YtppcjcigekoipaaGreat
open Go.RowKit Go.ChangeShapes Go.WideShapes
set_option maxRecDepth 100000
set_option maxHeartbeats 16000000 in
theorem rshapes_any (A:Option Addr) (n cap:Nat) (l:List Node) (h v c:Int) (w:World) (hs:Sl tNode w (blo w.heap.size) A n cap l) (i0:InK .i64 h) (i1:InK .i64 v) (i2:InK .i64 c) (hf:∀ d ∈ l,d.w.length≤1000∧d.bias.length≤100) :
  Calls Tryz.prog 30 #[.slice A n cap,.agg (sN h v c)] w (RetShapes (shapesV l (h,v,c)) w):=by
 have hn:=hs.n_eq
 obtain ⟨r,hr⟩:∃ r,shapesV l (h,v,c)=r:=⟨_,rfl⟩
 rw [hr]
 unfold shapesV at hr
 simp only [hn] at hr
 have RI:=zH (fun w=>relems_any h c v w i0 i1 i2)
 have m0:=(elems_range h v c).1
 have GS:=zH (GoodS.of (h:=h) (v:=v) (c:=c))
 obtain ⟨m,hm⟩:∃ m,elems h v c=m:=⟨_,rfl⟩
 rw [hm] at hr RI m0 GS
 have VV:=zH hr.symm
 have H:=zH hs
 have HF:=zH hf
 have hmax:n≤9223372036854775807:=Nat.le_trans hs.cap_le hs.max_le
 clear hr hm hs hf i0 i1 i2 hn
 have FR:=zH (Far.refl w)
 obtain ⟨w1,hw_w1,BA,k_w1⟩:=nB w (sN h v c) 23
 replace FR:=zH (FR.out.fut k_w1)
 clear k_w1
 have l1:w.heap.size < w1.heap.size:=by rw [← hw_w1];simp
 by_cases c1:m=0
 ·have t1:(m == 0)=true:=by simp [c1]
  have R:=zH (show r=([],-1,5) by rw [VV.out,if_pos c1])
  clear c1 VV
  go_enter Tryz.func30,Tryz.ntmps30
  go_wp2_with (refine lB 23 (.tmp 3) w.heap.size BA.out Tryz.underlying23 ?_)
  clear hw_w1
  refine (RI.out _).mono ?_
  rintro e w2 ⟨rfl,hb⟩
  replace FR:=zH (FR.out.fut hb)
  replace BA:=zH (BA.out.fut hb)
  clear hb
  go_wp2_with fail
  go_ret3
  rw [R.out]
  exact RetShapes.none FR.out.out
 have t1:(m == 0)=false:=by simpa using c1
 have good:=zH (GS.out c1)
 by_cases c2:n=0
 ·have t2:((n:Int) == 0)=true:=by simp;omega
  have R:=zH (show r=([],-1,12) by rw [VV.out,if_neg c1,if_pos c2])
  clear c1 c2 VV
  go_enter Tryz.func30,Tryz.ntmps30
  go_wp2_with (refine lB 23 (.tmp 3) w.heap.size BA.out Tryz.underlying23 ?_)
  clear hw_w1
  refine (RI.out _).mono ?_
  rintro e w2 ⟨rfl,hb⟩
  replace FR:=zH (FR.out.fut hb)
  replace BA:=zH (BA.out.fut hb)
  clear hb
  go_wp2_with fail
  go_ret3
  rw [R.out]
  exact RetShapes.none FR.out.out
 have t2:((n:Int) == 0)=false:=by simp;omega
 by_cases c3:8 < n
 ·have t3:decide (8 < (n:Int))=true:=by simp;omega
  have R:=zH (show r=([],-1,4) by rw [VV.out,if_neg c1,if_neg c2,if_pos c3])
  clear c1 c2 c3 VV
  go_enter Tryz.func30,Tryz.ntmps30
  go_wp2_with (refine lB 23 (.tmp 3) w.heap.size BA.out Tryz.underlying23 ?_)
  clear hw_w1
  refine (RI.out _).mono ?_
  rintro e w2 ⟨rfl,hb⟩
  replace FR:=zH (FR.out.fut hb)
  replace BA:=zH (BA.out.fut hb)
  clear hb
  go_wp2_with fail
  go_ret3
  rw [R.out]
  exact RetShapes.none FR.out.out
 have t3:decide (8 < (n:Int))=false:=by simp;omega
 have hn8:n≤8:=by omega
 have V2:=zH (show r=endS n (runS l (h,v,c) n) by rw [VV.out,if_neg c1,if_neg c2,if_neg c3])
 clear c1 c2 c3 VV GS
 go_enter Tryz.func30,Tryz.ntmps30
 go_wp2_with (refine lB 23 (.tmp 3) w.heap.size BA.out Tryz.underlying23 ?_)
 clear hw_w1
 refine (RI.out _).mono ?_
 rintro e w2 ⟨rfl,hb⟩
 replace FR:=zH (FR.out.fut hb)
 replace BA:=zH (BA.out.fut hb)
 clear hb
 clear RI
 go_wp2_with (first
  | (refine lB 23 (.tmp 3) w.heap.size BA.out Tryz.underlying23 ?_)
  | (refine wpList_lit1 rfl (.tmp 22) rfl ei_shape (sN h v c) rfl rfl (by decide) ?_))
 have z2:=FR.out.size
 go_loopw [7,8] (fun u i wr=>∃ (k:Nat) (out:List Sh3),k≤n∧i=.int .i64 k∧runS l (h,v,c) k=.on out∧Own tShape wr (fun _=>False) w.heap.size 23 u (k+1) out∧Below w.heap.size w wr) (fun _ i _=>n - (intOf i).toNat)
 case atStart=>exact ⟨0,[(h,v,c)],Nat.zero_le _,rfl,rfl,Own.one z2 good.out.rep,FR.out.out.alloc z2 _⟩
 case round =>
  clear FR BA z2 t1 t2 t3
  obtain ⟨k,out,hk,rfl,hrun,hown,hb⟩:=hrel
  have HB:=zH hb
  have ON:=zH hown
  have HR:=zH hrun
  obtain ⟨A1,c1,rfl,sl⟩:=hown.sl (S':=bin w.heap.size wr.heap.size) (by decide) (fun b h1 h2=>⟨h1,h2⟩) (fun _ h=>h.elim)
  have SL:=zH sl
  clear hb hown hrun sl
  by_cases hlt:k < n
  ·have p1:(k:Int) < (n:Int):=by omega
   obtain ⟨d,b0,off,W,nw,cw,B,nb,cb,hd,rfl,_,_,hin,hw8,hw32,hrg⟩:=(H.out.below HB.out (fun _ h=>h)).node_at k hlt
   have hsz:=HF.out d (List.mem_of_getElem? hd)
   have hnx:=runS_next HR.out hd
   have q8:=hw8.n_eq
   have q32:=hw32.n_eq
   have RG:=zH hrg
   have HIN:=zH hin
   have HW:=zH (hw8.more (blo_more HB.out.size))
   have HW32:=zH (hw32.more (blo_more HB.out.size))
   have NX:=zH hnx
   have HSZ:=zH hsz
   have Q8:=zH q8
   have Q32:=zH q32
   have CK:=zH (fun (w':World) (hb':Below wr.heap.size wr w')=>rcheck_any d W nw cw B nb cb w' (HW.out.later hb' (Nat.le_refl _)) (HW32.out.later hb' (Nat.le_refl _)) (by omega) (by omega))
   have TH:=zH (fun w=>rthere_any d W nw cw B nb cb ((k+1:Nat):Int) w)
   have SE:=zH (fun w=>second_any d W nw cw B nb cb w)
   have KD:=zH (check_kind (d:=d))
   have TB:=zH (there_bd (d:=d) (n:=((k+1:Nat):Int)))
   have hol:=SL.out.n_eq
   have NV:=zH (show nextV d out=_ from rfl)
   have NV':=NV.out
   have NG:=zH (nextV_good (d:=d) (l:=out))
   obtain ⟨nx,hnxx⟩:∃ x,nextV d out=x:=⟨_,rfl⟩
   have NE:=zH hnxx
   unfold nextV at hnxx
   rw [hol] at hnxx
   obtain ⟨ck,hck⟩:∃ x,checkV d=x:=⟨_,rfl⟩
   obtain ⟨th,hth⟩:∃ x,thereV d ((k+1:Nat):Int)=x:=⟨_,rfl⟩
   rw [hck] at CK KD hnxx
   rw [hth] at TH TB hnxx
   have VV:=zH hnxx.symm
   clear hd hin hw8 hw32 hrg hnx hnxx hck hth hsz q8 q32 NV NV' hol
   have zr:=HB.out.size
   have front:True:=trivial
   clear front
   by_cases e1:ck=0
   rotate_left
   ·have t4:(ck != 0)=true:=by simpa using e1
    have RX:=zH (show nx=noS ck by rw [VV.out,if_pos e1])
    have R:=zH (show r=([],(k:Int),ck) by
     have:=NX.out
     rw [NE.out,RX.out,if_pos (by exact e1)] at this
     rw [V2.out,runS_bad this n (by omega)];rfl)
    clear e1 VV V2 NX NE NG RX
    go_wp2_with (first
     | (refine wpList_load_mid rfl 87 (.tmp 32) rfl b0 (off+k*19) rfl _ _ RG.out Tryz.underlying87 rfl (by kernel_rfl) ?_)
     | (refine sB 87 (.tmp 9) (.tmp 33) wr.heap.size (nN d.kind d.a d.b d.k d.s d.p d.out d.za d.zb W nw cw B nb cb d.qm d.qs d.qz d.rm d.rs d.rz d.lo d.hi) (Blk.now _ _ _ _ rfl) ?_;intro w7 B7 g7;have G7:=zH (show Below wr.heap.size wr w7 from ((Below.refl _ _).alloc (Nat.le_refl _) _).grown g7 (by simp) (fun k h=>by have:=Option.some.inj h;omega));have BD:=zH B7;clear B7 g7)
     | (refine lB 87 (.tmp 9) wr.heap.size BD.out Tryz.underlying87 ?_))
    refine (CK.out _ G7.out).mono ?_
    rintro e w8 ⟨rfl,hb⟩
    have G8:=zH (below_later hb G7.out)
    clear hb
    go_wp2_with fail
    go_ret3
    rw [R.out]
    exact RetShapes.none (below_later G8.out HB.out)
   subst e1
   have t4:((0:Int) != 0)=false:=rfl
   cases th with
   | false =>
    have RX:=zH (show nx=noS 8 by rw [VV.out,if_neg (by decide),if_pos rfl])
    have R:=zH (show r=([],(k:Int),8) by
     have:=NX.out
     rw [NE.out,RX.out,if_pos (by decide)] at this
     rw [V2.out,runS_bad this n (by omega)];rfl)
    clear VV V2 NX NE NG RX
    go_wp2_with (first
     | (refine wpList_load_mid rfl 87 (.tmp 32) rfl b0 (off+k*19) rfl _ _ RG.out Tryz.underlying87 rfl (by kernel_rfl) ?_)
     | (refine sB 87 (.tmp 9) (.tmp 33) wr.heap.size (nN d.kind d.a d.b d.k d.s d.p d.out d.za d.zb W nw cw B nb cb d.qm d.qs d.qz d.rm d.rs d.rz d.lo d.hi) (Blk.now _ _ _ _ rfl) ?_;intro w7 B7 g7;have G7:=zH (show Below wr.heap.size wr w7 from ((Below.refl _ _).alloc (Nat.le_refl _) _).grown g7 (by simp) (fun k h=>by have:=Option.some.inj h;omega));have BD:=zH B7;clear B7 g7)
     | (refine lB 87 (.tmp 9) wr.heap.size BD.out Tryz.underlying87 ?_))
    refine (CK.out _ G7.out).mono ?_
    rintro e w8 ⟨rfl,hb⟩
    have G8:=zH (below_later hb G7.out)
    replace BD:=zH (BD.out.fut hb)
    clear hb
    go_wp2_with (refine lB 87 (.tmp 9) wr.heap.size BD.out Tryz.underlying87 ?_)
    refine (TH.out _).mono ?_
    rintro e w9 ⟨rfl,hb⟩
    replace G8:=zH (below_later hb G8.out)
    clear hb
    go_wp2_with fail
    go_ret3
    rw [R.out]
    exact RetShapes.none (below_later G8.out HB.out)
   | true =>
    obtain ⟨u1,u2,u3,u4⟩:=TB.out rfl
    have hk9:=KD.out rfl
    obtain ⟨ia,hia⟩:∃ ia,d.a.toNat=ia:=⟨_,rfl⟩
    obtain ⟨ib,hib⟩:∃ ib,(secondV d).toNat=ib:=⟨_,rfl⟩
    obtain ⟨g0,go0,rfl,_,_,k1,k2,k3,_,q1⟩:=SL.out.shape_at ia (by omega)
    obtain ⟨g0',go0',e0,_,_,k4,k5,k6,_,q2⟩:=SL.out.shape_at ib (by omega)
    obtain ⟨rfl,rfl⟩:g0=g0'∧go0=go0':=by simpa using e0
    have V3:=zH (show nx=shapeV (out.getD ia (0,0,0)).1 (out.getD ia (0,0,0)).2.1 (out.getD ia (0,0,0)).2.2 (out.getD ib (0,0,0)).1 (out.getD ib (0,0,0)).2.1 (out.getD ib (0,0,0)).2.2 d by rw [VV.out,if_neg (by decide),if_neg (by decide),hia,hib])
    obtain ⟨⟨x,y,z⟩,hx⟩:∃ s,out.getD ia (0,0,0)=s:=⟨_,rfl⟩
    obtain ⟨⟨x',y',z'⟩,hx'⟩:∃ s,out.getD ib (0,0,0)=s:=⟨_,rfl⟩
    rw [hx] at q1 k1 k2 k3 V3
    rw [hx'] at q2 k4 k5 k6 V3
    simp only at q1 q2 k1 k2 k3 k4 k5 k6 V3
    have Q1:=zH q1
    have Q2:=zH q2
    obtain ⟨sc,hsc⟩:∃ s,secondV d=s:=⟨_,rfl⟩
    rw [hsc] at u3 u4 SE hib
    have KS:=zH (fun w=>rkshape_any x y z x' y' z' d W nw cw B nb cb w k1 k2 k3 HIN.out.out HIN.out.p Q8.out.symm Q32.out.symm (by have:=HSZ.out;have:=Q8.out;omega) (by have:=HSZ.out;have:=Q32.out;omega) hk9)
    obtain ⟨⟨⟨x1,x2,x3⟩,xe⟩,hxx⟩:∃ s,shapeV x y z x' y' z' d=s:=⟨_,rfl⟩
    rw [hxx] at KS V3
    simp only [retS] at KS
    have NX2:=NX.out
    rw [NE.out] at NG NX2
    rw [V3.out] at NG NX2
    simp only at NX2
    replace NX:=zH NX2
    clear NX2 NE V3 VV hx hx' hxx hsc k1 k2 k3 k4 k5 k6 q1 q2 e0 hk9 KD TB HIN
    have y2:d.a < (k:Int)+1:=by omega
    have y4:sc < (k:Int)+1:=by omega
    clear u2 u4
    go_wp2_with (first
     | (refine wpList_load_mid rfl 87 (.tmp 32) rfl b0 (off+k*19) rfl _ _ RG.out Tryz.underlying87 rfl (by kernel_rfl) ?_)
     | (refine sB 87 (.tmp 9) (.tmp 33) wr.heap.size (nN d.kind d.a d.b d.k d.s d.p d.out d.za d.zb W nw cw B nb cb d.qm d.qs d.qz d.rm d.rs d.rz d.lo d.hi) (Blk.now _ _ _ _ rfl) ?_;intro w7 B7 g7;have G7:=zH (show Below wr.heap.size wr w7 from ((Below.refl _ _).alloc (Nat.le_refl _) _).grown g7 (by simp) (fun k h=>by have:=Option.some.inj h;omega));have BD:=zH B7;clear B7 g7)
     | (refine lB 87 (.tmp 9) wr.heap.size BD.out Tryz.underlying87 ?_))
    refine (CK.out _ G7.out).mono ?_
    rintro e w8 ⟨rfl,hb⟩
    have G8:=zH (below_later hb G7.out)
    replace BD:=zH (BD.out.fut hb)
    clear hb
    go_wp2_with (refine lB 87 (.tmp 9) wr.heap.size BD.out Tryz.underlying87 ?_)
    refine (TH.out _).mono ?_
    rintro e w9 ⟨rfl,hb⟩
    replace G8:=zH (below_later hb G8.out)
    replace BD:=zH (BD.out.fut hb)
    clear hb CK TH
    have zg:=G8.out.size
    go_upto_region 17 with (fail)
    go_cut [11,12] (fun b c wx=>∃ g,b=.pointer (some ⟨g,0,none⟩)∧c=.int .i64 xe∧Blk wx g 23 (sN x1 x2 x3)∧Below wr.heap.size wr wx)
    case first =>
     refine wp_region_held_drew (S:=fun w'=>w'.cell? ⟨wr.heap.size,1,none⟩=some (.int .i64 d.a)∧Blk w' wr.heap.size 87 (nN d.kind d.a d.b d.k d.s d.p d.out d.za d.zb W nw cw B nb cb d.qm d.qs d.qz d.rm d.rs d.rz d.lo d.hi)∧Below wr.heap.size wr w') (by kernel_rfl) ?_ (fun hS=>?_)
     ·exact ⟨BD.out.drew.cell 1,BD.out.drew,G8.out.drew⟩
     refine tkH 0 rfl (yieldsIf_load_blk (by rfl) 87 (.tmp 9) rfl wr.heap.size 0 rfl _ _ (nN d.kind d.a d.b d.k d.s d.p d.out d.za d.zb W nw cw B nb cb d.qm d.qs d.qz d.rm d.rs d.rz d.lo d.hi) _ (fun w hs=>hs.2.1) Tryz.underlying87 rfl (by kernel_rfl) rfl) hS ?_
     try simp only [pX]
     refine kH 1 rfl hS ?_
     try simp only [pX]
     refine kH 2 rfl hS ?_
     try simp only [pX]
     refine kH 3 rfl hS ?_
     try simp only [pX]
     refine kH 4 rfl hS ?_
     try simp only [pX]
     refine tkH 5 rfl (yieldsIf_load_mid (by rfl) 23 (.tmp 51) rfl g0 (go0+ia*3) (by rw [← hia];rfl) _ _ (fun w hs j v hv=>cell_later hs.2.2 (Q1.out j v hv)) Tryz.underlying23 rfl (by kernel_rfl)) hS ?_
     try simp only [pX]
     refine kH 6 rfl hS ?_
     try simp only [pX]
     refine tkH 7 rfl (yieldsIf_load_blk (by rfl) 87 (.tmp 9) rfl wr.heap.size 0 rfl _ _ (nN d.kind d.a d.b d.k d.s d.p d.out d.za d.zb W nw cw B nb cb d.qm d.qs d.qz d.rm d.rs d.rz d.lo d.hi) _ (fun w hs=>hs.2.1) Tryz.underlying87 rfl (by kernel_rfl) rfl) hS ?_
     try simp only [pX]
     refine wpAnyH_ready (rs:=[8,15]) (by kernel_rfl) (by simp) ?_
     refine AllReadyH.cons rfl (fun K hK=>?_) (AllReadyH.cons rfl (fun K hK=>?_) AllReadyH.nil)
     ·go_simp
      refine (SE.out _).mono ?_
      rintro e wa ⟨rfl,hb⟩
      refine hK.out _ _ ?_ (fun hS=>?_)
      ·exact ⟨cell_later hb hS.1,Blk.later hS.2.1 hb,below_later hb hS.2.2⟩
      clear hK K
      try simp only [pX]
      refine kH 9 rfl hS ?_
      try simp only [pX]
      refine tkH 10 rfl (yieldsIf_load_mid (by rfl) 23 (.tmp 56) rfl g0 (go0+ib*3) (by rw [← hib];rfl) _ _ (fun w hs j v hv=>cell_later hs.2.2 (Q2.out j v hv)) Tryz.underlying23 rfl (by kernel_rfl)) hS ?_
      try simp only [pX]
      refine wpAnyH_ready (rs:=[11,15]) (by kernel_rfl) (by simp) ?_
      refine AllReadyH.cons rfl (fun K hK=>?_) (AllReadyH.cons rfl (fun K hK=>?_) AllReadyH.nil)
      ·go_simp
       refine (KS.out _).mono ?_
       rintro e wb ⟨rfl,hb⟩
       refine hK.out _ _ ?_ (fun hS=>?_)
       ·exact ⟨cell_later hb hS.1,Blk.later hS.2.1 hb,below_later hb hS.2.2⟩
       clear hK K
       try simp only [pX]
       refine kH 12 rfl hS ?_
       try simp only [pX]
       refine kH 13 rfl hS ?_
       try simp only [pX]
       refine kH 14 rfl hS ?_
       try simp only [pX]
       refine rH 15 rfl (fun K hK=>?_)
       go_simp
       have zlt:wr.heap.size < wb.heap.size:=hS.2.1.lt
       have hb:Below wb.heap.size wb (wb.alloc (.cells (sN 0 0 0) 23)):=(Below.refl _ _).alloc (Nat.le_refl _) _
       have BZ:=zH (Blk.now wb wb.heap.size 23 (sN 0 0 0) rfl)
       refine hK.out _ _ ?_ (fun hS=>?_)
       ·exact ⟨cell_later hb hS.1,Blk.later hS.2.1 hb,below_later hb hS.2.2⟩
       clear hK K
       try simp only [pX]
       refine rH 16 rfl (fun K hK=>?_)
       rw [if_pos (by rfl)]
       refine oper_store_blk 23 (.tmp 11) (.tmp 59) rfl wb.heap.size 0 (sN x1 x2 x3) rfl rfl _ (sN 0 0 0) (sN x1 x2 x3) BZ.out (by simp) (by kernel_rfl) (by simp [Value.oneCell']) rfl ?_
       intro wc BX gc
       have BDc:=hS.2.1.away gc (by omega)
       refine hK.out _ _ ⟨BDc.cell 1,BDc,hS.2.2.grown gc hS.2.2.size (fun k h=>by have:=Option.some.inj h;omega)⟩ (fun hS=>?_)
       clear hK K
       try simp only [pX]
       refine kH 17 rfl hS ?_
       try simp only [pX]
       refine wpAnyH_done (by kernel_rfl) ?_ _
       have FZ:=hS.2.2
       go_wp2_with fail
       go_meet
       case rel=>exact ⟨_,rfl,rfl,BX,FZ⟩
      ·go_simp
       have zlt:wr.heap.size < wa.heap.size:=hS.2.1.lt
       have hb:Below wa.heap.size wa (wa.alloc (.cells (sN 0 0 0) 23)):=(Below.refl _ _).alloc (Nat.le_refl _) _
       have BZ:=zH (Blk.now wa wa.heap.size 23 (sN 0 0 0) rfl)
       refine hK.out _ _ ?_ (fun hS=>?_)
       ·exact ⟨cell_later hb hS.1,Blk.later hS.2.1 hb,below_later hb hS.2.2⟩
       clear hK K
       try simp only [pX]
       refine rH 11 rfl (fun K hK=>?_)
       go_simp
       refine (KS.out _).mono ?_
       rintro e wb ⟨rfl,hb⟩
       replace BZ:=zH (BZ.out.later hb)
       refine hK.out _ _ ?_ (fun hS=>?_)
       ·exact ⟨cell_later hb hS.1,Blk.later hS.2.1 hb,below_later hb hS.2.2⟩
       clear hK K
       try simp only [pX]
       refine kH 12 rfl hS ?_
       try simp only [pX]
       refine kH 13 rfl hS ?_
       try simp only [pX]
       refine kH 14 rfl hS ?_
       try simp only [pX]
       refine rH 16 rfl (fun K hK=>?_)
       rw [if_pos (by rfl)]
       refine oper_store_blk 23 (.tmp 11) (.tmp 59) rfl wa.heap.size 0 (sN x1 x2 x3) rfl rfl _ (sN 0 0 0) (sN x1 x2 x3) BZ.out (by simp) (by kernel_rfl) (by simp [Value.oneCell']) rfl ?_
       intro wc BX gc
       have BDc:=hS.2.1.away gc (by omega)
       refine hK.out _ _ ⟨BDc.cell 1,BDc,hS.2.2.grown gc hS.2.2.size (fun k h=>by have:=Option.some.inj h;omega)⟩ (fun hS=>?_)
       clear hK K
       try simp only [pX]
       refine kH 17 rfl hS ?_
       try simp only [pX]
       refine wpAnyH_done (by kernel_rfl) ?_ _
       have FZ:=hS.2.2
       go_wp2_with fail
       go_meet
       case rel=>exact ⟨_,rfl,rfl,BX,FZ⟩
     ·go_simp
      have zlt:wr.heap.size < w9.heap.size:=hS.2.1.lt
      have hb:Below w9.drew.heap.size w9.drew (w9.drew.alloc (.cells (sN 0 0 0) 23)):=(Below.refl _ _).alloc (Nat.le_refl _) _
      have BZ:=zH (Blk.now w9.drew w9.heap.size 23 (sN 0 0 0) rfl)
      refine hK.out _ _ ?_ (fun hS=>?_)
      ·exact ⟨cell_later hb hS.1,Blk.later hS.2.1 hb,below_later hb hS.2.2⟩
      clear hK K
      try simp only [pX]
      refine rH 8 rfl (fun K hK=>?_)
      go_simp
      refine (SE.out _).mono ?_
      rintro e wa ⟨rfl,hb⟩
      replace BZ:=zH (BZ.out.later hb)
      refine hK.out _ _ ?_ (fun hS=>?_)
      ·exact ⟨cell_later hb hS.1,Blk.later hS.2.1 hb,below_later hb hS.2.2⟩
      clear hK K
      try simp only [pX]
      refine kH 9 rfl hS ?_
      try simp only [pX]
      refine tkH 10 rfl (yieldsIf_load_mid (by rfl) 23 (.tmp 56) rfl g0 (go0+ib*3) (by rw [← hib];rfl) _ _ (fun w hs j v hv=>cell_later hs.2.2 (Q2.out j v hv)) Tryz.underlying23 rfl (by kernel_rfl)) hS ?_
      try simp only [pX]
      refine rH 11 rfl (fun K hK=>?_)
      go_simp
      refine (KS.out _).mono ?_
      rintro e wb ⟨rfl,hb⟩
      replace BZ:=zH (BZ.out.later hb)
      refine hK.out _ _ ?_ (fun hS=>?_)
      ·exact ⟨cell_later hb hS.1,Blk.later hS.2.1 hb,below_later hb hS.2.2⟩
      clear hK K
      try simp only [pX]
      refine kH 12 rfl hS ?_
      try simp only [pX]
      refine kH 13 rfl hS ?_
      try simp only [pX]
      refine kH 14 rfl hS ?_
      try simp only [pX]
      refine rH 16 rfl (fun K hK=>?_)
      rw [if_pos (by rfl)]
      refine oper_store_blk 23 (.tmp 11) (.tmp 59) rfl w9.heap.size 0 (sN x1 x2 x3) rfl rfl _ (sN 0 0 0) (sN x1 x2 x3) BZ.out (by simp) (by kernel_rfl) (by simp [Value.oneCell']) rfl ?_
      intro wc BX gc
      have BDc:=hS.2.1.away gc (by omega)
      refine hK.out _ _ ⟨BDc.cell 1,BDc,hS.2.2.grown gc hS.2.2.size (fun k h=>by have:=Option.some.inj h;omega)⟩ (fun hS=>?_)
      clear hK K
      try simp only [pX]
      refine kH 17 rfl hS ?_
      try simp only [pX]
      refine wpAnyH_done (by kernel_rfl) ?_ _
      have FZ:=hS.2.2
      go_wp2_with fail
      go_meet
      case rel=>exact ⟨_,rfl,rfl,BX,FZ⟩
    case rest =>
     obtain ⟨wb,rfl,rfl,BX,hbx⟩:=hcut
     have G9:=zH hbx
     have BXX:=zH BX
     have OC:=zH (ON.out.below G9.out (Nat.le_refl _) (fun _ h=>h.elim))
     clear BX hbx BD G8 SE KS
     by_cases hxe:xe=0
     ·subst hxe
      have gx:=zH (NG.out rfl)
      rw [if_neg (by decide)] at NX
      clear NG
      go_wp2_with (first
       | (refine lB 23 (.tmp 11) wb BXX.out Tryz.underlying23 ?_)
       | (refine wpList_lit1 rfl (.tmp 66) rfl ei_shape (sN x1 x2 x3) rfl rfl (by decide) ?_)
       | (at_builtin;refine wpList_push (W:=wc) (cs:=(sN x1 x2 x3)) (E:=23) (t:=tShape) (S:=fun _=>False) (base:=w.heap.size) rfl (.tmp 65) (.tmp 67) rfl ei_shape rfl OC.out 1 rfl (x1,x2,x3) gx.out.rep (by unfold maxLen;omega) (by omega) (Nat.le_trans zr G9.out.size) (fun _ h=>h.elim) ?_;intro v' wz ownz gz atz))
      have bz:=(below_later G9.out HB.out).grown gz (Nat.le_trans zr G9.out.size) (fun j hj=>(OC.out.lt j hj).1)
      exact ⟨⟨k+1,out ++ [(x1,x2,x3)],by omega,by go_num,NX.out,ownz,bz⟩,by simp [intOf];omega⟩
     ·have t5:(xe != 0)=true:=by simpa using hxe
      rw [if_pos hxe] at NX
      have R:=zH (show r=([],(k:Int),xe) by rw [V2.out,runS_bad NX.out n (by omega)];rfl)
      clear hxe NG NX V2
      go_wp2_with fail
      go_ret3
      rw [R.out]
      exact RetShapes.none (below_later G9.out HB.out)
  ·obtain rfl:k=n:=by omega
   have R:=zH (show r=(out,(k:Int),0) by rw [V2.out,HR.out];rfl)
   clear hlt hk V2
   go_wp2_with fail
   go_ret3
   rw [R.out]
   exact ⟨A1,_,c1,rfl,SL.out,HB.out⟩
end Go.Proofs.YtppcjcigekoipaaGreat
