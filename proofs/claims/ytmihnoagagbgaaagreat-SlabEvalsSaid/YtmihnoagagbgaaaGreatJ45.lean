/-
  The shapes of all values (layer 27): the document's Shapes.
  Who takes each value last (layer 27), in numbers.
  Who takes each value last (layer 27): graph.Last, the document's Last; the law's Few and known.
-/
import Derived.Test.YtmihnoagagbgaaaGreatJ37
set_option linter.unusedVariables false
set_option linter.unusedSimpArgs false
set_option maxRecDepth 100000
set_option maxHeartbeats 16000000
namespace Go.Proofs.YtmihnoagagbgaaaGreat
open Go.RowKit Go.ChangeShapes Go.WideShapes Tryz
set_option maxRecDepth 100000
set_option maxHeartbeats 16000000
theorem ov (A:QA) (n cap:Nat) (l:List af) (h v c:Int) (w:World) (hs:Sl ee w (blo w) A n cap l) (i0:InK .i64 h) (i1:InK .i64 v) (i2:InK .i64 c) (hf:∀ d ∈ l,d.w.length≤1000∧d.bias.length≤100) :
  Calls prog 16 #[.slice A n cap,.agg (sN h v c)] w (bP (bh l (h,v,c)) w):=by
 have hn:=hs.n_eq
 obtain ⟨r,hr⟩:∃ r,bh l (h,v,c)=r:=⟨_,rfl⟩
 rw [hr]
 unfold bh at hr
 simp only [hn] at hr
 have RI:=zH (fun w=>aQ h c v w i0 i1 i2)
 have m0:=(aC h v c).1
 have GS:=zH (dx.of (h:=h) (v:=v) (c:=c))
 obtain ⟨m,hm⟩:∃ m,ab h v c=m:=⟨_,rfl⟩
 rw [hm] at hr RI m0 GS
 have VV:=zH hr.symm
 have H:=zH hs
 have HF:=zH hf
 have hmax:n≤9223372036854775807:=lT hs.cap_le hs.max_le
 clear hr hm hs hf i0 i1 i2 hn
 have FR:=zW w
 obtain ⟨w1,yw1,BA,FR⟩:=nF FR (sN h v c) 24
 have l1:=zL yw1
 by_cases c1:m=0
 ·have t1:(m == 0)=true:=by simp [c1]
  have R:=zH (show r=([],-1,5) by rw [VV.o,if_pos c1])
  clear c1 VV
  go_in
  go_wp2_with (refine lGJ19 BA.o ?_)
  clear yw1
  refine qM (RI.o _) fun w2 hb=>?_
  obtain ⟨FR,BA⟩:=uz2 hb FR BA
  clear hb
  go_wp2
  go_ret3
  rw [R.o]
  exact bP.none FR.u
 have t1:(m == 0)=false:=by simpa using c1
 have good:=zH (GS.o c1)
 by_cases c2:n=0
 ·have t2:((n:Int) == 0)=true:=by simp;omega
  have R:=zH (show r=([],-1,12) by rw [VV.o,if_neg c1,if_pos c2])
  clear c1 c2 VV
  go_in
  go_wp2_with (refine lGJ19 BA.o ?_)
  clear yw1
  refine qM (RI.o _) fun w2 hb=>?_
  obtain ⟨FR,BA⟩:=uz2 hb FR BA
  clear hb
  go_wp2
  go_ret3
  rw [R.o]
  exact bP.none FR.u
 have t2:((n:Int) == 0)=false:=by simp;omega
 by_cases c3:8 < n
 ·have t3:decide (8 < (n:Int))=true:=by simp;omega
  have R:=zH (show r=([],-1,4) by rw [VV.o,if_neg c1,if_neg c2,if_pos c3])
  clear c1 c2 c3 VV
  go_in
  go_wp2_with (refine lGJ19 BA.o ?_)
  clear yw1
  refine qM (RI.o _) fun w2 hb=>?_
  obtain ⟨FR,BA⟩:=uz2 hb FR BA
  clear hb
  go_wp2
  go_ret3
  rw [R.o]
  exact bP.none FR.u
 have t3:decide (8 < (n:Int))=false:=by simp;omega
 have hn8:n≤8:=oM
 have V2:=zH (show r=lS n (cf l (h,v,c) n) by rw [VV.o,if_neg c1,if_neg c2,if_neg c3])
 clear c1 c2 c3 VV GS
 go_in
 go_wp2_with (refine lGJ19 BA.o ?_)
 clear yw1
 refine qM (RI.o _) fun w2 hb=>?_
 obtain ⟨FR,BA⟩:=uz2 hb FR BA
 clear hb
 clear RI
 go_wp2_with (first
  | (refine lGJ19 BA.o ?_)
  | (refine di rfl (.tmp 22) rfl eV (sN h v c) rfl rfl dM ?_))
 have z2:=FR.o.size
 go_loopw [7,8] (fun u i wr=>∃ (k:Nat) (out:List Sh3),k≤n∧i=.int .i64 k∧cf l (h,v,c) k=.on out∧Own dC wr (fun _=>False) w.heap.size 24 u (k+1) out∧Below w w wr) (fun _ i _=>n - (intOf i).toNat)
 case atStart=>exact ⟨0,[(h,v,c)],zl _,rfl,rfl,Own.one z2 good.out.rep,FR.u.alloc z2 _⟩
 case round =>
  clear FR BA z2 t1 t2 t3
  obtain ⟨k,out,hk,rfl,hrun,hown,hb⟩:=hrel
  have HB:=zH hb
  have ON:=zH hown
  have HR:=zH hrun
  obtain ⟨A1,c1,rfl,sl⟩:=hown.sl (S':=bin w wr) dM (fun b h1 h2=>⟨h1,h2⟩) (fun _ h=>h.elim)
  have SL:=zH sl
  clear hb hown hrun sl
  by_cases hlt:k < n
  ·have p1:(k:Int) < (n:Int):=oM
   obtain ⟨d,b0,off,W,nw,cw,B,nb,cb,hd,rfl,_,_,hin,hw8,hw32,hrg⟩:=(H.o.below HB.o (fun _ h=>h)).node_at k hlt
   have hsz:=HF.o d (mG hd)
   have hnx:=kw HR.o hd
   have q8:=hw8.n_eq
   have q32:=hw32.n_eq
   have RG:=zH hrg
   have HIN:=zH hin
   have HW:=zH (hw8.more (dJ HB.o.size))
   have HW32:=zH (hw32.more (dJ HB.o.size))
   have NX:=zH hnx
   have HSZ:=zH hsz
   have Q8:=zH q8
   have Q32:=zH q32
   have CK:=zH (fun (w':World) (hb':Below wr wr w')=>jB d W nw cw B nb cb w' (HW.o.later hb' (lR _)) (HW32.o.later hb' (lR _)) oM oM)
   have TH:=zH (fun w=>pY d W nw cw B nb cb ((k+1:Nat):Int) w)
   have SE:=zH (fun w=>jI d W nw cw B nb cb w)
   have KD:=zH (jl (d:=d))
   have TB:=zH (gV (d:=d) (n:=((k+1:Nat):Int)))
   have hol:=SL.o.n_eq
   have NV:=zH (show bs d out=_ from rfl)
   have NV':=NV.o
   have NG:=zH (jw (d:=d) (l:=out))
   obtain ⟨nx,hnxx⟩:∃ x,bs d out=x:=⟨_,rfl⟩
   have NE:=zH hnxx
   unfold bs at hnxx
   rw [hol] at hnxx
   obtain ⟨ck,hck⟩:∃ x,bu d=x:=⟨_,rfl⟩
   obtain ⟨th,hth⟩:∃ x,bm d ((k+1:Nat):Int)=x:=⟨_,rfl⟩
   rw [hck] at CK KD hnxx
   rw [hth] at TH TB hnxx
   have VV:=zH hnxx.symm
   clear hd hin hw8 hw32 hrg hnx hnxx hck hth hsz q8 q32 NV NV' hol
   have zr:=HB.o.size
   have front:True:=trivial
   clear front
   by_cases e1:ck=0
   rotate_left
   ·have t4:(ck != 0)=true:=by simpa using e1
    have RX:=zH (show nx=noS ck by rw [VV.o,if_pos e1])
    have R:=zH (show r=([],(k:Int),ck) by
     have:=NX.o
     rw [NE.o,RX.o,if_pos (by exact e1)] at this
     rw [V2.o,gS this n oM];rfl)
    clear e1 VV V2 NX NE NG RX
    go_wp2_with (first
     | (refine wpList_load_mid rfl 42 (.tmp 32) rfl b0 (off+k*19) rfl _ _ RG.o underlying42 rfl kM ?_)
     | (refine sGJ19 (nD d W nw cw B nb cb) (Blk.now _ _ _ _ rfl) ?_;intro w7 B7 g7;have G7:=zH (show Below wr wr w7 from ((qB _ _).alloc (lR _) _).grown g7 sM (fun k h=>by have:=sI h;omega));have BD:=zH B7;clear B7 g7)
     | (refine lGJ19 BD.o ?_))
    refine qM (CK.o _ G7.o) fun w8 hb=>?_
    have G8:=zH (ag hb G7.o)
    clear hb
    go_wp2
    go_ret3
    rw [R.o]
    exact bP.none (ag G8.o HB.o)
   subst e1
   have t4:((0:Int) != 0)=false:=rfl
   cases th with
   | false =>
    have RX:=zH (show nx=noS 8 by rw [VV.o,if_neg dM,if_pos rfl])
    have R:=zH (show r=([],(k:Int),8) by
     have:=NX.o
     rw [NE.o,RX.o,if_pos dM] at this
     rw [V2.o,gS this n oM];rfl)
    clear VV V2 NX NE NG RX
    go_wp2_with (first
     | (refine wpList_load_mid rfl 42 (.tmp 32) rfl b0 (off+k*19) rfl _ _ RG.o underlying42 rfl kM ?_)
     | (refine sGJ19 (nD d W nw cw B nb cb) (Blk.now _ _ _ _ rfl) ?_;intro w7 B7 g7;have G7:=zH (show Below wr wr w7 from ((qB _ _).alloc (lR _) _).grown g7 sM (fun k h=>by have:=sI h;omega));have BD:=zH B7;clear B7 g7)
     | (refine lGJ19 BD.o ?_))
    refine qM (CK.o _ G7.o) fun w8 hb=>?_
    have G8:=zH (ag hb G7.o)
    replace BD:=zF hb BD
    clear hb
    go_wp2_with (refine lGJ19 BD.o ?_)
    refine qM (TH.o _) fun w9 hb=>?_
    replace G8:=zH (ag hb G8.o)
    clear hb
    go_wp2
    go_ret3
    rw [R.o]
    exact bP.none (ag G8.o HB.o)
   | true =>
    obtain ⟨u1,u2,u3,u4⟩:=TB.o rfl
    have hk9:=KD.o rfl
    obtain ⟨ia,hia⟩:∃ ia,d.a.toNat=ia:=⟨_,rfl⟩
    obtain ⟨ib,hib⟩:∃ ib,(aU d).toNat=ib:=⟨_,rfl⟩
    obtain ⟨g0,go0,rfl,_,_,k1,k2,k3,_,q1⟩:=SL.o.shape_at ia oM
    obtain ⟨g0',go0',e0,_,_,k4,k5,k6,_,q2⟩:=SL.o.shape_at ib oM
    obtain ⟨rfl,rfl⟩:g0=g0'∧go0=go0':=by simpa using e0
    have V3:=zH (show nx=aD (out.getD ia (0,0,0)).1 (out.getD ia (0,0,0)).2.1 (out.getD ia (0,0,0)).2.2 (out.getD ib (0,0,0)).1 (out.getD ib (0,0,0)).2.1 (out.getD ib (0,0,0)).2.2 d by rw [VV.o,if_neg dM,if_neg dM,hia,hib])
    obtain ⟨⟨x,y,z⟩,hx⟩:∃ s,out.getD ia (0,0,0)=s:=⟨_,rfl⟩
    obtain ⟨⟨x',y',z'⟩,hx'⟩:∃ s,out.getD ib (0,0,0)=s:=⟨_,rfl⟩
    rw [hx] at q1 k1 k2 k3 V3
    rw [hx'] at q2 k4 k5 k6 V3
    simp only at q1 q2 k1 k2 k3 k4 k5 k6 V3
    have Q1:=zH q1
    have Q2:=zH q2
    obtain ⟨sc,hsc⟩:∃ s,aU d=s:=⟨_,rfl⟩
    rw [hsc] at u3 u4 SE hib
    have KS:=zH (fun w=>ol x y z x' y' z' d W nw cw B nb cb w k1 k2 k3 HIN.o.out HIN.o.p Q8.o.symm Q32.o.symm (by have:=HSZ.o;have:=Q8.o;omega) (by have:=HSZ.o;have:=Q32.o;omega) hk9)
    obtain ⟨⟨⟨x1,x2,x3⟩,xe⟩,hxx⟩:∃ s,aD x y z x' y' z' d=s:=⟨_,rfl⟩
    rw [hxx] at KS V3
    simp only [aL] at KS
    have NX2:=NX.o
    rw [NE.o] at NG NX2
    rw [V3.o] at NG NX2
    simp only at NX2
    replace NX:=zH NX2
    clear NX2 NE V3 VV hx hx' hxx hsc k1 k2 k3 k4 k5 k6 q1 q2 e0 hk9 KD TB HIN
    have y2:d.a < (k:Int)+1:=oM
    have y4:sc < (k:Int)+1:=oM
    clear u2 u4
    go_wp2_with (first
     | (refine wpList_load_mid rfl 42 (.tmp 32) rfl b0 (off+k*19) rfl _ _ RG.o underlying42 rfl kM ?_)
     | (refine sGJ19 (nD d W nw cw B nb cb) (Blk.now _ _ _ _ rfl) ?_;intro w7 B7 g7;have G7:=zH (show Below wr wr w7 from ((qB _ _).alloc (lR _) _).grown g7 sM (fun k h=>by have:=sI h;omega));have BD:=zH B7;clear B7 g7)
     | (refine lGJ19 BD.o ?_))
    refine qM (CK.o _ G7.o) fun w8 hb=>?_
    have G8:=zH (ag hb G7.o)
    replace BD:=zF hb BD
    clear hb
    go_wp2_with (refine lGJ19 BD.o ?_)
    refine qM (TH.o _) fun w9 hb=>?_
    replace G8:=zH (ag hb G8.o)
    replace BD:=zF hb BD
    clear hb CK TH
    have zg:=G8.o.size
    go_upto_region 17 with (fail)
    go_cut [11,12] (fun b c wx=>∃ g,b=.pointer (some ⟨g,0,none⟩)∧c=.int .i64 xe∧Blk wx g 24 (sN x1 x2 x3)∧Below wr wr wx)
    case first =>
     refine wp_region_held_drew (S:=fun w'=>w'.cell? ⟨wr.heap.size,1,none⟩=some (.int .i64 d.a)∧Blk w' wr.heap.size 42 (nD d W nw cw B nb cb)∧Below wr wr w') kM ?_ (fun hS=>?_)
     ·exact ⟨BD.o.drew.cell 1,BD.o.drew,G8.o.drew⟩
     refine tkH 0 rfl (yP (nD d W nw cw B nb cb) (fun w hs=>hs.2.1)) hS ?_
     try simp only [pX]
     refine kH' 1 hS ?_
     refine kH' 2 hS ?_
     refine kH' 3 hS ?_
     refine kH' 4 hS ?_
     refine tkH 5 rfl (yieldsIf_load_mid (by rfl) 24 (.tmp 51) rfl g0 (go0+ia*3) (by rw [← hia];rfl) _ _ (fun w hs j v hv=>ao hs.2.2 (Q1.o j v hv)) underlying24 rfl kM) hS ?_
     try simp only [pX]
     refine kH' 6 hS ?_
     refine tkH 7 rfl (yP (nD d W nw cw B nb cb) (fun w hs=>hs.2.1)) hS ?_
     try simp only [pX]
     refine wpAnyH_ready (rs:=[8,15]) kM sM ?_
     refine AllReadyH.cons rfl (fun K hK=>?_) (AllReadyH.cons rfl (fun K hK=>?_) AllReadyH.nil)
     ·go_simp
      refine qM (SE.o _) fun wa hb=>?_
      refine xK hK (zR hb hS) fun hS=>?_
      clear hK K
      refine kH' 9 hS ?_
      refine tkH 10 rfl (yieldsIf_load_mid (by rfl) 24 (.tmp 56) rfl g0 (go0+ib*3) (by rw [← hib];rfl) _ _ (fun w hs j v hv=>ao hs.2.2 (Q2.o j v hv)) underlying24 rfl kM) hS ?_
      try simp only [pX]
      refine wpAnyH_ready (rs:=[11,15]) kM sM ?_
      refine AllReadyH.cons rfl (fun K hK=>?_) (AllReadyH.cons rfl (fun K hK=>?_) AllReadyH.nil)
      ·go_simp
       refine qM (KS.o _) fun wb hb=>?_
       refine xK hK (zR hb hS) fun hS=>?_
       clear hK K
       refine kH' 12 hS ?_
       refine kH' 13 hS ?_
       refine kH' 14 hS ?_
       refine rH 15 rfl (fun K hK=>?_)
       go_simp
       have zlt:wr.heap.size < wb.heap.size:=hS.2.1.lt
       obtain ⟨hb,BZ⟩:=zB wb (sN 0 0 0) 24
       refine xK hK (zR hb hS) fun hS=>?_
       clear hK K
       refine rH 16 rfl (fun K hK=>?_)
       rw [if_pos (by rfl)]
       refine oG (sN x1 x2 x3) BZ.o ?_
       intro wc BX gc
       have BDc:=hS.2.1.away gc oM
       refine hK.out _ _ ⟨BDc.cell 1,BDc,hS.2.2.grown gc hS.2.2.size (fun k h=>by have:=sI h;omega)⟩ (fun hS=>?_)
       clear hK K
       try simp only [pX]
       refine kH' 17 hS ?_
       refine wpAnyH_done kM ?_ _
       have FZ:=hS.2.2
       go_wp2_with fail
       go_meet
       case rel=>exact ⟨_,rfl,rfl,BX,FZ⟩
      ·go_simp
       have zlt:wr.heap.size < wa.heap.size:=hS.2.1.lt
       obtain ⟨hb,BZ⟩:=zB wa (sN 0 0 0) 24
       refine xK hK (zR hb hS) fun hS=>?_
       clear hK K
       refine rH 11 rfl (fun K hK=>?_)
       go_simp
       refine qM (KS.o _) fun wb hb=>?_
       replace BZ:=zH (BZ.o.later hb)
       refine xK hK (zR hb hS) fun hS=>?_
       clear hK K
       refine kH' 12 hS ?_
       refine kH' 13 hS ?_
       refine kH' 14 hS ?_
       refine rH 16 rfl (fun K hK=>?_)
       rw [if_pos (by rfl)]
       refine oG (sN x1 x2 x3) BZ.o ?_
       intro wc BX gc
       have BDc:=hS.2.1.away gc oM
       refine hK.out _ _ ⟨BDc.cell 1,BDc,hS.2.2.grown gc hS.2.2.size (fun k h=>by have:=sI h;omega)⟩ (fun hS=>?_)
       clear hK K
       try simp only [pX]
       refine kH' 17 hS ?_
       refine wpAnyH_done kM ?_ _
       have FZ:=hS.2.2
       go_wp2_with fail
       go_meet
       case rel=>exact ⟨_,rfl,rfl,BX,FZ⟩
     ·go_simp
      have zlt:wr.heap.size < w9.heap.size:=hS.2.1.lt
      have hb:Below w9.drew.heap.size w9.drew (w9.drew.alloc (.cells (sN 0 0 0) 24)):=(qB _ _).alloc (lR _) _
      have BZ:=zH (Blk.now w9.drew w9.heap.size 24 (sN 0 0 0) rfl)
      refine xK hK (zR hb hS) fun hS=>?_
      clear hK K
      refine rH 8 rfl (fun K hK=>?_)
      go_simp
      refine qM (SE.o _) fun wa hb=>?_
      replace BZ:=zH (BZ.o.later hb)
      refine xK hK (zR hb hS) fun hS=>?_
      clear hK K
      refine kH' 9 hS ?_
      refine tkH 10 rfl (yieldsIf_load_mid (by rfl) 24 (.tmp 56) rfl g0 (go0+ib*3) (by rw [← hib];rfl) _ _ (fun w hs j v hv=>ao hs.2.2 (Q2.o j v hv)) underlying24 rfl kM) hS ?_
      try simp only [pX]
      refine rH 11 rfl (fun K hK=>?_)
      go_simp
      refine qM (KS.o _) fun wb hb=>?_
      replace BZ:=zH (BZ.o.later hb)
      refine xK hK (zR hb hS) fun hS=>?_
      clear hK K
      refine kH' 12 hS ?_
      refine kH' 13 hS ?_
      refine kH' 14 hS ?_
      refine rH 16 rfl (fun K hK=>?_)
      rw [if_pos (by rfl)]
      refine oG (sN x1 x2 x3) BZ.o ?_
      intro wc BX gc
      have BDc:=hS.2.1.away gc oM
      refine hK.out _ _ ⟨BDc.cell 1,BDc,hS.2.2.grown gc hS.2.2.size (fun k h=>by have:=sI h;omega)⟩ (fun hS=>?_)
      clear hK K
      try simp only [pX]
      refine kH' 17 hS ?_
      refine wpAnyH_done kM ?_ _
      have FZ:=hS.2.2
      go_wp2_with fail
      go_meet
      case rel=>exact ⟨_,rfl,rfl,BX,FZ⟩
    case rest =>
     obtain ⟨wb,rfl,rfl,BX,hbx⟩:=hcut
     have G9:=zH hbx
     have BXX:=zH BX
     have OC:=zH (ON.o.below G9.o (lR _) (fun _ h=>h.elim))
     clear BX hbx BD G8 SE KS
     by_cases hxe:xe=0
     ·subst hxe
      have gx:=zH (NG.o rfl)
      rw [if_neg dM] at NX
      clear NG
      go_wp2_with (first
       | (refine lGJ19 BXX.o ?_)
       | (refine di rfl (.tmp 66) rfl eV (sN x1 x2 x3) rfl rfl dM ?_)
       | (at_builtin;refine wpList_push (W:=wc) (cs:=(sN x1 x2 x3)) (E:=24) (t:=dC) (S:=fun _=>False) (base:=w.heap.size) rfl (.tmp 65) (.tmp 67) rfl eV rfl OC.o 1 rfl (x1,x2,x3) gx.out.rep (by unfold maxLen;omega) oM (lT zr G9.o.size) (fun _ h=>h.elim) ?_;intro v' wz ownz gz atz))
      have bz:=(ag G9.o HB.o).grown gz (lT zr G9.o.size) (fun j hj=>(OC.o.lt j hj).1)
      exact ⟨⟨k+1,out ++ [(x1,x2,x3)],by omega,by go_num,NX.o,ownz,bz⟩,by simp [intOf];omega⟩
     ·have t5:(xe != 0)=true:=by simpa using hxe
      rw [if_pos hxe] at NX
      have R:=zH (show r=([],(k:Int),xe) by rw [V2.o,gS NX.o n oM];rfl)
      clear hxe NG NX V2
      go_wp2
      go_ret3
      rw [R.o]
      exact bP.none (ag G9.o HB.o)
  ·obtain rfl:k=n:=oM
   have R:=zH (show r=(out,(k:Int),0) by rw [V2.o,HR.o];rfl)
   clear hlt hk V2
   go_wp2
   go_ret3
   rw [R.o]
   exact ⟨A1,_,c1,rfl,SL.o,HB.o⟩
def d9 (d:af) (k:Nat) (v:Int):Bool:=bm d ((k:Int)+1) && (decide (d.a=v) || decide (aU d=v))
def eJ (l:List af) (v:Int):Nat → Int
 | 0=>0
 | k+1=>if d9 (l.getD k bi) k v then (k:Int)+1 else eJ l v k
def ju (l:List af) (v:Int):Int:=if v=l.length then (l.length:Int)+1 else eJ l v l.length
def cl (l:List af) (n k:Nat):List Int:=(List.range (n+1)).map fun (v:Nat)=>eJ l (v:Int) k
theorem cZ (l:List af) (n k:Nat):(cl l n k).length=n+1:=by simp [cl]
theorem fj (l:List af) (n k v:Nat) (h:v≤n):(cl l n k)[v]?=some (eJ l (v:Int) k):=by
 unfold cl
 rw [List.getElem?_map,List.getElem?_range oM]
 rfl
theorem mc {l:List af} {n k:Nat} {d:af} (hd:l[k]?=some d) (h:bm d ((k:Int)+1)=false):cl l n (k+1)=cl l n k:=by
 have e:l.getD k bi=d:=by rw [gD,hd];rfl
 unfold cl
 apply List.map_congr_left
 intro v _
 show (if d9 (l.getD k bi) k v then _ else _)=_
 rw [e]
 unfold d9
 rw [h]
 rfl
theorem nH {l:List af} {n k:Nat} {d:af} (hd:l[k]?=some d) (h:bm d ((k:Int)+1)=true) (hk:k < n) :
  cl l n (k+1)=((cl l n k).set d.a.toNat ((k:Int)+1)).set (aU d).toNat ((k:Int)+1):=by
 have e:l.getD k bi=d:=by rw [gD,hd];rfl
 obtain ⟨b1,b2,b3,b4⟩:=gV h
 apply List.ext_getElem?
 intro v
 rw [List.getElem?_set,List.getElem?_set]
 simp only [List.length_set,cZ]
 by_cases hv:v≤n
 ·rw [fj _ _ _ _ hv,fj _ _ _ _ hv]
  have:eJ l (v:Int) (k+1)=if d9 d k v then (k:Int)+1 else eJ l (v:Int) k:=by
   show (if d9 (l.getD k bi) k v then _ else _)=_
   rw [e]
  rw [this]
  unfold d9
  rw [h]
  by_cases q1:(aU d).toNat=v
  ·rw [if_pos q1]
   have:aU d=(v:Int):=oM
   simp [this];omega
  ·rw [if_neg q1]
   have n1:¬ aU d=(v:Int):=oM
   by_cases q2:d.a.toNat=v
   ·rw [if_pos q2]
    have:d.a=(v:Int):=oM
    simp [this];omega
   ·rw [if_neg q2]
    have n2:¬ d.a=(v:Int):=oM
    simp [n1,n2]
 ·rw [List.getElem?_eq_none (by rw [cZ];omega),List.getElem?_eq_none (by rw [cZ];omega)]
  by_cases q1:(aU d).toNat=v
  ·omega
  ·rw [if_neg q1]
   by_cases q2:d.a.toNat=v
   ·omega
   ·rw [if_neg q2]
theorem sW {d:af} {m:Int} (h:bm d m=true) (j:Nat) (hj:j < (du d).length):0≤(du d).getD j 0∧(du d).getD j 0 < m:=by
 unfold bm at h
 simp only [Bool.and_eq_true,Bool.or_eq_true,decide_eq_true_eq] at h
 unfold du at *
 by_cases k6:d.kind=6
 ·rw [if_pos k6] at hj ⊢
  match j,hj with
  | 0,_=>exact h.1
  | 1,_=>exact h.2.elim (fun q=>absurd k6 q) id
 ·rw [if_neg k6] at hj ⊢
  match j,hj with
  | 0,_=>exact h.1
def iK (r:List Int) (t:List Int) (x:Int):Nat → List Int
 | 0=>r
 | j+1=>(iK r t x j).set (t.getD j 0).toNat x
theorem kN {l:List af} {n k:Nat} {d:af} (hd:l[k]?=some d) (h:bm d ((k:Int)+1)=true) (hk:k < n) :
  iK (cl l n k) (du d) ((k:Int)+1) (du d).length=cl l n (k+1):=by
 rw [nH hd h hk]
 unfold du aU
 by_cases k6:d.kind=6
 ·rw [if_pos k6,if_pos k6];rfl
 ·rw [if_neg k6,if_neg k6,List.set_set];rfl
def aV (l:List af):List Int:=(List.range (l.length+1)).map fun (v:Nat)=>ju l (v:Int)
theorem fv (l:List af):(aV l).length=l.length+1:=by simp [aV]
theorem pA (l:List af) (v:Nat) (h:v≤l.length):(aV l).getD v 0=ju l (v:Int):=by
 unfold aV
 rw [gD,List.getElem?_map,List.getElem?_range oM]
 rfl
theorem nG (l:List af):(cl l l.length l.length).set l.length ((l.length:Int)+1)=aV l:=by
 apply List.ext_getElem?
 intro v
 rw [List.getElem?_set,cZ]
 by_cases hv:v≤l.length
 ·unfold aV
  rw [List.getElem?_map,List.getElem?_range oM,fj _ _ _ _ hv]
  show _=some (ju l (v:Int))
  unfold ju
  by_cases q:l.length=v
  ·rw [if_pos q,if_pos oM,if_pos oM]
  ·rw [if_neg q,if_neg oM]
 ·rw [if_neg oM,List.getElem?_eq_none (by rw [cZ];omega),List.getElem?_eq_none (by rw [fv];omega)]
theorem me (l:List af) (n:Nat):cl l n 0=List.replicate (n+1) 0:=by
 apply List.ext_getElem?
 intro v
 by_cases hv:v≤n
 ·rw [fj _ _ _ _ hv,List.getElem?_replicate,if_pos oM];rfl
 ·rw [List.getElem?_eq_none (by rw [cZ];omega),List.getElem?_eq_none (by simp;omega)]
theorem sn (A:QA) (n cap:Nat) (l:List af) (w:World) (hs:Sl ee w (blo w) A n cap l) (h12:n≤12) :
  Calls prog 22 #[.slice A n cap] w (RetSl (aa .i64) w (aV l)):=by
 have hn:=hs.n_eq
 have LE:=zH (nG l)
 rw [hn] at LE
 obtain ⟨r,hr⟩:∃ r,aV l=r:=⟨_,rfl⟩
 rw [hr] at LE ⊢
 have HN:=zH hn
 have H:=zH hs
 clear hs hr hn
 go_in
 go_wp2_with (at_make;refine wpList_make (t:=aa .i64) (S:=fun _=>False) (base:=w.heap.size) rfl _ _ rfl jn .i64 .i64 _ _ (n+1) rfl rfl sM sM ?_ ?_ ?_ 0 ⟨rfl,by decide⟩ (fun _ h=>h.elim) ?_;rotate_right;intro w1 hown hg)
 rotate_left
 ·omega
 ·unfold maxLen;omega
 ·simp
 have HO:=zH hown
 have B1:=zH ((qB w.heap.size w).grown hg (lR _) sM)
 clear hown hg
 go_loopw [14] (fun i wr=>∃ k:Nat,k≤n∧i=.int .i64 k∧Below w w wr ∧
   Own (aa .i64) wr (fun _=>False) w.heap.size 3 (.slice (some ⟨w.heap.size,0,none⟩) (n+1) (n+1)) (n+1) (cl l n k)) (fun i _=>n - (intOf i).toNat)
 case atStart=>exact ⟨0,zl _,rfl,B1.o,by rw [me];exact HO.o⟩
 case round =>
  obtain ⟨k,hk,rfl,hb,hown⟩:=hrel
  have HB:=zH hb
  have ON:=zH hown
  clear hb hown B1 HO
  by_cases hlt:k < n
  ·have p1:(k:Int) < (n:Int):=oM
   obtain ⟨d,b0,off,W,nw,cw,B,nb,cb,hd,rfl,_,_,hin,hw8,hw32,hrg⟩:=(H.o.below HB.o (fun _ h=>h)).node_at k hlt
   have ia:=hin.a
   have ib:=hin.b
   have RG:=zH hrg
   have TI:=zH (fun h=>sW (d:=d) (m:=(k:Int)+1) h)
   have TR:=zH (fun w=>iz d W nw cw B nb cb w ia ib)
   have TH:=zH (fun w=>kG d W nw cw B nb cb ((k:Int)+1) w ia ib)
   have LS:=zH (fun h=>mc (l:=l) (n:=n) hd h)
   have LT:=zH (fun h=>kN (l:=l) (n:=n) hd h hlt)
   clear hd hin hw8 hw32 hrg ia ib
   obtain ⟨th,hth⟩:∃ x,bm d ((k:Int)+1)=x:=⟨_,rfl⟩
   rw [hth] at TI TH LS LT
   clear hth
   go_wp2_with (first
    | (refine wpList_load_mid rfl 42 (.tmp 17) rfl b0 (off+k*19) rfl _ _ RG.o underlying42 rfl kM ?_)
    | (refine sGJ19 (nD d W nw cw B nb cb) (Blk.now _ _ _ _ rfl) ?_;intro w7 B7 g7;have G7:=zH (show Below wr wr w7 from ((qB _ _).alloc (lR _) _).grown g7 sM (fun k h=>by have:=sI h;omega));have BD:=zH B7;clear B7 g7)
    | (refine lGJ19 BD.o ?_))
   refine qM (TH.o _) fun w8 hb=>?_
   have G8:=zH (ag hb (ag G7.o HB.o))
   have O8:=zH ((ON.o.below G7.o (lR _) (fun _ h=>h.elim)).below hb (lR _) (fun _ h=>h.elim))
   replace BD:=zF hb BD
   clear hb TH ON
   cases th with
   | false =>
    have E:=zH (LS.o rfl)
    clear LS LT TI TR
    go_wp2
    exact ⟨⟨k+1,by omega,by go_num,G8.o,by rw [E.o];exact O8.o⟩,by simp [intOf];omega⟩
   | true =>
    have E:=zH (LT.o rfl)
    have TJ:=zH (TI.o rfl)
    clear LS LT TI
    obtain ⟨t,ht⟩:∃ t,du d=t:=⟨_,rfl⟩
    rw [ht] at E TJ TR
    clear ht
    go_wp2_with (refine lGJ19 BD.o ?_)
    refine (TR.o _).mono ?_
    rintro e w9 ⟨A2,m,c2,rfl,hs2,hb⟩
    have hm:=hs2.n_eq
    have HM:=zH hm
    have hm2:=hs2.cap_le
    have hm3:=hs2.max_le
    have hm4:m≤9223372036854775807:=lT hm2 hm3
    have H2:=zH hs2
    have G9:=zH (ag hb G8.o)
    have O9:=zH (O8.o.below hb (lR _) (fun _ h=>h.elim))
    have z8:=G8.o.size
    have lt8:=(O8.o.lt _ rfl).2
    have z9:=hb.size
    clear hb hs2 hm TR O8 BD hm2 hm3
    rw [HM.o] at E
    go_wp2
    go_loopw [27] (fun i wx=>∃ j:Nat,j≤m∧i=.int .i64 j∧Below w w wx∧wx.heap.size=w9.heap.size∧Sl (aa .i64) wx (bin w8 w9) A2 m c2 t ∧
     Own (aa .i64) wx (fun _=>False) w.heap.size 3 (.slice (some ⟨w.heap.size,0,none⟩) (n+1) (n+1)) (n+1) (iK (cl l n k) t ((k:Int)+1) j)) (fun i _=>m - (intOf i).toNat)
    case atStart=>exact ⟨0,zl _,rfl,G9.o,rfl,H2.o,O9.o⟩
    case round =>
     obtain ⟨j,hj,rfl,hbx,hsz,hsl,hownx⟩:=hrel
     have HBX:=zH hbx
     have HSL:=zH hsl
     have HOX:=zH hownx
     have HSZ:=zH hsz
     clear hbx hsl hownx hsz
     by_cases hjm:j < m
     ·have p2:(j:Int) < (m:Int):=oM
      obtain ⟨b2,off2,rfl,_,_,cj,_⟩:=HSL.o.int_at j hjm
      have hv:=TJ.o j (by rw [HM.o];exact hjm)
      obtain ⟨v,hvn⟩:∃ v:Nat,t.getD j 0=(v:Int):=⟨(t.getD j 0).toNat,by omega⟩
      rw [hvn] at cj hv
      have hvk:v < n+1:=oM
      have p3:(v:Int) < (n:Int)+1:=oM
      obtain ⟨x0,u0,_,_,c5,c6,c7,_⟩:=HOX.o.cell rfl v hvk
      have HV:=zH hvn
      clear hvn hv
      go_wp2_with fail
      obtain ⟨o3,g3⟩:=HOX.o.set1 rfl v (.int .i64 ((k:Int)+1)) ((k:Int)+1) ⟨rfl,by rw [ah];omega⟩ (fun _ h=>h.elim)
      refine ⟨⟨j+1,by omega,by go_num,HBX.o.setCell sM _,by simp [HSZ.o],HSL.o.keep fun b hb=>?_,?_⟩,by simp [intOf];omega⟩
      ·exact Below.heap_setCell _ _ _ _ (by have:=hb.1;show b ≠ w.heap.size;omega)
      ·show Own _ _ _ _ _ _ _ ((iK (cl l n k) t ((k:Int)+1) j).set (t.getD j 0).toNat ((k:Int)+1))
       rw [HV.o]
       exact o3
     ·obtain rfl:j=m:=oM
      clear hjm hj
      go_wp2
      exact ⟨⟨k+1,by omega,by go_num,HBX.o,by rw [← E.o];exact HOX.o⟩,by simp [intOf];omega⟩
  ·obtain rfl:k=n:=oM
   obtain ⟨x0,u0,_,_,c5,c6,c7,_⟩:=ON.o.cell rfl k oM
   clear hlt hk
   go_wp2_with fail
   obtain ⟨o3,g3⟩:=ON.o.set1 rfl k (.int .i64 ((k:Int)+1)) ((k:Int)+1) ⟨rfl,by rw [ah];omega⟩ (fun _ h=>h.elim)
   go_ret
   rw [LE.o] at o3
   exact o3.ret dM (HB.o.setCell (lR _) _) (fun _ h=>h.elim)
end Go.Proofs.YtmihnoagagbgaaaGreat
