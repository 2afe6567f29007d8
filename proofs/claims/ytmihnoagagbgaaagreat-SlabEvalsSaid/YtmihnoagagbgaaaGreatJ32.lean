/-
  Numbers by a table (layer 21): act.By, act.Of.
  Numbers by a function (layer 21): act.Of, the document's Of, of a tensor that is right.
  Numbers by a function (layer 21): the document's Of, of a tensor that is right.
  Room around a tensor (layer 9): pad.may, the document's May, Pixel, of a tensor that is right.
  What a node's kind tells (layer 25): kinds.Plain, all kinds.
-/
import Derived.Test.YtmihnoagagbgaaaGreatJ30
import Derived.Test.YtmihnoagagbgaaaGreatJ31
set_option linter.unusedVariables false
set_option linter.unusedSimpArgs false
set_option maxRecDepth 100000
set_option maxHeartbeats 16000000
namespace Go.Proofs.YtmihnoagagbgaaaGreat
open Go.RowKit Go.ChangeShapes Go.WideShapes Fx Tryz
set_option maxRecDepth 100000
set_option maxHeartbeats 16000000
theorem qu (t:ae) (A:QA) (n cap:Nat) (F:Nat → Int) (w:World) (ht:ak t) (ha:xA w A n cap t.data) (c1:t.ok=true) (hF:∀ i,InK .i8 (F i)) :
  Calls prog 89 #[.agg (tN t.h t.v t.c A n cap),.agg (bj F 256)] w (ar .i8 ⟨t.h,t.v,t.c,(List.range n).map fun i=>F (t.data.getD i 0+128).toNat⟩ 0 w):=by
 have HA:=zH ha
 have HF:=zH hF
 have HT:=zH ht
 obtain ⟨H,V,C,TK⟩:=cY c1
 have hn2:n≤1024:=by have:=TK.n_le;rw [ha.n_eq] at this;exact this
 have c1':decide (0 < ab t.h t.v t.c∧ab t.h t.v t.c=n)=true:=by rw [← HA.o.n_eq];simpa [ae.ok] using c1
 have RI:=zH (fun w=>av t.h t.v t.c A n cap w ht.h ht.v ht.c (lT ha.cap_le ha.max_le))
 rw [c1'] at RI
 have mx:n≤9223372036854775807:=oM
 have FR:=zW w
 obtain ⟨w1,yw1,BA,FR⟩:=nF FR (tN t.h t.v t.c A n cap) 27
 obtain ⟨w2,yw2⟩:∃ x,w1.alloc (.cells (bj F 256) 129)=x:=⟨_,rfl⟩
 have k2:Below w1 w1 w2:=by rw [← yw2];exact (qB _ _).alloc (lR _) _
 have BT:=zH (show Blk w2 w1.heap.size 129 (bj F 256) by rw [← yw2];exact Blk.now _ _ _ _ rfl)
 obtain ⟨FR,BA⟩:=uz2 k2 FR BA
 obtain ⟨w3,yw3,BR,yk3⟩:=nB w2 (tN 0 0 0 none 0 0) 27
 obtain ⟨FR,BA,BT⟩:=uz3 yk3 FR BA BT
 clear yk3
 have l1:=zL yw1
 have l2:=zL yw2
 have l3:=zL yw3
 clear ht ha c1 c1' TK hF k2
 go_in
 go_wp2_with (first|(refine lGJ19 BA.o ?_)|(go_at_call 11;refine qM (RI.o _) fun w4 hb=>?_;have l4:=hb.size;obtain ⟨FR,BA,BT,BR⟩:=uz4 hb FR BA BT BR;clear hb yw1 yw2 yw3))
 go_cut [6] (fun b wx=>∃ g q,b=.pointer (some ⟨g,0,none⟩)∧Blk wx g 27 (tN t.h t.v t.c (some ⟨q,0,none⟩) (n) (n))∧Own (aa .i8) wx (fun _=>False) w4.heap.size 37 (.slice (some ⟨q,0,none⟩) (n) (n)) (n) (List.replicate (n) 0)∧q ≠ g∧w4.heap.size≤g∧Below w4 w4 wx)
 case first =>
  refine wp_region_held_drew (S:=fun w'=>w'.cell? ⟨w.heap.size,3,none⟩=some (.slice A n cap)∧Blk w' (w.heap.size) 27 (tN t.h t.v t.c A n cap)∧Below w4 w4 w') kM ?_ (fun hS=>?_)
  ·exact ⟨BA.o.drew.cell 3,BA.o.drew,(qB _ _).drew⟩
  refine kH' 0 hS ?_
  refine tkH 1 rfl (yP (sN t.h t.v t.c) (fun w hs=>hs.2.1)) hS ?_
  try simp only [pX]
  refine kH' 2 hS ?_
  refine kH' 3 hS ?_
  refine kH' 4 hS ?_
  refine wpAnyH_ready (rs:=[5,7]) kM sM ?_
  refine AllReadyH.cons rfl (fun K hK=>?_) (AllReadyH.cons rfl (fun K hK=>?_) AllReadyH.nil)
  ·rw [if_pos (by rfl)]
   have zq:w4.heap.size≤w4.drew.heap.size:=hS.2.2.size
   refine cE (k:=.i8) (base:=w4.heap.size) (n:=n) (.tmp 17) (.tmp 17) rfl dy .i64 .i64 rfl rfl oM (by unfold maxLen;omega) zq dM ?_
   intro wm own gm
   have OW:=zH (show Own (aa .i8) wm (fun _=>False) w4.heap.size 37 (.slice (some ⟨w4.heap.size,0,none⟩) (n) (n)) (n) (List.replicate (n) 0) by first|exact own|simpa [World.size_alloc] using own)
   refine hK.out _ _ ⟨bF gm hS.1 sM,Blk.grown0 hS.2.1 gm,hS.2.2.grown gm zq sM⟩ (fun hS=>?_)
   clear hK K own gm
   try simp only [pX]
   refine kH' 6 hS ?_
   refine rH 7 rfl (fun K hK=>?_)
   go_simp
   have zg:w4.heap.size≤wm.heap.size:=hS.2.2.size
   obtain ⟨hb,BZ⟩:=zB wm (tN 0 0 0 none 0 0) 27
   have ltq:w4.heap.size < wm.heap.size:=(OW.o.lt _ rfl).2
   replace OW:=zH (OW.o.below hb (lR _) (fun _ h=>h.elim))
   refine xK hK (zR hb hS) fun hS=>?_
   clear hK K
   refine rH 8 rfl (fun K hK=>?_)
   rw [if_pos (by rfl)]
   refine oG (tN t.h t.v t.c (some ⟨w4.heap.size,0,none⟩) (n) (n)) BZ.o ?_
   intro wc BX gc
   have hne:w4.heap.size ≠ wm.heap.size:=by have:=ltq;simp only [World.size_drew] at *;omega
   replace OW:=zH (OW.o.flat gc (.inr (by first|(simp [Value.ownBlock];done)|(simp [Value.ownBlock];exact hne))) (fun _ h=>h))
   refine hK.out _ _ ⟨bF gc hS.1 (by intro e;have:=sI e;have:=(show w.heap.size < w4.heap.size by omega);have:=zg;simp only [World.size_drew] at *;omega),hS.2.1.away gc (by have:=(show w.heap.size < w4.heap.size by omega);have:=zg;simp only [World.size_drew] at *;omega),hS.2.2.grown gc hS.2.2.size (fun k h=>by have:=sI h;have:=zg;simp only [World.size_drew] at *;omega)⟩ (fun hS=>?_)
   clear hK K
   try simp only [pX]
   refine wpAnyH_done kM ?_ _
   have FZ:=hS.2.2
   go_wp2_with fail
   go_meet
   case rel=>exact ⟨_,_,rfl,BX,OW.o,hne,zg,FZ⟩
  ·go_simp
   have zg:w4.heap.size≤w4.heap.size:=hS.2.2.size
   have hb:Below w4.drew.heap.size w4.drew (w4.drew.alloc (.cells (tN 0 0 0 none 0 0) 27)):=(qB _ _).alloc (lR _) _
   have BZ:=zH (Blk.now w4.drew w4.heap.size 27 (tN 0 0 0 none 0 0) rfl)
   refine xK hK (zR hb hS) fun hS=>?_
   clear hK K
   refine rH 5 rfl (fun K hK=>?_)
   rw [if_pos (by rfl)]
   have zq:w4.heap.size≤(w4.drew.alloc (.cells (tN 0 0 0 none 0 0) 27)).heap.size:=hS.2.2.size
   refine cE (k:=.i8) (base:=w4.heap.size) (n:=n) (.tmp 17) (.tmp 17) rfl dy .i64 .i64 rfl rfl oM (by unfold maxLen;omega) zq dM ?_
   intro wm own gm
   have OW:=zH (show Own (aa .i8) wm (fun _=>False) w4.heap.size 37 (.slice (some ⟨(w4.heap.size+1),0,none⟩) (n) (n)) (n) (List.replicate (n) 0) by first|exact own|simpa [World.size_alloc] using own)
   replace BZ:=zH (BZ.o.grown0 gm)
   refine hK.out _ _ ⟨bF gm hS.1 sM,Blk.grown0 hS.2.1 gm,hS.2.2.grown gm zq sM⟩ (fun hS=>?_)
   clear hK K own gm
   try simp only [pX]
   refine kH' 6 hS ?_
   refine rH 8 rfl (fun K hK=>?_)
   rw [if_pos (by rfl)]
   refine oG #[.int .i64 t.h,.int .i64 t.v,.int .i64 t.c,.slice (some ⟨(w4.heap.size+1),0,none⟩) (n) (n)] BZ.o ?_
   intro wc BX gc
   have hne:(w4.heap.size+1) ≠ w4.heap.size:=oM
   replace OW:=zH (OW.o.flat gc (.inr (by first|(simp [Value.ownBlock];done)|(simp [Value.ownBlock];exact hne))) (fun _ h=>h))
   refine hK.out _ _ ⟨bF gc hS.1 (by intro e;have:=sI e;have:=(show w.heap.size < w4.heap.size by omega);have:=zg;simp only [World.size_drew] at *;omega),hS.2.1.away gc (by have:=(show w.heap.size < w4.heap.size by omega);have:=zg;simp only [World.size_drew] at *;omega),hS.2.2.grown gc hS.2.2.size (fun k h=>by have:=sI h;have:=zg;simp only [World.size_drew] at *;omega)⟩ (fun hS=>?_)
   clear hK K
   try simp only [pX]
   refine wpAnyH_done kM ?_ _
   have FZ:=hS.2.2
   go_wp2_with fail
   go_meet
   case rel=>exact ⟨_,_,rfl,BX,OW.o,hne,zg,FZ⟩
 case rest =>
  obtain ⟨g,q,rfl,bg,own,hqg,zg,b4⟩:=hcut
  obtain ⟨w5,rfl⟩:∃ x,x=wc:=⟨_,rfl⟩
  have BG:=zH bg
  have lq:w4.heap.size≤q:=(own.lt _ rfl).1
  obtain ⟨FR,BA,BT,BR⟩:=uz4 b4 FR BA BT BR
  clear b4
  rw [← cM 0 (fun i=>F (t.data.getD i 0+128).toNat) n] at own
  have ON:=zH own
  have NQ:=zH (show q ≠ g∧w4.heap.size≤q∧w4.heap.size≤g∧w2.heap.size < w4.heap.size∧w1.heap.size < w2.heap.size∧w.heap.size < w1.heap.size by refine ⟨hqg,?_,?_,?_,?_,?_⟩ <;> omega)
  have a3:=BA.o.cell 3
  clear bg own hqg zg lq
  go_wp2_with fail
  clear a3
  go_loopw [23] (fun ii wr=>∃ k:Nat,k≤n∧ii=.int .i64 k∧Far w wr∧Blk wr w.heap.size 27 (tN t.h t.v t.c A n cap)∧Blk wr w1.heap.size 129 (bj F 256)∧Blk wr w2.heap.size 27 (tN 0 0 0 none 0 0)∧Blk wr g 27 (tN t.h t.v t.c (some ⟨q,0,none⟩) n n)∧Own (aa .i8) wr (fun _=>False) w4.heap.size 37 (.slice (some ⟨q,0,none⟩) n n) n (cg 0 (fun i=>F (t.data.getD i 0+128).toNat) n k)) (fun ii _=>n - (intOf ii).toNat)
  case atStart=>exact ⟨0,zl _,rfl,FR.o,BA.o,BT.o,BR.o,BG.o,ON.o⟩
  case round =>
   obtain ⟨k,hk,rfl,f0,f1,f2,f3,f4,f5⟩:=hrel
   clear FR BA BT BR BG ON
   have FR:=zH f0
   have BA:=zH f1
   have BT:=zH f2
   have BR:=zH f3
   have BG:=zH f4
   have ON:=zH f5
   clear f0 f1 f2 f3 f4 f5
   by_cases hlt:k < n
   ·have p1:(k:Int) < (n:Int):=oM
    obtain ⟨b,o,rfl,-,-,cx,ix⟩:=(zO HA FR).int_at k hlt
    have FS:=zH (dD 0 (fun i=>F (t.data.getD i 0+128).toNat) n k hlt)
    obtain ⟨x,hx⟩:∃ x,t.data.getD k 0=x:=⟨_,rfl⟩
    rw [hx] at cx ix
    have FE:=zH (show F (t.data.getD k 0+128).toNat=F (x+128).toNat by rw [hx])
    rw [aT] at ix
    obtain ⟨x1,x2⟩:=ix
    obtain ⟨y,hy⟩:∃ y:Nat,x+128=y:=⟨(x+128).toNat,by omega⟩
    have hyl:y < 256:=oM
    rw [hy,Int.toNat_natCast] at FE
    obtain ⟨v,hv⟩:∃ v,F y=v:=⟨_,rfl⟩
    have RE:=zH (show InK .i8 v by rw [← hv];exact HF.o y)
    have tb:=BT.o.cell y
    rw [fM F 256 y hyl,if_pos hyl,hv] at tb
    rw [hv] at FE
    obtain ⟨x0,u0,-,-,c5,c6,c7,-⟩:=ON.o.cell rfl k hlt
    have bg3:=BG.o.cell 3
    have e1:IntKind.i64.wrap x=x:=wJ
    have e2:IntKind.i64.wrap (x+128)=(y:Int):=(wJ).trans hy
    have e3:IntKind.i64.wrap (y:Int)=(y:Int):=wJ
    have hyi:(y:Int) < 256:=oM
    clear hx hv
    go_wp2_with fail
    go_still_tail 8,kM
    change wpList _ _ _ _ _ wr.drew
    have kd:Below wr wr wr.drew:=(qB _ _).drew
    replace ON:=zH (ON.o.below kd (lR _) (fun _ h=>h.elim))
    obtain ⟨FR,BA,BT,BR,BG⟩:=uz5 kd FR BA BT BR BG
    clear kd cx tb bg3 c5 c6 c7
    generalize wr.drew=wy at *
    obtain ⟨x9,u9,-,-,c5,c6,c7,-⟩:=ON.o.cell rfl k hlt
    go_wp2_with fail
    obtain ⟨o3,g3⟩:=ON.o.set1 rfl k (.int .i8 v) v ⟨rfl,RE.o⟩ (fun _ h=>h.elim)
    have fs:=FS.o
    rw [FE.out] at fs
    rw [fs] at o3
    obtain ⟨n1,n2,n3,n4,n5,n6⟩:=NQ.o
    exact ⟨⟨k+1,by omega,by go_num,FR.o.away g3 oM,BA.o.away g3 (.inl oM),BT.o.away g3 (.inl oM),BR.o.away g3 (.inl oM),BG.o.away g3 oM,o3⟩,by simp [intOf];omega⟩
   ·obtain rfl:k=n:=oM
    obtain ⟨n1,n2,n3,n4,n5,n6⟩:=NQ.o
    go_wp2_with (first|(refine lB 27 (.tmp 6) g BG.o underlying27 ?_)|(refine sGJ19 (tN t.h t.v t.c (some ⟨q,0,none⟩) k k) BR.o ?_;intro w9 B9 g9))
    have e2:=ON.o.flat g9 (.inr (by simp [Value.ownBlock];omega)) (fun _ h=>h)
    rw [dZ] at e2
    refine rG B9 ?_
    obtain ⟨A2,c2,hv,s⟩:=e2.sl (S':=bin w.heap.size _) dM (fun b h1 h2=>⟨by omega,h2⟩) (fun b h=>h.elim)
    injection hv with hv1 hv2 hv3
    subst hv1 hv3
    exact ⟨_,_,_,rfl,s,(FR.o.away g9 oM).out⟩
def eC (t:ae) (d:af):ae × Int:=if aq d.qm d.qs=true then (⟨t.h,t.v,t.c,(List.range t.data.length).map fun i=>dP d (t.data.getD i 0)⟩,0) else (aj,7)
theorem qv (t:ae) (A:QA) (n cap:Nat) (d:af) (W:QA) (nw cw:Nat) (B:QA) (nb cb:Nat) (w:World) (ht:ak t) (hd:aE d)
  (ha:xA w A n cap t.data) (c1:t.ok=true) :
  Calls prog 48 #[.agg (tN t.h t.v t.c A n cap),.agg (nD d W nw cw B nb cb)] w (ar .i8 (eC t d).1 (eC t d).2 w):=by
 have HA:=zH ha
 have HT:=zH ht
 have HD:=zH hd
 have C1:=zH c1
 obtain ⟨H,V,C,TK⟩:=cY c1
 have hn2:n≤1024:=by have:=TK.n_le;rw [ha.n_eq] at this;exact this
 have c1':decide (0 < ab t.h t.v t.c∧ab t.h t.v t.c=n)=true:=by rw [← HA.o.n_eq];simpa [ae.ok] using c1
 have RI:=zH (fun w=>av t.h t.v t.c A n cap w ht.h ht.v ht.c (lT ha.cap_le ha.max_le))
 rw [c1'] at RI
 have mx:n≤9223372036854775807:=oM
 have HQ:=zH (show eC t d=if aq d.qm d.qs=true then (⟨t.h,t.v,t.c,(List.range n).map fun i=>dP d (t.data.getD i 0)⟩,0) else (aj,7) by unfold eC;rw [ha.n_eq])
 obtain ⟨x,hx⟩:∃ x,eC t d=x:=⟨_,rfl⟩
 rw [hx] at HQ ⊢
 have FR:=zW w
 obtain ⟨w1,w2,w3,yw1,yw2,yw3,l1,l2,l3,BA,BN,BR,yk3⟩:=bk3 w (tN t.h t.v t.c A n cap) 27 (nD d W nw cw B nb cb) 42 (tN 0 0 0 none 0 0) 27
 replace FR:=zF yk3 FR
 clear yk3
 obtain ⟨qq,hq⟩:∃ q,aq d.qm d.qs=q:=⟨_,rfl⟩
 rw [hq] at HQ
 have QE:=zH hq
 have TA:=zH (fun w=>lE d W nw cw B nb cb w hd)
 rw [hq] at TA
 clear ht hd ha c1 c1' TK hx hq
 cases qq with
 | false =>
  rw [if_neg dM] at HQ
  rw [HQ.o]
  simp only [Bool.false_eq_true,if_false,false_implies,and_true] at TA
  go_in
  go_wp2_with (first|(refine lGJ19 BA.o ?_)|(go_at_call 11;refine qM (RI.o _) fun w4 hb=>?_;have l4:=hb.size;obtain ⟨FR,BA,BN,BR⟩:=uz4 hb FR BA BN BR;clear hb yw1 yw2 yw3)|(refine lGJ19 BN.o ?_))
  refine (TA.o _).mono ?_
  rintro e w5 ⟨⟨k,rfl⟩,hb⟩
  have l5:=hb.size
  obtain ⟨FR,BA,BN,BR⟩:=uz4 hb FR BA BN BR
  clear hb
  obtain ⟨w6,yw6⟩:∃ x,w5.alloc (.cells Tryz.zeroCells129 129)=x:=⟨_,rfl⟩
  have hb:Below w5 w5 w6:=by rw [← yw6];exact (qB _ _).alloc (lR _) _
  have BT:=zH (show Blk w6 w5.heap.size 129 (bj (bL d) 0) by rw [← yw6,gj (bL d)];exact Blk.now _ _ _ _ rfl)
  obtain ⟨FR,BA,BN,BR⟩:=uz4 hb FR BA BN BR
  clear hb
  go_wp2_with (first|(refine wpList_store_all rfl 129 (.tmp 6) (.tmp 15) rfl w5.heap.size (bj (bL d) k) rfl rfl _ (bj (bL d) 0) BT.o (by simp [bf]) (by rw [bf];kernel_rfl) (gU _ _) ?_;intro w7 B7 g7;replace FR:=zA g7 FR;replace BR:=zA g7 BR)|(refine sGJ19 (tN 0 0 0 none 0 0) BR.o ?_;intro w9 B9 g9))
  refine rG B9 ?_
  exact ar.none (FR.o.away g9 oM).out
 | true =>
  rw [if_pos rfl] at HQ
  rw [HQ.o]
  simp only [if_true,true_implies] at TA
  have EQ:=zH (show ((List.range n).map fun i=>bL d (t.data.getD i 0+128).toNat)=((List.range n).map fun i=>dP d (t.data.getD i 0)) by
   apply List.map_congr_left
   intro i _
   have:=HA.o.allK i
   rw [aT] at this
   unfold bL
   congr 1
   omega)
  have BY:=zH (fun wq (h:xA wq A n cap t.data)=>qu t A n cap (bL d) wq HT.o h C1.o (fun i=>oN d _))
  rw [EQ.o] at BY
  go_in
  go_wp2_with (first|(refine lGJ19 BA.o ?_)|(go_at_call 11;refine qM (RI.o _) fun w4 hb=>?_;have l4:=hb.size;obtain ⟨FR,BA,BN,BR⟩:=uz4 hb FR BA BN BR;clear hb yw1 yw2 yw3)|(refine lGJ19 BN.o ?_))
  refine (TA.o _).mono ?_
  rintro e w5 ⟨⟨k,rfl,rfl⟩,hb⟩
  have l5:=hb.size
  obtain ⟨FR,BA,BN,BR⟩:=uz4 hb FR BA BN BR
  clear hb
  obtain ⟨w6,yw6⟩:∃ x,w5.alloc (.cells Tryz.zeroCells129 129)=x:=⟨_,rfl⟩
  have hb:Below w5 w5 w6:=by rw [← yw6];exact (qB _ _).alloc (lR _) _
  have BT:=zH (show Blk w6 w5.heap.size 129 (bj (bL d) 0) by rw [← yw6,gj (bL d)];exact Blk.now _ _ _ _ rfl)
  obtain ⟨FR,BA,BN,BR⟩:=uz4 hb FR BA BN BR
  clear hb
  go_wp2_with (first|(refine wpList_store_all rfl 129 (.tmp 6) (.tmp 15) rfl w5.heap.size (bj (bL d) 256) rfl rfl _ (bj (bL d) 0) BT.o (by simp [bf]) (by rw [bf];kernel_rfl) (gU _ _) ?_;intro w7 B7 g7;replace FR:=zA g7 FR;replace BR:=zA g7 BR;replace BA:=zA g7 BA)|(refine lGJ19 BA.o ?_)|(refine wpList_load_blk rfl 129 (.tmp 6) rfl w5.heap.size 0 rfl _ (bj (bL d) 256) (bj (bL d) 256) _ B7 underlying129 rfl (by rw [bf];kernel_rfl) (by rw [List.drop_zero,List.take_of_length_le sM]) ?_))
  refine (BY.o _ (zO HA FR)).mono ?_
  rintro e w8 ⟨RA,rn,rc,rfl,rs,hb⟩
  have RS:=zH (show New w7 (aa .i8) w8 RA rn rc _ from ⟨rs⟩)
  have lbr:=BR.o.lt
  have lfr:=FR.o.size
  obtain ⟨FR,BR⟩:=uz2 hb FR BR
  clear hb rs
  go_wp2_with (refine sGJ19 (tN t.h t.v t.c RA rn rc) BR.o ?_;intro w9 B9 g9)
  refine rG B9 ?_
  exact ⟨RA,rn,rc,rfl,(RS.o.away g9 lbr).out.more (aO lfr (lR _)),(FR.o.away g9 oM).out⟩
theorem pR (t:ae) (A:QA) (n cap:Nat) (d:af) (W:QA) (nw cw:Nat) (B:QA) (nb cb:Nat) (w:World) (ht:ak t) (hd:aE d)
  (ha:xA w A n cap t.data) (c1:t.ok=true) :
  Calls prog 31 #[.agg (tN t.h t.v t.c A n cap),.agg (nD d W nw cw B nb cb)] w (ar .i8 (eC t d).1 (eC t d).2 w):=by
 have HA:=zH ha
 have HT:=zH ht
 have HD:=zH hd
 have C1:=zH c1
 obtain ⟨H,V,C,TK⟩:=cY c1
 have hn2:n≤1024:=by have:=TK.n_le;rw [ha.n_eq] at this;exact this
 have c1':decide (0 < ab t.h t.v t.c∧ab t.h t.v t.c=n)=true:=by rw [← HA.o.n_eq];simpa [ae.ok] using c1
 have RI:=zH (fun w=>aF t.h t.v t.c A n cap w ht.h ht.v ht.c (lT ha.cap_le ha.max_le))
 rw [c1'] at RI
 have mx:n≤9223372036854775807:=oM
 have HQ:=zH (show eC t d=if aq d.qm d.qs=true then (⟨t.h,t.v,t.c,(List.range n).map fun i=>dP d (t.data.getD i 0)⟩,0) else (aj,7) by unfold eC;rw [ha.n_eq])
 obtain ⟨x,hx⟩:∃ x,eC t d=x:=⟨_,rfl⟩
 rw [hx] at HQ ⊢
 have FR:=zW w
 obtain ⟨w1,w2,w3,yw1,yw2,yw3,l1,l2,l3,BA,BN,BR,yk3⟩:=bk3 w (tN t.h t.v t.c A n cap) 27 (nD d W nw cw B nb cb) 42 (tN 0 0 0 none 0 0) 27
 replace FR:=zF yk3 FR
 clear yk3
 obtain ⟨qq,hq⟩:∃ q,aq d.qm d.qs=q:=⟨_,rfl⟩
 rw [hq] at HQ
 have QE:=zH hq
 have QR:=zH (fun w=>bK d.qm d.qs d.qz w)
 rw [hq] at QR
 clear ht hd ha c1 c1' TK hx hq
 cases qq with
 | false =>
  rw [if_neg dM] at HQ
  rw [HQ.o]
  go_in
  go_wp2_with (first|(refine lGJ19 BA.o ?_)|(go_at_call 15;refine qM (RI.o _) fun w4 hb=>?_;have l4:=hb.size;obtain ⟨FR,BA,BN,BR⟩:=uz4 hb FR BA BN BR;clear hb yw1 yw2 yw3)|(refine lQJ 40 #[.int .i32 d.qm,.int .i64 d.qs,.int .i8 d.qz] BN.o ?_)|(go_at_call 55;refine qM (QR.o _) fun w5 hb=>?_;have l5:=hb.size;obtain ⟨FR,BA,BN,BR⟩:=uz4 hb FR BA BN BR;clear hb)|(refine sGJ19 (tN 0 0 0 none 0 0) BR.o ?_;intro w9 B9 g9))
  refine rG B9 ?_
  exact ar.none (FR.o.away g9 oM).out
 | true =>
  rw [if_pos rfl] at HQ
  rw [HQ.o]
  have OV:=zH (fun x (h:InK .i8 x) w=>nX x d W nw cw B nb cb w h HD.o)
  go_in
  go_wp2_with (first|(refine lGJ19 BA.o ?_)|(go_at_call 15;refine qM (RI.o _) fun w4 hb=>?_;have l4:=hb.size;obtain ⟨FR,BA,BN,BR⟩:=uz4 hb FR BA BN BR;clear hb yw1 yw2 yw3)|(refine lQJ 40 #[.int .i32 d.qm,.int .i64 d.qs,.int .i8 d.qz] BN.o ?_)|(go_at_call 55;refine qM (QR.o _) fun w5 hb=>?_;have l5:=hb.size;obtain ⟨FR,BA,BN,BR⟩:=uz4 hb FR BA BN BR;clear hb;obtain ⟨w6,yw6⟩:∃ x,w5.alloc (.cells (tN 0 0 0 none 0 0) 27)=x:=⟨_,rfl⟩;have hb:Below w5 w5 w6:=(by rw [← yw6];exact (qB _ _).alloc (lR _) _);have BG:=zH (show Blk w6 w5.heap.size 27 (tN 0 0 0 none 0 0) by rw [← yw6];exact Blk.now _ _ _ _ rfl);have BA5:=zH BA.o;obtain ⟨FR,BA,BN,BR⟩:=uz4 hb FR BA BN BR;clear hb)|(refine lQJ 24 (sN t.h t.v t.c) BA5.o ?_)|(refine sGJ19 (tN t.h t.v t.c none 0 0) BG.o ?_;intro w7 B7 g7))
  have l6:w6.heap.size=w5.heap.size+1:=by rw [← yw6];simp
  clear yw6 BA5 BG
  replace FR:=zA g7 FR
  replace BA:=zA g7 BA
  replace BN:=zA g7 BN
  replace BR:=zA g7 BR
  have BG:=zH B7
  clear B7 g7
  have ON:=zH (show Own (aa .i8) w7 (fun _=>False) w6.heap.size 37 (.slice none 0 0) 0 ((List.range 0).map (fun i=>dP d (t.data.getD i 0))) from Own.nil _ _ _ _ _)
  go_loopw [7] (fun ii wr=>∃ k:Nat,k≤n∧ii=.int .i64 k∧Far w wr∧Blk wr w.heap.size 27 (tN t.h t.v t.c A n cap)∧Blk wr w1.heap.size 42 (nD d W nw cw B nb cb)∧Blk wr w2.heap.size 27 (tN 0 0 0 none 0 0)∧∃ u,Blk wr w5.heap.size 27 #[.int .i64 t.h,.int .i64 t.v,.int .i64 t.c,u]∧Own (aa .i8) wr (fun _=>False) w6.heap.size 37 u k ((List.range k).map (fun i=>dP d (t.data.getD i 0)))) (fun ii _=>n - (intOf ii).toNat)
  case atStart=>exact ⟨0,zl _,rfl,FR.o,BA.o,BN.o,BR.o,_,BG.o,ON.o⟩
  case round =>
   obtain ⟨k,hk,rfl,f0,f1,f2,f3,u,f4,f5⟩:=hrel
   clear FR BA BN BR BG ON
   have FR:=zH f0
   have BA:=zH f1
   have BN:=zH f2
   have BR:=zH f3
   have BG:=zH f4
   have ON:=zH f5
   clear f0 f1 f2 f3 f4 f5
   have a3:=BA.o.cell 3
   by_cases hlt:k < n
   ·have p1:(k:Int) < (n:Int):=oM
    go_wp2_with fail
    clear a3
    obtain ⟨b,o,rfl,-,-,cx,ix⟩:=(zO HA FR).int_at k hlt
    have hb9:b < w.heap.size:=by
     obtain ⟨b',o',e',q1,q2,-,-⟩:=HA.o.int_at k hlt
     simp only [Option.some.injEq,Addr.mk.injEq,and_true] at e'
     rw [e'.1]
     exact q1
    have FS:=zH (dz (fun i=>dP d (t.data.getD i 0)) k)
    obtain ⟨x,hx⟩:∃ x,t.data.getD k 0=x:=⟨_,rfl⟩
    rw [hx] at cx ix
    have FE:=zH (show dP d (t.data.getD k 0)=dP d x by rw [hx])
    have CX:=zH (OV.o x ix)
    obtain ⟨v,hv⟩:∃ v,dP d x=v:=⟨_,rfl⟩
    have RE:=zH (show InK .i8 v by rw [← hv];exact oN d x)
    rw [hv] at FE CX
    have OD:=zH (ON.o.heap (w':=wr.drew) rfl)
    have fd:Below w w wr.drew:=FR.u.drew
    have bd:=BG.o.lt
    have cd:=ao ((show Below wr wr wr.drew from (qB _ _).drew)) cx
    have nu:=zH (show ∀ b,b < w6.heap.size → some b ≠ u.ownBlock from fun b hb e=>absurd (ON.o.lt b e.symm).1 oM)
    clear hx hv cx
    refine aJ (fun w'=>w'.cell? ⟨w5.heap.size,3,none⟩=some u∧w'.cell? ⟨w.heap.size,3,none⟩=some (.slice (some ⟨b,o,none⟩) n cap)∧w'.cell? ⟨b,o+k,none⟩=some (.int .i8 x)∧Blk w' w1.heap.size 42 (nD d W nw cw B nb cb)∧Below w w w') 11 kM ?_ (fun hS=>?_)
    ·exact ⟨BG.o.drew.cell 3,BA.o.drew.cell 3,cd,BN.o.drew,fd⟩
    refine kT' 0 hS ?_
    refine kT' 1 hS ?_
    refine kT' 2 hS ?_
    refine kT' 3 hS ?_
    refine kT' 4 hS ?_
    refine kT' 5 hS ?_
    refine kT' 6 hS ?_
    refine tkT 7 rfl (yP (nD d W nw cw B nb cb) (fun w hs=>hs.2.2.2.1)) hS ?_
    try simp only [pX]
    refine rT 8 (fun K hK=>?_)
    go_simp
    refine qM (CX.o _) fun wa hb=>?_;have OA:=zH (OD.o.below hb (lR _) (fun _ h=>h.elim));have za:w6.heap.size≤wa.heap.size:=(by have:=hb.size;have:wr.drew.heap.size=wr.heap.size:=rfl;omega);have XX:=zH (And.intro (ao hb cd) (And.intro (BA.o.drew.later hb) (ai fd hb fd.size)));have YY:=zH (And.intro (BN.o.drew.later hb) (And.intro (BR.o.drew.later hb) (BG.o.drew.later hb)))
    refine xK hK (zR hb hS) fun hS=>?_
    clear hK K
    refine rT 9 (fun K hK=>?_)
    go_simp
    have hb:Below wa wa (wa.alloc (.cells #[.int .i8 v] 37)):=(qB _ _).alloc (lR _) _
    refine xK hK (zR hb hS) fun hS=>?_
    clear hK K
    refine rT 10 (fun K hK=>?_)
    (rw [if_pos (by rfl)];refine cU (W:=wa) (cs:=#[.int .i8 v]) (E:=37) (t:=aa .i8) (.tmp 28) (.tmp 36) rfl dy rfl OA.o 1 rfl v ⟨rfl,RE.o⟩ (by unfold maxLen;omega) oM za (fun _ h=>h.elim) ?_;intro u' w7 own7 g7 at7;have B7:=zH (YY.o.2.2.rowR g7 (nu.out _ oM));have T7:=zH (XX.o.2.1.rowR g7 (nu.out _ oM));refine hK.out _ _ ⟨B7.o.cell 3,T7.o.cell 3,bF g7 XX.o.1 (nu.out b oM),YY.o.1.rowR g7 (nu.out _ oM),XX.o.2.2.grown g7 XX.o.2.2.size (fun j hj=>lT oM (OA.o.lt j hj).1)⟩ (fun hS=>?_))
    clear hK K
    try simp only [pX]
    refine wpAnyT_tail _ _ rfl rfl kM ?_
    have FZ:=hS.2.2.2.2
    have XB:=zH hS.2.2.2.1
    have XR:=zH (YY.o.2.1.rowR g7 (nu.out _ oM))
    have NU:=zH (show u'.ownBlock=none ∨ u'.ownBlock ≠ some w5.heap.size by
     cases hu:u'.ownBlock with
     | none=>exact .inl rfl
     | some m=>right;intro e;have:=(own7.lt m hu).1;have:=sI e;omega)
    obtain ⟨A7,c7,rfl,-⟩:=own7.sl (S':=fun _=>True) dM (fun _ _ _=>trivial) (fun _ _=>trivial)
    clear hS hb nu at7
    go_wp2_with (refine wpList_store_one rfl 25 (.tmp 38) (.tmp 37) rfl w5.heap.size 3 (.slice A7 (k+1) c7) rfl rfl rfl rfl _ #[.int .i64 t.h,.int .i64 t.v,.int .i64 t.c,u] (tN t.h t.v t.c A7 (k+1) c7) B7.o sM kM rfl ?_;intro w8 B8 g8)
    have F8:=(show Far w w7 from ⟨FZ⟩).away g8 oM
    have O8:=own7.flat g8 (by rcases NU.o with e|e;exact .inl e;exact .inr e) (fun _ h=>h)
    have fs:=FS.o
    rw [FE.out] at fs
    rw [fs] at O8
    exact ⟨⟨k+1,by omega,by go_num,F8,T7.o.away g8 (.inl oM),XB.o.away g8 (.inl oM),XR.o.away g8 (.inl oM),_,B8,O8⟩,by simp [intOf];omega⟩
   ·obtain rfl:k=n:=oM
    obtain ⟨A9,c9,rfl,-⟩:=ON.o.sl (S':=fun _=>True) dM (fun _ _ _=>trivial) (fun _ _=>trivial)
    go_wp2_with (first|(refine lGJ19 BG.o ?_)|(refine sGJ19 (tN t.h t.v t.c A9 k c9) BR.o ?_;intro w9 B9 g9))
    have e2:=ON.o.flat g9 (by
     cases hu:(Value.slice A9 k c9).ownBlock with
     | none=>exact .inl rfl
     | some m=>right;intro e;have:=(ON.o.lt m hu).1;have:=sI e;omega) (fun _ h=>h)
    refine rG B9 ?_
    have FE:=FR.o.away g9 oM
    obtain ⟨A2,c2,hv,s⟩:=e2.sl (S':=bin w.heap.size _) dM (fun b h1 h2=>⟨by omega,h2⟩) (fun b h=>h.elim)
    injection hv with hv1 hv2 hv3
    subst hv1 hv3
    exact ⟨_,_,_,rfl,s,FE.out⟩
theorem pI (t:ae) (A:QA) (n cap:Nat) (p:Int) (w:World) (ht:ak t) (ha:xA w A n cap t.data) (c1:t.ok=true) :
  Calls prog 90 #[.agg (tN t.h t.v t.c A n cap),.int .i64 p] w fun e w'=>e=.returned (.int .i64 (if p < 0 ∨ 4 < p then 2 else 0))∧Below w w w':=by
 have c1':decide (0 < ab t.h t.v t.c∧ab t.h t.v t.c=n)=true:=by rw [← ha.n_eq];simpa [ae.ok] using c1
 have RI:=zH (fun w=>av t.h t.v t.c A n cap w ht.h ht.v ht.c (lT ha.cap_le ha.max_le))
 rw [c1'] at RI
 have FR:=zW w
 obtain ⟨w1,yw1,BA,FR⟩:=nF FR (tN t.h t.v t.c A n cap) 27
 clear ht ha c1 c1'
 by_cases a1:p < 0
 ·rw [if_pos (.inl a1)]
  go_in
  go_wp2_with (first|(refine lGJ19 BA.o ?_)|(go_at_call 11;refine qM (RI.o _) fun w4 hb=>?_;replace FR:=zF hb FR;clear hb yw1))
  go_ret
  exact ⟨rfl,FR.u⟩
 ·by_cases a2:4 < p
  ·rw [if_pos (.inr a2)]
   go_in
   go_wp2_with (first|(refine lGJ19 BA.o ?_)|(go_at_call 11;refine qM (RI.o _) fun w4 hb=>?_;replace FR:=zF hb FR;clear hb yw1))
   go_ret
   exact ⟨rfl,FR.u⟩
  ·rw [if_neg oM]
   go_in
   go_wp2_with (first|(refine lGJ19 BA.o ?_)|(go_at_call 11;refine qM (RI.o _) fun w4 hb=>?_;replace FR:=zF hb FR;clear hb yw1))
   go_ret
   exact ⟨rfl,FR.u⟩
theorem oo (t:ae) (A:QA) (n cap:Nat) (p:Int) (w:World) (ht:ak t) (ha:xA w A n cap t.data) (c1:t.ok=true) :
  Calls prog 32 #[.agg (tN t.h t.v t.c A n cap),.int .i64 p] w fun e w'=>e=.returned (.int .i64 (if p < 0 ∨ 4 < p then 2 else 0))∧Below w w w':=by
 have c1':decide (0 < ab t.h t.v t.c∧ab t.h t.v t.c=n)=true:=by rw [← ha.n_eq];simpa [ae.ok] using c1
 have RI:=zH (fun w=>aF t.h t.v t.c A n cap w ht.h ht.v ht.c (lT ha.cap_le ha.max_le))
 rw [c1'] at RI
 have FR:=zW w
 obtain ⟨w1,yw1,BA,FR⟩:=nF FR (tN t.h t.v t.c A n cap) 27
 clear ht ha c1 c1'
 by_cases a1:p < 0
 ·rw [if_pos (.inl a1)]
  go_in
  go_wp2_with (first|(refine lGJ19 BA.o ?_)|(go_at_call 15;refine qM (RI.o _) fun w4 hb=>?_;replace FR:=zF hb FR;clear hb yw1))
  go_ret
  exact ⟨rfl,FR.u⟩
 ·by_cases a2:4 < p
  ·rw [if_pos (.inr a2)]
   go_in
   go_wp2_with (first|(refine lGJ19 BA.o ?_)|(go_at_call 15;refine qM (RI.o _) fun w4 hb=>?_;replace FR:=zF hb FR;clear hb yw1))
   go_ret
   exact ⟨rfl,FR.u⟩
  ·rw [if_neg oM]
   go_in
   go_wp2_with (first|(refine lGJ19 BA.o ?_)|(go_at_call 15;refine qM (RI.o _) fun w4 hb=>?_;replace FR:=zF hb FR;clear hb yw1))
   go_ret
   exact ⟨rfl,FR.u⟩
theorem rj (H V C:Nat) (A:QA) (n cap:Nat) (l:List Int) (y x:Int) (c:Nat) (z:Int) (w:World) (ha:xA w A n cap l) (hn:n=H*V*C) (hn2:n≤1024) (hH:H≤16) (hV:V≤16) (hC:C≤1024) (hc:c < C) :
  Calls prog 100 #[.agg (tN H V C A n cap),.int .i64 y,.int .i64 x,.int .i64 c,.int .i8 z] w fun e w'=>e=.returned (.int .i8 (if aK H V y x then l.getD (cH V C y x c) 0 else z))∧Below w w w':=by
 have HA:=zH ha
 have HN:=zH hn
 have FR:=zW w
 obtain ⟨w1,yw1,BA,FR⟩:=nF FR (tN H V C A n cap) 27
 obtain ⟨d0,d1⟩:=uc2 BA 0 1
 clear ha hn
 by_cases a1:0≤y
 ·by_cases a2:y < (H:Int)
  ·by_cases a3:0≤x
   ·by_cases a4:x < (V:Int)
    ·rw [if_pos (show aK H V y x from ⟨a1,a2,a3,a4⟩)]
     obtain ⟨yn,rfl⟩:∃ m:Nat,y=m:=⟨y.toNat,by omega⟩
     obtain ⟨xn,rfl⟩:∃ m:Nat,x=m:=⟨x.toNat,by omega⟩
     unfold cH
     simp only [Int.toNat_natCast]
     have GE:=zH (fun wq (h:xA wq A n cap l)=>gQ H V C A n cap l yn xn c wq h HN.o hn2 hC oM oM hc)
     have t1:¬ (H:Int)≤(yn:Int):=oM
     have t2:¬ (V:Int)≤(xn:Int):=oM
     have t3:¬ H≤yn:=oM
     have t4:¬ V≤xn:=oM
     go_in
     go_wp2_with (first|(refine lGJ19 BA.o ?_)|(go_at_call 95;refine qM (GE.o _ (zO HA FR)) fun w4 hb=>?_;replace FR:=zF hb FR;clear hb))
     go_ret
     exact ⟨rfl,FR.u⟩
    ·have ni:¬ aK H V y x:=fun h=>a4 h.2.2.2
     rw [if_neg ni]
     have t2:(V:Int)≤x:=oM
     clear ni
     go_in
     go_wp2
     go_ret
     exact ⟨rfl,FR.u⟩
   ·have ni:¬ aK H V y x:=fun h=>a3 h.2.2.1
    rw [if_neg ni]
    have t2:x < 0:=oM
    clear ni
    go_in
    go_wp2
    go_ret
    exact ⟨rfl,FR.u⟩
  ·have ni:¬ aK H V y x:=fun h=>a2 h.2.1
   rw [if_neg ni]
   have t2:(H:Int)≤y:=oM
   clear ni
   go_in
   go_wp2
   go_ret
   exact ⟨rfl,FR.u⟩
 ·have ni:¬ aK H V y x:=fun h=>a1 h.1
  rw [if_neg ni]
  have t2:y < 0:=oM
  clear ni
  go_in
  go_wp2
  go_ret
  exact ⟨rfl,FR.u⟩
end Go.Proofs.YtmihnoagagbgaaaGreat
namespace Go.Proofs.YtmihnoagagbgaaaGreat
open Go.RowKit Go.ChangeShapes Go.WideShapes Tryz
set_option maxRecDepth 100000
set_option maxHeartbeats 16000000
def bv (d:af):af :=
 { kind:=d.kind,a:=d.a,b:=if d.kind=6 then d.b else 0,k:=if bS d.kind then d.k else 0,s:=if bS d.kind then d.s else 0,p:=if bS d.kind || decide (d.kind=8) then d.p else 0,out:=if d.kind=1 ∨ d.kind=3 then d.out else 0,za:=if aA d.kind || decide (d.kind=8) then d.za else 0,zb:=if d.kind=6 then d.zb else 0,w:=if bY d.kind then d.w else [],bias:=if bY d.kind then d.bias else [],qm:=if aA d.kind then d.qm else 0,qs:=if aA d.kind then d.qs else 0,qz:=if aA d.kind then d.qz else 0,rm:=if d.kind=6 then d.rm else 0,rs:=if d.kind=6 then d.rs else 0,rz:=0,lo:=if aA d.kind then d.lo else 0,hi:=if aA d.kind then d.hi else 0 }
def mj (d:af):af :=
 { kind:=d.kind,a:=d.a,b:=if d.kind=6 then d.b else 0,k:=if bS d.kind then d.k else 0,s:=if bS d.kind then d.s else 0,p:=if bS d.kind || decide (d.kind=8) then d.p else 0,out:=if d.kind=1 ∨ d.kind=3 then d.out else 0,za:=if d.kind=8 then d.za else 0,zb:=if d.kind=6 then d.zb else 0,w:=if bY d.kind then d.w else [],bias:=if bY d.kind then d.bias else [],qm:=0,qs:=0,qz:=0,rm:=if d.kind=6 then d.rm else 0,rs:=if d.kind=6 then d.rs else 0,rz:=0,lo:=0,hi:=0 }
theorem pM (d:af):bv d=if aA d.kind=true then { mj d with za:=d.za,qm:=d.qm,qs:=d.qs,qz:=d.qz,lo:=d.lo,hi:=d.hi } else mj d:=by
 by_cases h:aA d.kind=true
 ·rw [if_pos h];unfold bv mj;simp [h]
 ·rw [if_neg h];unfold bv mj;simp [h]
theorem sJ (kind a b k s p out za zb qm qs qz rm rs rz lo hi:Int) (wl bl:List Int) (W:QA) (nw cw:Nat) (B:QA) (nb cb:Nat) (w:World) (hk:kind=1 ∨ kind=2 ∨ kind=3 ∨ kind=4 ∨ kind=5 ∨ kind=6 ∨ kind=7 ∨ kind=8 ∨ kind=9) (hw:xA w W nw cw wl) (hb:xB w B nb cb bl) (mw:nw≤1048576) (mb:nb≤1048576) :
  Calls prog 79 #[.agg (nN kind a b k s p out za zb W nw cw B nb cb qm qs qz rm rs rz lo hi)] w (oH (bv ⟨kind,a,b,k,s,p,out,za,zb,wl,bl,qm,qs,qz,rm,rs,rz,lo,hi⟩) w):=by
 have HW:=zH (Old.now hw)
 have HB:=zH (Old.now hb)
 have SC:=zH (fun w=>iT kind w)
 have NM:=zH (fun w=>ke kind w)
 have PM:=zH (pM ⟨kind,a,b,k,s,p,out,za,zb,wl,bl,qm,qs,qz,rm,rs,rz,lo,hi⟩)
 have tn:(d8 kind).toList.isEmpty=false:=by rcases hk with h|h|h|h|h|h|h|h|h <;> (subst h;rw [ByteArray.toList_eq];rfl)
 have HK:=zH hk
 clear hw hb hk
 have FR:=zW w
 obtain ⟨w1,w2,yw1,yw2,_,_,BN,BR,k2⟩:=bk2 w (nN kind a b k s p out za zb W nw cw B nb cb qm qs qz rm rs rz lo hi) 42 (nN 0 0 0 0 0 0 0 0 0 none 0 0 none 0 0 0 0 0 0 0 0 0 0) 42
 obtain ⟨FR,HW,HB⟩:=uz3 k2 FR HW HB
 clear k2
 obtain ⟨cN0,cN1⟩:=uc2 BN 0 1
 have lr0:=zH (show w.heap.size≤w1.heap.size by rw [← yw1];simp)
 go_in
 go_wp2_with fail
 clear yw1 yw2
 refine qM (NM.o _) fun w3 hb=>?_
 clear cN0 cN1
 obtain ⟨FR,HW,HB,BN,BR⟩:=uz5 hb FR HW HB BN BR
 clear hb
 have ln:w.heap.size < w3.heap.size:=BN.o.lt
 have lr:w1.heap.size < w3.heap.size:=BR.o.lt
 obtain ⟨cN0,cN1⟩:=uc2 BN 0 1
 obtain ⟨w4,yw4,BM,k4⟩:=nB w3 (nN 0 0 0 0 0 0 0 0 0 none 0 0 none 0 0 0 0 0 0 0 0 0 0) 42
 obtain ⟨FR,HW,HB,BN,BR⟩:=uz5 k4 FR HW HB BN BR
 clear k4
 go_upto_block 0 with (refine sGJ19 (nN kind a 0 0 0 0 0 0 0 none 0 0 none 0 0 0 0 0 0 0 0 0 0) BM.o ?_;intro w5 BM5 g5;replace FR:=zA g5 FR;replace HW:=zA g5 HW;replace HB:=zA g5 HB;replace BN:=zA g5 BN;replace BR:=zA g5 BR;clear cN0 cN1 g5;have cN0:=BN.o.cell 0)
 clear yw4 BM tn NM
 have lm:w3.heap.size < w5.heap.size:=BM5.lt
 go_cut [] (fun wx=>∃ (m:af) (W1:QA) (n1 c1:Nat) (B1:QA) (n2 c2:Nat),mj ⟨kind,a,b,k,s,p,out,za,zb,wl,bl,qm,qs,qz,rm,rs,rz,lo,hi⟩=m∧Blk wx w3.heap.size 42 (nD m W1 n1 c1 B1 n2 c2)∧New w5 (aa .i8) wx W1 n1 c1 m.w∧New w5 (aa .i32) wx B1 n2 c2 m.bias∧Far w wx∧Blk wx w.heap.size 42 (nN kind a b k s p out za zb W nw cw B nb cb qm qs qz rm rs rz lo hi)∧Blk wx w1.heap.size 42 (nN 0 0 0 0 0 0 0 0 0 none 0 0 none 0 0 0 0 0 0 0 0 0 0))
 case first =>
  rcases HK.o with h|h|h|h|h|h|h|h|h
  ·subst h
   clear HK PM SC
   have c6:=BN.o.cell 6
   go_wp2_with (refine wpList_store_one rfl 3 (.tmp 31) (.tmp 30) rfl w3.heap.size 6 (.int .i64 out) rfl rfl rfl rfl _ (nN 1 a 0 0 0 0 0 0 0 none 0 0 none 0 0 0 0 0 0 0 0 0 0) (nN 1 a 0 0 0 0 out 0 0 none 0 0 none 0 0 0 0 0 0 0 0 0 0) BM5 sM kM rfl ?_;intro w6 BM6 g6)
   replace FR:=zA g6 FR
   replace HW:=zA g6 HW
   replace HB:=zA g6 HB
   replace BN:=zA g6 BN
   replace BR:=zA g6 BR
   have g6s:=zH (show w5.heap.size≤w6.heap.size from g6.size)
   clear c6 cN0 g6 BM5
   have lmx:w5.heap.size≤w6.heap.size:=g6s.out
   have lmy:w3.heap.size < w6.heap.size:=BM6.lt
   refine wp_region_held_drew (S:=fun w'=>w'.cell? ⟨w.heap.size,9,none⟩=some (.slice W nw cw)∧w'.cell? ⟨w.heap.size,10,none⟩=some (.slice B nb cb)∧Blk w' w.heap.size 42 (nN 1 a b k s p out za zb W nw cw B nb cb qm qs qz rm rs rz lo hi)∧Below w w w') kM ?_ (fun hS=>?_)
   ·exact ⟨BN.o.drew.cell 9,BN.o.drew.cell 10,BN.o.drew,FR.u.drew⟩
   refine kH' 0 hS ?_
   refine kH' 1 hS ?_
   refine kH' 3 hS ?_
   refine kH' 4 hS ?_
   refine rH 2 rfl (fun K hK=>?_)
   go_simp
   refine (eF W nw cw wl _ (HW.o.fut (qB _ _).drew).all oM).mono ?_;rintro e wa ⟨W1,n1,c1,rfl,hs,hb⟩;have SA:=zH hs;have KA:=zH (ai (qB _ _).drew hb (lR _));clear hs
   refine xK hK (zR hb hS) fun hS=>?_
   clear hK K
   refine kH' 6 hS ?_
   refine rH 5 rfl (fun K hK=>?_)
   go_simp
   refine (gl B nb cb bl _ (HB.o.fut KA.o).all oM).mono ?_;rintro e wb ⟨B1,n2,c2,rfl,hs,hb⟩;have SB:=zH hs;have KAB:=zH hb;have KB:=zH (ai KA.o hb KA.o.size);clear hs;have BMb:=zH (BM6.later KB.o)
   refine xK hK (zR hb hS) fun hS=>?_
   clear hK K
   refine rH 7 rfl (fun K hK=>?_)
   (rw [if_pos (by rfl)];refine oper_store_one 25 (.tmp 38) (.tmp 34) rfl w3.heap.size 9 (.slice W1 n1 c1) rfl rfl rfl rfl _ (nN 1 a 0 0 0 0 out 0 0 none 0 0 none 0 0 0 0 0 0 0 0 0 0) (nN 1 a 0 0 0 0 out 0 0 W1 n1 c1 none 0 0 0 0 0 0 0 0 0 0) BMb.o sM kM rfl ?_;intro w7 BM7 g7;have BN7:=(hS.2.2.1).away g7 oM;refine hK.out _ _ ⟨BN7.cell 9,BN7.cell 10,BN7,(hS.2.2.2).grown g7 (hS.2.2.2).size (fun k h=>by have:=sI h;omega)⟩ (fun hS=>?_))
   clear hK K
   try simp only [pX]
   refine kH' 8 hS ?_
   refine rH 9 rfl (fun K hK=>?_)
   (rw [if_pos (by rfl)];refine oper_store_one 38 (.tmp 39) (.tmp 37) rfl w3.heap.size 10 (.slice B1 n2 c2) rfl rfl rfl rfl _ (nN 1 a 0 0 0 0 out 0 0 W1 n1 c1 none 0 0 0 0 0 0 0 0 0 0) (nN 1 a 0 0 0 0 out 0 0 W1 n1 c1 B1 n2 c2 0 0 0 0 0 0 0 0) BM7 sM kM rfl ?_;intro w8 BM8 g8;have BN8:=(hS.2.2.1).away g8 oM;refine hK.out _ _ ⟨BN8.cell 9,BN8.cell 10,BN8,(hS.2.2.2).grown g8 (hS.2.2.2).size (fun k h=>by have:=sI h;omega)⟩ (fun hS=>?_))
   clear hK K
   try simp only [pX]
   refine wpAnyH_done kM ?_ _
   replace FR:=zH (Far.mk (hS.2.2.2))
   replace BN:=zH (hS.2.2.1)
   clear hS BN7 BN8
   have NW:=zH (New.mk (w0:=w5) ((SA.o.below KAB.o (fun _ h=>h.2)).more (fun x hx=>⟨lT lmx hx.1,Nat.lt_of_lt_of_le hx.2 KAB.o.size⟩)))
   have NB:=zH (New.mk (w0:=w5) (SB.o.more (fun x hx=>⟨lT (lT lmx (show w6.heap.size≤wa.heap.size from KA.o.size)) hx.1,hx.2⟩)))
   replace BR:=zH (BR.o.fut KB.o)
   clear SA SB KAB KA hb KB HW HB BMb BM6
   replace BR:=zA g7 BR
   replace NW:=zA g7 NW
   replace NB:=zA g7 NB
   clear g7
   replace BR:=zA g8 BR
   replace NW:=zA g8 NW
   replace NB:=zA g8 NB
   clear g8
   clear BM7
   go_wp2_with fail
   refine wp_region_held_drew (S:=fun w'=>w'.cell? ⟨w.heap.size,3,none⟩=some (.int .i64 k)∧w'.cell? ⟨w.heap.size,4,none⟩=some (.int .i64 s)∧w'.cell? ⟨w.heap.size,5,none⟩=some (.int .i64 p)∧Blk w' w.heap.size 42 (nN 1 a b k s p out za zb W nw cw B nb cb qm qs qz rm rs rz lo hi)∧Below w w w') kM ?_ (fun hS=>?_)
   ·exact ⟨BN.o.drew.cell 3,BN.o.drew.cell 4,BN.o.drew.cell 5,BN.o.drew,FR.u.drew⟩
   refine kH' 0 hS ?_
   refine kH' 1 hS ?_
   refine kH' 2 hS ?_
   refine kH' 3 hS ?_
   refine kH' 4 hS ?_
   refine kH' 5 hS ?_
   refine kH' 6 hS ?_
   refine rH 7 rfl (fun K hK=>?_)
   (rw [if_pos (by rfl)];refine oper_store_one 3 (.tmp 46) (.tmp 41) rfl w3.heap.size 3 (.int .i64 k) rfl rfl rfl rfl _ (nN 1 a 0 0 0 0 out 0 0 W1 n1 c1 B1 n2 c2 0 0 0 0 0 0 0 0) (nN 1 a 0 k 0 0 out 0 0 W1 n1 c1 B1 n2 c2 0 0 0 0 0 0 0 0) BM8.drew sM kM rfl ?_;intro w9 BM9 g9;have BN9:=(hS.2.2.2.1).away g9 oM;refine hK.out _ _ ⟨BN9.cell 3,BN9.cell 4,BN9.cell 5,BN9,(hS.2.2.2.2).grown g9 (hS.2.2.2.2).size (fun k h=>by have:=sI h;omega)⟩ (fun hS=>?_))
   clear hK K
   try simp only [pX]
   refine kH' 8 hS ?_
   refine rH 9 rfl (fun K hK=>?_)
   (rw [if_pos (by rfl)];refine oper_store_one 3 (.tmp 47) (.tmp 43) rfl w3.heap.size 4 (.int .i64 s) rfl rfl rfl rfl _ (nN 1 a 0 k 0 0 out 0 0 W1 n1 c1 B1 n2 c2 0 0 0 0 0 0 0 0) (nN 1 a 0 k s 0 out 0 0 W1 n1 c1 B1 n2 c2 0 0 0 0 0 0 0 0) BM9 sM kM rfl ?_;intro w10 BM10 g10;have BN10:=(hS.2.2.2.1).away g10 oM;refine hK.out _ _ ⟨BN10.cell 3,BN10.cell 4,BN10.cell 5,BN10,(hS.2.2.2.2).grown g10 (hS.2.2.2.2).size (fun k h=>by have:=sI h;omega)⟩ (fun hS=>?_))
   clear hK K
   try simp only [pX]
   refine kH' 10 hS ?_
   refine rH 11 rfl (fun K hK=>?_)
   (rw [if_pos (by rfl)];refine oper_store_one 3 (.tmp 48) (.tmp 45) rfl w3.heap.size 5 (.int .i64 p) rfl rfl rfl rfl _ (nN 1 a 0 k s 0 out 0 0 W1 n1 c1 B1 n2 c2 0 0 0 0 0 0 0 0) (nN 1 a 0 k s p out 0 0 W1 n1 c1 B1 n2 c2 0 0 0 0 0 0 0 0) BM10 sM kM rfl ?_;intro w11 BM11 g11;have BN11:=(hS.2.2.2.1).away g11 oM;refine hK.out _ _ ⟨BN11.cell 3,BN11.cell 4,BN11.cell 5,BN11,(hS.2.2.2.2).grown g11 (hS.2.2.2.2).size (fun k h=>by have:=sI h;omega)⟩ (fun hS=>?_))
   clear hK K
   try simp only [pX]
   refine wpAnyH_done kM ?_ _
   replace FR:=zH (Far.mk (hS.2.2.2.2))
   replace BN:=zH (hS.2.2.2.1)
   clear hS BN9 BN10 BN11
   replace BR:=zH (BR.o.draw)
   replace NW:=zH (NW.o.draw)
   replace NB:=zH (NB.o.draw)
   replace BR:=zA g9 BR
   replace NW:=zA g9 NW
   replace NB:=zA g9 NB
   clear g9
   replace BR:=zA g10 BR
   replace NW:=zA g10 NW
   replace NB:=zA g10 NB
   clear g10
   replace BR:=zA g11 BR
   replace NW:=zA g11 NW
   replace NB:=zA g11 NB
   clear g11
   clear BM9
   clear BM10
   go_wp2_with fail
   go_meet
   case rel=>exact ⟨_,W1,n1,c1,B1,n2,c2,rfl,BM11,NW.o,NB.o,FR.o,BN.o,BR.o⟩
  ·subst h
   clear HK PM SC
   go_wp2_with fail
   clear cN0
   have lmx:w5.heap.size≤w5.heap.size:=lR _
   have lmy:w3.heap.size < w5.heap.size:=BM5.lt
   refine wp_region_held_drew (S:=fun w'=>w'.cell? ⟨w.heap.size,9,none⟩=some (.slice W nw cw)∧w'.cell? ⟨w.heap.size,10,none⟩=some (.slice B nb cb)∧Blk w' w.heap.size 42 (nN 2 a b k s p out za zb W nw cw B nb cb qm qs qz rm rs rz lo hi)∧Below w w w') kM ?_ (fun hS=>?_)
   ·exact ⟨BN.o.drew.cell 9,BN.o.drew.cell 10,BN.o.drew,FR.u.drew⟩
   refine kH' 0 hS ?_
   refine kH' 1 hS ?_
   refine kH' 3 hS ?_
   refine kH' 4 hS ?_
   refine rH 2 rfl (fun K hK=>?_)
   go_simp
   refine (eF W nw cw wl _ (HW.o.fut (qB _ _).drew).all oM).mono ?_;rintro e wa ⟨W1,n1,c1,rfl,hs,hb⟩;have SA:=zH hs;have KA:=zH (ai (qB _ _).drew hb (lR _));clear hs
   refine xK hK (zR hb hS) fun hS=>?_
   clear hK K
   refine kH' 6 hS ?_
   refine rH 5 rfl (fun K hK=>?_)
   go_simp
   refine (gl B nb cb bl _ (HB.o.fut KA.o).all oM).mono ?_;rintro e wb ⟨B1,n2,c2,rfl,hs,hb⟩;have SB:=zH hs;have KAB:=zH hb;have KB:=zH (ai KA.o hb KA.o.size);clear hs;have BMb:=zH (BM5.later KB.o)
   refine xK hK (zR hb hS) fun hS=>?_
   clear hK K
   refine rH 7 rfl (fun K hK=>?_)
   (rw [if_pos (by rfl)];refine oper_store_one 25 (.tmp 38) (.tmp 34) rfl w3.heap.size 9 (.slice W1 n1 c1) rfl rfl rfl rfl _ (nN 2 a 0 0 0 0 0 0 0 none 0 0 none 0 0 0 0 0 0 0 0 0 0) (nN 2 a 0 0 0 0 0 0 0 W1 n1 c1 none 0 0 0 0 0 0 0 0 0 0) BMb.o sM kM rfl ?_;intro w6 BM6 g6;have BN6:=(hS.2.2.1).away g6 oM;refine hK.out _ _ ⟨BN6.cell 9,BN6.cell 10,BN6,(hS.2.2.2).grown g6 (hS.2.2.2).size (fun k h=>by have:=sI h;omega)⟩ (fun hS=>?_))
   clear hK K
   try simp only [pX]
   refine kH' 8 hS ?_
   refine rH 9 rfl (fun K hK=>?_)
   (rw [if_pos (by rfl)];refine oper_store_one 38 (.tmp 39) (.tmp 37) rfl w3.heap.size 10 (.slice B1 n2 c2) rfl rfl rfl rfl _ (nN 2 a 0 0 0 0 0 0 0 W1 n1 c1 none 0 0 0 0 0 0 0 0 0 0) (nN 2 a 0 0 0 0 0 0 0 W1 n1 c1 B1 n2 c2 0 0 0 0 0 0 0 0) BM6 sM kM rfl ?_;intro w7 BM7 g7;have BN7:=(hS.2.2.1).away g7 oM;refine hK.out _ _ ⟨BN7.cell 9,BN7.cell 10,BN7,(hS.2.2.2).grown g7 (hS.2.2.2).size (fun k h=>by have:=sI h;omega)⟩ (fun hS=>?_))
   clear hK K
   try simp only [pX]
   refine wpAnyH_done kM ?_ _
   replace FR:=zH (Far.mk (hS.2.2.2))
   replace BN:=zH (hS.2.2.1)
   clear hS BN6 BN7
   have NW:=zH (New.mk (w0:=w5) ((SA.o.below KAB.o (fun _ h=>h.2)).more (fun x hx=>⟨lT lmx hx.1,Nat.lt_of_lt_of_le hx.2 KAB.o.size⟩)))
   have NB:=zH (New.mk (w0:=w5) (SB.o.more (fun x hx=>⟨lT (lT lmx (show w5.heap.size≤wa.heap.size from KA.o.size)) hx.1,hx.2⟩)))
   replace BR:=zH (BR.o.fut KB.o)
   clear SA SB KAB KA hb KB HW HB BMb BM5
   replace BR:=zA g6 BR
   replace NW:=zA g6 NW
   replace NB:=zA g6 NB
   clear g6
   replace BR:=zA g7 BR
   replace NW:=zA g7 NW
   replace NB:=zA g7 NB
   clear g7
   clear BM6
   go_wp2_with fail
   refine wp_region_held_drew (S:=fun w'=>w'.cell? ⟨w.heap.size,3,none⟩=some (.int .i64 k)∧w'.cell? ⟨w.heap.size,4,none⟩=some (.int .i64 s)∧w'.cell? ⟨w.heap.size,5,none⟩=some (.int .i64 p)∧Blk w' w.heap.size 42 (nN 2 a b k s p out za zb W nw cw B nb cb qm qs qz rm rs rz lo hi)∧Below w w w') kM ?_ (fun hS=>?_)
   ·exact ⟨BN.o.drew.cell 3,BN.o.drew.cell 4,BN.o.drew.cell 5,BN.o.drew,FR.u.drew⟩
   refine kH' 0 hS ?_
   refine kH' 1 hS ?_
   refine kH' 2 hS ?_
   refine kH' 3 hS ?_
   refine kH' 4 hS ?_
   refine kH' 5 hS ?_
   refine kH' 6 hS ?_
   refine rH 7 rfl (fun K hK=>?_)
   (rw [if_pos (by rfl)];refine oper_store_one 3 (.tmp 46) (.tmp 41) rfl w3.heap.size 3 (.int .i64 k) rfl rfl rfl rfl _ (nN 2 a 0 0 0 0 0 0 0 W1 n1 c1 B1 n2 c2 0 0 0 0 0 0 0 0) (nN 2 a 0 k 0 0 0 0 0 W1 n1 c1 B1 n2 c2 0 0 0 0 0 0 0 0) BM7.drew sM kM rfl ?_;intro w8 BM8 g8;have BN8:=(hS.2.2.2.1).away g8 oM;refine hK.out _ _ ⟨BN8.cell 3,BN8.cell 4,BN8.cell 5,BN8,(hS.2.2.2.2).grown g8 (hS.2.2.2.2).size (fun k h=>by have:=sI h;omega)⟩ (fun hS=>?_))
   clear hK K
   try simp only [pX]
   refine kH' 8 hS ?_
   refine rH 9 rfl (fun K hK=>?_)
   (rw [if_pos (by rfl)];refine oper_store_one 3 (.tmp 47) (.tmp 43) rfl w3.heap.size 4 (.int .i64 s) rfl rfl rfl rfl _ (nN 2 a 0 k 0 0 0 0 0 W1 n1 c1 B1 n2 c2 0 0 0 0 0 0 0 0) (nN 2 a 0 k s 0 0 0 0 W1 n1 c1 B1 n2 c2 0 0 0 0 0 0 0 0) BM8 sM kM rfl ?_;intro w9 BM9 g9;have BN9:=(hS.2.2.2.1).away g9 oM;refine hK.out _ _ ⟨BN9.cell 3,BN9.cell 4,BN9.cell 5,BN9,(hS.2.2.2.2).grown g9 (hS.2.2.2.2).size (fun k h=>by have:=sI h;omega)⟩ (fun hS=>?_))
   clear hK K
   try simp only [pX]
   refine kH' 10 hS ?_
   refine rH 11 rfl (fun K hK=>?_)
   (rw [if_pos (by rfl)];refine oper_store_one 3 (.tmp 48) (.tmp 45) rfl w3.heap.size 5 (.int .i64 p) rfl rfl rfl rfl _ (nN 2 a 0 k s 0 0 0 0 W1 n1 c1 B1 n2 c2 0 0 0 0 0 0 0 0) (nN 2 a 0 k s p 0 0 0 W1 n1 c1 B1 n2 c2 0 0 0 0 0 0 0 0) BM9 sM kM rfl ?_;intro w10 BM10 g10;have BN10:=(hS.2.2.2.1).away g10 oM;refine hK.out _ _ ⟨BN10.cell 3,BN10.cell 4,BN10.cell 5,BN10,(hS.2.2.2.2).grown g10 (hS.2.2.2.2).size (fun k h=>by have:=sI h;omega)⟩ (fun hS=>?_))
   clear hK K
   try simp only [pX]
   refine wpAnyH_done kM ?_ _
   replace FR:=zH (Far.mk (hS.2.2.2.2))
   replace BN:=zH (hS.2.2.2.1)
   clear hS BN8 BN9 BN10
   replace BR:=zH (BR.o.draw)
   replace NW:=zH (NW.o.draw)
   replace NB:=zH (NB.o.draw)
   replace BR:=zA g8 BR
   replace NW:=zA g8 NW
   replace NB:=zA g8 NB
   clear g8
   replace BR:=zA g9 BR
   replace NW:=zA g9 NW
   replace NB:=zA g9 NB
   clear g9
   replace BR:=zA g10 BR
   replace NW:=zA g10 NW
   replace NB:=zA g10 NB
   clear g10
   clear BM8
   clear BM9
   go_wp2_with fail
   go_meet
   case rel=>exact ⟨_,W1,n1,c1,B1,n2,c2,rfl,BM10,NW.o,NB.o,FR.o,BN.o,BR.o⟩
  ·subst h
   clear HK PM SC
   go_wp2_with fail
   clear cN0
   have lmx:w5.heap.size≤w5.heap.size:=lR _
   have lmy:w3.heap.size < w5.heap.size:=BM5.lt
   refine wp_region_held_drew (S:=fun w'=>w'.cell? ⟨w.heap.size,6,none⟩=some (.int .i64 out)∧w'.cell? ⟨w.heap.size,9,none⟩=some (.slice W nw cw)∧w'.cell? ⟨w.heap.size,10,none⟩=some (.slice B nb cb)∧Blk w' w.heap.size 42 (nN 3 a b k s p out za zb W nw cw B nb cb qm qs qz rm rs rz lo hi)∧Below w w w') kM ?_ (fun hS=>?_)
   ·exact ⟨BN.o.drew.cell 6,BN.o.drew.cell 9,BN.o.drew.cell 10,BN.o.drew,FR.u.drew⟩
   refine kH' 0 hS ?_
   refine kH' 1 hS ?_
   refine kH' 2 hS ?_
   refine kH' 3 hS ?_
   refine kH' 5 hS ?_
   refine kH' 6 hS ?_
   refine kH' 8 hS ?_
   refine rH 4 rfl (fun K hK=>?_)
   go_simp
   refine (eF W nw cw wl _ (HW.o.fut (qB _ _).drew).all oM).mono ?_;rintro e wa ⟨W1,n1,c1,rfl,hs,hb⟩;have SA:=zH hs;have KA:=zH (ai (qB _ _).drew hb (lR _));clear hs
   refine xK hK (zR hb hS) fun hS=>?_
   clear hK K
   refine rH 7 rfl (fun K hK=>?_)
   go_simp
   refine (gl B nb cb bl _ (HB.o.fut KA.o).all oM).mono ?_;rintro e wb ⟨B1,n2,c2,rfl,hs,hb⟩;have SB:=zH hs;have KAB:=zH hb;have KB:=zH (ai KA.o hb KA.o.size);clear hs;have BMb:=zH (BM5.later KB.o)
   refine xK hK (zR hb hS) fun hS=>?_
   clear hK K
   refine rH 9 rfl (fun K hK=>?_)
   (rw [if_pos (by rfl)];refine oper_store_one 3 (.tmp 57) (.tmp 50) rfl w3.heap.size 6 (.int .i64 out) rfl rfl rfl rfl _ (nN 3 a 0 0 0 0 0 0 0 none 0 0 none 0 0 0 0 0 0 0 0 0 0) (nN 3 a 0 0 0 0 out 0 0 none 0 0 none 0 0 0 0 0 0 0 0 0 0) BMb.o sM kM rfl ?_;intro w6 BM6 g6;have BN6:=(hS.2.2.2.1).away g6 oM;refine hK.out _ _ ⟨BN6.cell 6,BN6.cell 9,BN6.cell 10,BN6,(hS.2.2.2.2).grown g6 (hS.2.2.2.2).size (fun k h=>by have:=sI h;omega)⟩ (fun hS=>?_))
   clear hK K
   try simp only [pX]
   refine kH' 10 hS ?_
   refine rH 11 rfl (fun K hK=>?_)
   (rw [if_pos (by rfl)];refine oper_store_one 25 (.tmp 58) (.tmp 53) rfl w3.heap.size 9 (.slice W1 n1 c1) rfl rfl rfl rfl _ (nN 3 a 0 0 0 0 out 0 0 none 0 0 none 0 0 0 0 0 0 0 0 0 0) (nN 3 a 0 0 0 0 out 0 0 W1 n1 c1 none 0 0 0 0 0 0 0 0 0 0) BM6 sM kM rfl ?_;intro w7 BM7 g7;have BN7:=(hS.2.2.2.1).away g7 oM;refine hK.out _ _ ⟨BN7.cell 6,BN7.cell 9,BN7.cell 10,BN7,(hS.2.2.2.2).grown g7 (hS.2.2.2.2).size (fun k h=>by have:=sI h;omega)⟩ (fun hS=>?_))
   clear hK K
   try simp only [pX]
   refine kH' 12 hS ?_
   refine rH 13 rfl (fun K hK=>?_)
   (rw [if_pos (by rfl)];refine oper_store_one 38 (.tmp 59) (.tmp 56) rfl w3.heap.size 10 (.slice B1 n2 c2) rfl rfl rfl rfl _ (nN 3 a 0 0 0 0 out 0 0 W1 n1 c1 none 0 0 0 0 0 0 0 0 0 0) (nN 3 a 0 0 0 0 out 0 0 W1 n1 c1 B1 n2 c2 0 0 0 0 0 0 0 0) BM7 sM kM rfl ?_;intro w8 BM8 g8;have BN8:=(hS.2.2.2.1).away g8 oM;refine hK.out _ _ ⟨BN8.cell 6,BN8.cell 9,BN8.cell 10,BN8,(hS.2.2.2.2).grown g8 (hS.2.2.2.2).size (fun k h=>by have:=sI h;omega)⟩ (fun hS=>?_))
   clear hK K
   try simp only [pX]
   refine wpAnyH_done kM ?_ _
   replace FR:=zH (Far.mk (hS.2.2.2.2))
   replace BN:=zH (hS.2.2.2.1)
   clear hS BN6 BN7 BN8
   have NW:=zH (New.mk (w0:=w5) ((SA.o.below KAB.o (fun _ h=>h.2)).more (fun x hx=>⟨lT lmx hx.1,Nat.lt_of_lt_of_le hx.2 KAB.o.size⟩)))
   have NB:=zH (New.mk (w0:=w5) (SB.o.more (fun x hx=>⟨lT (lT lmx (show w5.heap.size≤wa.heap.size from KA.o.size)) hx.1,hx.2⟩)))
   replace BR:=zH (BR.o.fut KB.o)
   clear SA SB KAB KA hb KB HW HB BMb BM5
   replace BR:=zA g6 BR
   replace NW:=zA g6 NW
   replace NB:=zA g6 NB
   clear g6
   replace BR:=zA g7 BR
   replace NW:=zA g7 NW
   replace NB:=zA g7 NB
   clear g7
   replace BR:=zA g8 BR
   replace NW:=zA g8 NW
   replace NB:=zA g8 NB
   clear g8
   clear BM6
   clear BM7
   go_wp2_with fail
   go_meet
   case rel=>exact ⟨_,W1,n1,c1,B1,n2,c2,rfl,BM8,NW.o,NB.o,FR.o,BN.o,BR.o⟩
  ·subst h
   clear HK PM SC
   go_wp2_with fail
   clear cN0
   refine wp_region_held_drew (S:=fun w'=>w'.cell? ⟨w.heap.size,3,none⟩=some (.int .i64 k)∧w'.cell? ⟨w.heap.size,4,none⟩=some (.int .i64 s)∧w'.cell? ⟨w.heap.size,5,none⟩=some (.int .i64 p)∧Blk w' w.heap.size 42 (nN 4 a b k s p out za zb W nw cw B nb cb qm qs qz rm rs rz lo hi)∧Below w w w') kM ?_ (fun hS=>?_)
   ·exact ⟨BN.o.drew.cell 3,BN.o.drew.cell 4,BN.o.drew.cell 5,BN.o.drew,FR.u.drew⟩
   refine kH' 0 hS ?_
   refine kH' 1 hS ?_
   refine kH' 2 hS ?_
   refine kH' 3 hS ?_
   refine kH' 4 hS ?_
   refine kH' 5 hS ?_
   refine kH' 6 hS ?_
   refine rH 7 rfl (fun K hK=>?_)
   (rw [if_pos (by rfl)];refine oper_store_one 3 (.tmp 46) (.tmp 41) rfl w3.heap.size 3 (.int .i64 k) rfl rfl rfl rfl _ (nN 4 a 0 0 0 0 0 0 0 none 0 0 none 0 0 0 0 0 0 0 0 0 0) (nN 4 a 0 k 0 0 0 0 0 none 0 0 none 0 0 0 0 0 0 0 0 0 0) BM5.drew sM kM rfl ?_;intro w6 BM6 g6;have BN6:=(hS.2.2.2.1).away g6 oM;refine hK.out _ _ ⟨BN6.cell 3,BN6.cell 4,BN6.cell 5,BN6,(hS.2.2.2.2).grown g6 (hS.2.2.2.2).size (fun k h=>by have:=sI h;omega)⟩ (fun hS=>?_))
   clear hK K
   try simp only [pX]
   refine kH' 8 hS ?_
   refine rH 9 rfl (fun K hK=>?_)
   (rw [if_pos (by rfl)];refine oper_store_one 3 (.tmp 47) (.tmp 43) rfl w3.heap.size 4 (.int .i64 s) rfl rfl rfl rfl _ (nN 4 a 0 k 0 0 0 0 0 none 0 0 none 0 0 0 0 0 0 0 0 0 0) (nN 4 a 0 k s 0 0 0 0 none 0 0 none 0 0 0 0 0 0 0 0 0 0) BM6 sM kM rfl ?_;intro w7 BM7 g7;have BN7:=(hS.2.2.2.1).away g7 oM;refine hK.out _ _ ⟨BN7.cell 3,BN7.cell 4,BN7.cell 5,BN7,(hS.2.2.2.2).grown g7 (hS.2.2.2.2).size (fun k h=>by have:=sI h;omega)⟩ (fun hS=>?_))
   clear hK K
   try simp only [pX]
   refine kH' 10 hS ?_
   refine rH 11 rfl (fun K hK=>?_)
   (rw [if_pos (by rfl)];refine oper_store_one 3 (.tmp 48) (.tmp 45) rfl w3.heap.size 5 (.int .i64 p) rfl rfl rfl rfl _ (nN 4 a 0 k s 0 0 0 0 none 0 0 none 0 0 0 0 0 0 0 0 0 0) (nN 4 a 0 k s p 0 0 0 none 0 0 none 0 0 0 0 0 0 0 0 0 0) BM7 sM kM rfl ?_;intro w8 BM8 g8;have BN8:=(hS.2.2.2.1).away g8 oM;refine hK.out _ _ ⟨BN8.cell 3,BN8.cell 4,BN8.cell 5,BN8,(hS.2.2.2.2).grown g8 (hS.2.2.2.2).size (fun k h=>by have:=sI h;omega)⟩ (fun hS=>?_))
   clear hK K
   try simp only [pX]
   refine wpAnyH_done kM ?_ _
   replace FR:=zH (Far.mk (hS.2.2.2.2))
   replace BN:=zH (hS.2.2.2.1)
   clear hS BN6 BN7 BN8
   replace HW:=zH (HW.o.draw)
   replace HB:=zH (HB.o.draw)
   replace BR:=zH (BR.o.draw)
   replace HW:=zA g6 HW
   replace HB:=zA g6 HB
   replace BR:=zA g6 BR
   clear g6
   replace HW:=zA g7 HW
   replace HB:=zA g7 HB
   replace BR:=zA g7 BR
   clear g7
   replace HW:=zA g8 HW
   replace HB:=zA g8 HB
   replace BR:=zA g8 BR
   clear g8
   clear BM6
   clear BM7
   go_wp2_with fail
   go_meet
   case rel=>exact ⟨_,none,0,0,none,0,0,rfl,BM8,New.nil _ _ _,New.nil _ _ _,FR.o,BN.o,BR.o⟩
  ·subst h
   clear HK PM SC
   go_wp2_with fail
   clear cN0
   refine wp_region_held_drew (S:=fun w'=>w'.cell? ⟨w.heap.size,3,none⟩=some (.int .i64 k)∧w'.cell? ⟨w.heap.size,4,none⟩=some (.int .i64 s)∧w'.cell? ⟨w.heap.size,5,none⟩=some (.int .i64 p)∧Blk w' w.heap.size 42 (nN 5 a b k s p out za zb W nw cw B nb cb qm qs qz rm rs rz lo hi)∧Below w w w') kM ?_ (fun hS=>?_)
   ·exact ⟨BN.o.drew.cell 3,BN.o.drew.cell 4,BN.o.drew.cell 5,BN.o.drew,FR.u.drew⟩
   refine kH' 0 hS ?_
   refine kH' 1 hS ?_
   refine kH' 2 hS ?_
   refine kH' 3 hS ?_
   refine kH' 4 hS ?_
   refine kH' 5 hS ?_
   refine kH' 6 hS ?_
   refine rH 7 rfl (fun K hK=>?_)
   (rw [if_pos (by rfl)];refine oper_store_one 3 (.tmp 46) (.tmp 41) rfl w3.heap.size 3 (.int .i64 k) rfl rfl rfl rfl _ (nN 5 a 0 0 0 0 0 0 0 none 0 0 none 0 0 0 0 0 0 0 0 0 0) (nN 5 a 0 k 0 0 0 0 0 none 0 0 none 0 0 0 0 0 0 0 0 0 0) BM5.drew sM kM rfl ?_;intro w6 BM6 g6;have BN6:=(hS.2.2.2.1).away g6 oM;refine hK.out _ _ ⟨BN6.cell 3,BN6.cell 4,BN6.cell 5,BN6,(hS.2.2.2.2).grown g6 (hS.2.2.2.2).size (fun k h=>by have:=sI h;omega)⟩ (fun hS=>?_))
   clear hK K
   try simp only [pX]
   refine kH' 8 hS ?_
   refine rH 9 rfl (fun K hK=>?_)
   (rw [if_pos (by rfl)];refine oper_store_one 3 (.tmp 47) (.tmp 43) rfl w3.heap.size 4 (.int .i64 s) rfl rfl rfl rfl _ (nN 5 a 0 k 0 0 0 0 0 none 0 0 none 0 0 0 0 0 0 0 0 0 0) (nN 5 a 0 k s 0 0 0 0 none 0 0 none 0 0 0 0 0 0 0 0 0 0) BM6 sM kM rfl ?_;intro w7 BM7 g7;have BN7:=(hS.2.2.2.1).away g7 oM;refine hK.out _ _ ⟨BN7.cell 3,BN7.cell 4,BN7.cell 5,BN7,(hS.2.2.2.2).grown g7 (hS.2.2.2.2).size (fun k h=>by have:=sI h;omega)⟩ (fun hS=>?_))
   clear hK K
   try simp only [pX]
   refine kH' 10 hS ?_
   refine rH 11 rfl (fun K hK=>?_)
   (rw [if_pos (by rfl)];refine oper_store_one 3 (.tmp 48) (.tmp 45) rfl w3.heap.size 5 (.int .i64 p) rfl rfl rfl rfl _ (nN 5 a 0 k s 0 0 0 0 none 0 0 none 0 0 0 0 0 0 0 0 0 0) (nN 5 a 0 k s p 0 0 0 none 0 0 none 0 0 0 0 0 0 0 0 0 0) BM7 sM kM rfl ?_;intro w8 BM8 g8;have BN8:=(hS.2.2.2.1).away g8 oM;refine hK.out _ _ ⟨BN8.cell 3,BN8.cell 4,BN8.cell 5,BN8,(hS.2.2.2.2).grown g8 (hS.2.2.2.2).size (fun k h=>by have:=sI h;omega)⟩ (fun hS=>?_))
   clear hK K
   try simp only [pX]
   refine wpAnyH_done kM ?_ _
   replace FR:=zH (Far.mk (hS.2.2.2.2))
   replace BN:=zH (hS.2.2.2.1)
   clear hS BN6 BN7 BN8
   replace HW:=zH (HW.o.draw)
   replace HB:=zH (HB.o.draw)
   replace BR:=zH (BR.o.draw)
   replace HW:=zA g6 HW
   replace HB:=zA g6 HB
   replace BR:=zA g6 BR
   clear g6
   replace HW:=zA g7 HW
   replace HB:=zA g7 HB
   replace BR:=zA g7 BR
   clear g7
   replace HW:=zA g8 HW
   replace HB:=zA g8 HB
   replace BR:=zA g8 BR
   clear g8
   clear BM6
   clear BM7
   go_wp2_with fail
   go_meet
   case rel=>exact ⟨_,none,0,0,none,0,0,rfl,BM8,New.nil _ _ _,New.nil _ _ _,FR.o,BN.o,BR.o⟩
  ·subst h
   clear HK PM SC
   go_wp2_with fail
   clear cN0
   refine wp_region_held_drew (S:=fun w'=>w'.cell? ⟨w.heap.size,2,none⟩=some (.int .i64 b)∧w'.cell? ⟨w.heap.size,8,none⟩=some (.int .i8 zb)∧w'.cell? ⟨w.heap.size,14,none⟩=some (.int .i32 rm)∧w'.cell? ⟨w.heap.size,15,none⟩=some (.int .i64 rs)∧Blk w' w.heap.size 42 (nN 6 a b k s p out za zb W nw cw B nb cb qm qs qz rm rs rz lo hi)∧Below w w w') kM ?_ (fun hS=>?_)
   ·exact ⟨BN.o.drew.cell 2,BN.o.drew.cell 8,BN.o.drew.cell 14,BN.o.drew.cell 15,BN.o.drew,FR.u.drew⟩
   refine kH' 0 hS ?_
   refine kH' 1 hS ?_
   refine kH' 2 hS ?_
   refine kH' 3 hS ?_
   refine kH' 4 hS ?_
   refine kH' 5 hS ?_
   refine kH' 6 hS ?_
   refine kH' 7 hS ?_
   refine kH' 8 hS ?_
   refine kH' 9 hS ?_
   refine kH' 10 hS ?_
   refine kH' 11 hS ?_
   refine rH 12 rfl (fun K hK=>?_)
   (rw [if_pos (by rfl)];refine oper_store_one 3 (.tmp 71) (.tmp 61) rfl w3.heap.size 2 (.int .i64 b) rfl rfl rfl rfl _ (nN 6 a 0 0 0 0 0 0 0 none 0 0 none 0 0 0 0 0 0 0 0 0 0) (nN 6 a b 0 0 0 0 0 0 none 0 0 none 0 0 0 0 0 0 0 0 0 0) BM5.drew sM kM rfl ?_;intro w6 BM6 g6;have BN6:=(hS.2.2.2.2.1).away g6 oM;refine hK.out _ _ ⟨BN6.cell 2,BN6.cell 8,BN6.cell 14,BN6.cell 15,BN6,(hS.2.2.2.2.2).grown g6 (hS.2.2.2.2.2).size (fun k h=>by have:=sI h;omega)⟩ (fun hS=>?_))
   clear hK K
   try simp only [pX]
   refine kH' 13 hS ?_
   refine rH 14 rfl (fun K hK=>?_)
   (rw [if_pos (by rfl)];refine oper_store_one 37 (.tmp 72) (.tmp 63) rfl w3.heap.size 8 (.int .i8 zb) rfl rfl rfl rfl _ (nN 6 a b 0 0 0 0 0 0 none 0 0 none 0 0 0 0 0 0 0 0 0 0) (nN 6 a b 0 0 0 0 0 zb none 0 0 none 0 0 0 0 0 0 0 0 0 0) BM6 sM kM rfl ?_;intro w7 BM7 g7;have BN7:=(hS.2.2.2.2.1).away g7 oM;refine hK.out _ _ ⟨BN7.cell 2,BN7.cell 8,BN7.cell 14,BN7.cell 15,BN7,(hS.2.2.2.2.2).grown g7 (hS.2.2.2.2.2).size (fun k h=>by have:=sI h;omega)⟩ (fun hS=>?_))
   clear hK K
   try simp only [pX]
   refine kH' 15 hS ?_
   refine rH 16 rfl (fun K hK=>?_)
   (rw [if_pos (by rfl)];refine oper_store_blk 40 (.tmp 73) (.tmp 70) rfl w3.heap.size 14 #[.int .i32 rm,.int .i64 rs,.int .i8 0] rfl rfl _ (nN 6 a b 0 0 0 0 0 zb none 0 0 none 0 0 0 0 0 0 0 0 0 0) (nN 6 a b 0 0 0 0 0 zb none 0 0 none 0 0 0 0 0 rm rs 0 0 0) BM7 sM kM (by simp [Value.oneCell']) rfl ?_;intro w8 BM8 g8;have BN8:=(hS.2.2.2.2.1).away g8 oM;refine hK.out _ _ ⟨BN8.cell 2,BN8.cell 8,BN8.cell 14,BN8.cell 15,BN8,(hS.2.2.2.2.2).grown g8 (hS.2.2.2.2.2).size (fun k h=>by have:=sI h;omega)⟩ (fun hS=>?_))
   clear hK K
   try simp only [pX]
   refine wpAnyH_done kM ?_ _
   replace FR:=zH (Far.mk (hS.2.2.2.2.2))
   replace BN:=zH (hS.2.2.2.2.1)
   clear hS BN6 BN7 BN8
   replace HW:=zH (HW.o.draw)
   replace HB:=zH (HB.o.draw)
   replace BR:=zH (BR.o.draw)
   replace HW:=zA g6 HW
   replace HB:=zA g6 HB
   replace BR:=zA g6 BR
   clear g6
   replace HW:=zA g7 HW
   replace HB:=zA g7 HB
   replace BR:=zA g7 BR
   clear g7
   replace HW:=zA g8 HW
   replace HB:=zA g8 HB
   replace BR:=zA g8 BR
   clear g8
   clear BM6
   clear BM7
   go_wp2_with fail
   go_meet
   case rel=>exact ⟨_,none,0,0,none,0,0,rfl,BM8,New.nil _ _ _,New.nil _ _ _,FR.o,BN.o,BR.o⟩
  ·subst h
   clear HK PM SC
   go_wp2_with fail
   go_meet
   case rel=>exact ⟨_,none,0,0,none,0,0,rfl,BM5,New.nil _ _ _,New.nil _ _ _,FR.o,BN.o,BR.o⟩
  ·subst h
   clear HK PM SC
   go_wp2_with fail
   clear cN0
   refine wp_region_held_drew (S:=fun w'=>w'.cell? ⟨w.heap.size,5,none⟩=some (.int .i64 p)∧w'.cell? ⟨w.heap.size,7,none⟩=some (.int .i8 za)∧Blk w' w.heap.size 42 (nN 8 a b k s p out za zb W nw cw B nb cb qm qs qz rm rs rz lo hi)∧Below w w w') kM ?_ (fun hS=>?_)
   ·exact ⟨BN.o.drew.cell 5,BN.o.drew.cell 7,BN.o.drew,FR.u.drew⟩
   refine kH' 0 hS ?_
   refine kH' 1 hS ?_
   refine kH' 2 hS ?_
   refine kH' 3 hS ?_
   refine kH' 4 hS ?_
   refine rH 5 rfl (fun K hK=>?_)
   (rw [if_pos (by rfl)];refine oper_store_one 3 (.tmp 78) (.tmp 75) rfl w3.heap.size 5 (.int .i64 p) rfl rfl rfl rfl _ (nN 8 a 0 0 0 0 0 0 0 none 0 0 none 0 0 0 0 0 0 0 0 0 0) (nN 8 a 0 0 0 p 0 0 0 none 0 0 none 0 0 0 0 0 0 0 0 0 0) BM5.drew sM kM rfl ?_;intro w6 BM6 g6;have BN6:=(hS.2.2.1).away g6 oM;refine hK.out _ _ ⟨BN6.cell 5,BN6.cell 7,BN6,(hS.2.2.2).grown g6 (hS.2.2.2).size (fun k h=>by have:=sI h;omega)⟩ (fun hS=>?_))
   clear hK K
   try simp only [pX]
   refine kH' 6 hS ?_
   refine rH 7 rfl (fun K hK=>?_)
   (rw [if_pos (by rfl)];refine oper_store_one 37 (.tmp 79) (.tmp 77) rfl w3.heap.size 7 (.int .i8 za) rfl rfl rfl rfl _ (nN 8 a 0 0 0 p 0 0 0 none 0 0 none 0 0 0 0 0 0 0 0 0 0) (nN 8 a 0 0 0 p 0 za 0 none 0 0 none 0 0 0 0 0 0 0 0 0 0) BM6 sM kM rfl ?_;intro w7 BM7 g7;have BN7:=(hS.2.2.1).away g7 oM;refine hK.out _ _ ⟨BN7.cell 5,BN7.cell 7,BN7,(hS.2.2.2).grown g7 (hS.2.2.2).size (fun k h=>by have:=sI h;omega)⟩ (fun hS=>?_))
   clear hK K
   try simp only [pX]
   refine wpAnyH_done kM ?_ _
   replace FR:=zH (Far.mk (hS.2.2.2))
   replace BN:=zH (hS.2.2.1)
   clear hS BN6 BN7
   replace HW:=zH (HW.o.draw)
   replace HB:=zH (HB.o.draw)
   replace BR:=zH (BR.o.draw)
   replace HW:=zA g6 HW
   replace HB:=zA g6 HB
   replace BR:=zA g6 BR
   clear g6
   replace HW:=zA g7 HW
   replace HB:=zA g7 HB
   replace BR:=zA g7 BR
   clear g7
   clear BM6
   go_wp2_with fail
   go_meet
   case rel=>exact ⟨_,none,0,0,none,0,0,rfl,BM7,New.nil _ _ _,New.nil _ _ _,FR.o,BN.o,BR.o⟩
  ·subst h
   clear HK PM SC
   go_wp2_with fail
   go_meet
   case rel=>exact ⟨_,none,0,0,none,0,0,rfl,BM5,New.nil _ _ _,New.nil _ _ _,FR.o,BN.o,BR.o⟩
 case rest =>
 obtain ⟨m,W1,n1,c1,B1,n2,c2,hm,hM,hnw,hnb,hf,hn,hr⟩:=hcut
 rw [hm] at PM
 have BMw:=zH hM
 have NW:=zH hnw
 have NB:=zH hnb
 replace FR:=zH hf
 replace BN:=zH hn
 replace BR:=zH hr
 clear hm hM hnw hnb hf hn hr HW HB BM5 cN0
 obtain ⟨wd,hwd⟩:∃ x,x=wc:=⟨_,rfl⟩
 subst hwd
 have cN0:=BN.o.cell 0
 obtain ⟨sc,hsc⟩:∃ x,aA kind=x:=⟨_,rfl⟩
 simp only [hsc] at SC PM
 have g5:w1.heap.size < w5.heap.size:=oM
 clear hsc
 cases sc with
 | false =>
  have E:=zH (PM.o.trans (if_neg dM))
  go_wp2_with (first
   | (go_at_call 80;refine (SC.o _).mono ?_;rintro e w' ⟨rfl,rfl⟩)
   | (refine lGJ19 BMw.o ?_)
   | (refine sGJ19 (nD m W1 n1 c1 B1 n2 c2) BR.o ?_;intro wz BZ gz))
  replace FR:=zH (FR.o.away gz (by have:=lr0.out;omega))
  replace NW:=zA gz NW
  replace NB:=zA gz NB
  refine ret_cell rfl BZ rfl underlying42 kM rfl ?_
  rw [E.o]
  exact ⟨W1,n1,c1,B1,n2,c2,rfl,NW.o.out.more (fun x hx=>⟨by have:=hx.1;omega,hx.2⟩),NB.o.out.more (fun x hx=>⟨by have:=hx.1;omega,hx.2⟩),FR.u⟩
 | true =>
  have E:=zH (PM.o.trans (if_pos rfl))
  go_wp2_with (go_at_call 80;refine (SC.o _).mono ?_;rintro e w' ⟨rfl,rfl⟩)
  clear cN0
  refine wp_region_held_drew (S:=fun w'=>w'.cell? ⟨w.heap.size,7,none⟩=some (.int .i8 za)∧w'.cell? ⟨w.heap.size,17,none⟩=some (.int .i8 lo)∧w'.cell? ⟨w.heap.size,18,none⟩=some (.int .i8 hi)∧Blk w' w.heap.size 42 (nN kind a b k s p out za zb W nw cw B nb cb qm qs qz rm rs rz lo hi)∧Below w w w') kM ?_ (fun hS=>?_)
  ·exact ⟨BN.o.drew.cell 7,BN.o.drew.cell 17,BN.o.drew.cell 18,BN.o.drew,FR.u.drew⟩
  refine kH' 0 hS ?_
  refine kH' 1 hS ?_
  refine kH' 2 hS ?_
  refine tkH 3 rfl (yP #[.int .i32 qm,.int .i64 qs,.int .i8 qz] (fun w hs=>hs.2.2.2.1)) hS ?_
  try simp only [pX]
  refine kH' 4 hS ?_
  refine kH' 5 hS ?_
  refine kH' 6 hS ?_
  refine kH' 7 hS ?_
  refine kH' 8 hS ?_
  refine rH 9 rfl (fun K hK=>?_)
  (rw [if_pos (by rfl)];refine oper_store_one 37 (.tmp 91) (.tmp 84) rfl w3.heap.size 7 (.int .i8 za) rfl rfl rfl rfl _ (nD m W1 n1 c1 B1 n2 c2) (nN m.kind m.a m.b m.k m.s m.p m.out za m.zb W1 n1 c1 B1 n2 c2 m.qm m.qs m.qz m.rm m.rs m.rz m.lo m.hi) BMw.o.drew sM kM rfl ?_;intro w11 BM11 g11;have BN11:=(hS.2.2.2.1).away g11 oM;refine hK.out _ _ ⟨BN11.cell 7,BN11.cell 17,BN11.cell 18,BN11,(hS.2.2.2.2).grown g11 (hS.2.2.2.2).size (fun k h=>by have:=sI h;omega)⟩ (fun hS=>?_))
  clear hK K
  try simp only [pX]
  refine kH' 10 hS ?_
  refine rH 11 rfl (fun K hK=>?_)
  (rw [if_pos (by rfl)];refine oper_store_blk 40 (.tmp 92) (.tmp 86) rfl w3.heap.size 11 #[.int .i32 qm,.int .i64 qs,.int .i8 qz] rfl rfl _ (nN m.kind m.a m.b m.k m.s m.p m.out za m.zb W1 n1 c1 B1 n2 c2 m.qm m.qs m.qz m.rm m.rs m.rz m.lo m.hi) (nN m.kind m.a m.b m.k m.s m.p m.out za m.zb W1 n1 c1 B1 n2 c2 qm qs qz m.rm m.rs m.rz m.lo m.hi) BM11 sM kM (by simp [Value.oneCell']) rfl ?_;intro w12 BM12 g12;have BN12:=(hS.2.2.2.1).away g12 oM;refine hK.out _ _ ⟨BN12.cell 7,BN12.cell 17,BN12.cell 18,BN12,(hS.2.2.2.2).grown g12 (hS.2.2.2.2).size (fun k h=>by have:=sI h;omega)⟩ (fun hS=>?_))
  clear hK K
  try simp only [pX]
  refine kH' 12 hS ?_
  refine rH 13 rfl (fun K hK=>?_)
  (rw [if_pos (by rfl)];refine oper_store_one 37 (.tmp 93) (.tmp 88) rfl w3.heap.size 17 (.int .i8 lo) rfl rfl rfl rfl _ (nN m.kind m.a m.b m.k m.s m.p m.out za m.zb W1 n1 c1 B1 n2 c2 qm qs qz m.rm m.rs m.rz m.lo m.hi) (nN m.kind m.a m.b m.k m.s m.p m.out za m.zb W1 n1 c1 B1 n2 c2 qm qs qz m.rm m.rs m.rz lo m.hi) BM12 sM kM rfl ?_;intro w13 BM13 g13;have BN13:=(hS.2.2.2.1).away g13 oM;refine hK.out _ _ ⟨BN13.cell 7,BN13.cell 17,BN13.cell 18,BN13,(hS.2.2.2.2).grown g13 (hS.2.2.2.2).size (fun k h=>by have:=sI h;omega)⟩ (fun hS=>?_))
  clear hK K
  try simp only [pX]
  refine kH' 14 hS ?_
  refine rH 15 rfl (fun K hK=>?_)
  (rw [if_pos (by rfl)];refine oper_store_one 37 (.tmp 94) (.tmp 90) rfl w3.heap.size 18 (.int .i8 hi) rfl rfl rfl rfl _ (nN m.kind m.a m.b m.k m.s m.p m.out za m.zb W1 n1 c1 B1 n2 c2 qm qs qz m.rm m.rs m.rz lo m.hi) (nN m.kind m.a m.b m.k m.s m.p m.out za m.zb W1 n1 c1 B1 n2 c2 qm qs qz m.rm m.rs m.rz lo hi) BM13 sM kM rfl ?_;intro w14 BM14 g14;have BN14:=(hS.2.2.2.1).away g14 oM;refine hK.out _ _ ⟨BN14.cell 7,BN14.cell 17,BN14.cell 18,BN14,(hS.2.2.2.2).grown g14 (hS.2.2.2.2).size (fun k h=>by have:=sI h;omega)⟩ (fun hS=>?_))
  clear hK K
  try simp only [pX]
  refine wpAnyH_done kM ?_ _
  replace FR:=zH (Far.mk (hS.2.2.2.2))
  replace BR:=zH (BR.o.draw)
  replace NW:=zH (NW.o.draw)
  replace NB:=zH (NB.o.draw)
  replace BR:=zA g11 BR
  replace NW:=zA g11 NW
  replace NB:=zA g11 NB
  replace BR:=zA g12 BR
  replace NW:=zA g12 NW
  replace NB:=zA g12 NB
  replace BR:=zA g13 BR
  replace NW:=zA g13 NW
  replace NB:=zA g13 NB
  replace BR:=zA g14 BR
  replace NW:=zA g14 NW
  replace NB:=zA g14 NB
  clear hS BN11 g11 BN12 g12 BN13 g13 BN14 g14 BM11 BM12 BM13
  go_wp2_with (first
   | (refine lGJ19 BM14 ?_)
   | (refine sGJ19 (nN m.kind m.a m.b m.k m.s m.p m.out za m.zb W1 n1 c1 B1 n2 c2 qm qs qz m.rm m.rs m.rz lo hi) BR.o ?_;intro wz BZ gz))
  replace FR:=zH (FR.o.away gz (by have:=lr0.out;omega))
  replace NW:=zA gz NW
  replace NB:=zA gz NB
  refine ret_cell rfl BZ rfl underlying42 kM rfl ?_
  rw [E.o]
  exact ⟨W1,n1,c1,B1,n2,c2,rfl,NW.o.out.more (fun x hx=>⟨by have:=hx.1;omega,hx.2⟩),NB.o.out.more (fun x hx=>⟨by have:=hx.1;omega,hx.2⟩),FR.u⟩
end Go.Proofs.YtmihnoagagbgaaaGreat
