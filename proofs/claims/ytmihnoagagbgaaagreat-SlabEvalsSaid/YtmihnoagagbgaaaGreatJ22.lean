/-
  Sums by rows that are slid over (layer 16): the walk of lane.line, of which lane.Of's rows are made.
  The shape that a node makes (layers 18, 25): dense.Shape.
-/
import Derived.Test.YtmihnoagagbgaaaGreatJ19
set_option linter.unusedVariables false
set_option linter.unusedSimpArgs false
set_option maxRecDepth 100000
set_option maxHeartbeats 16000000
namespace Go.Proofs.YtmihnoagagbgaaaGreat
open Go.RowKit Go.ChangeShapes Go.WideShapes Fx Tryz
set_option maxRecDepth 100000
set_option maxHeartbeats 16000000
theorem ur (H V C P:Nat) (A:QA) (n cap:Nat) (l:List Int) (d:af) (W:QA) (nw cw:Nat) (B:QA) (nb cb:Nat) (h o:Nat) (w:World)
  (hl:xA w A n cap l) (hwl:xA w W nw cw d.w) (hn:n=H*V*C) (hn2:n≤1048576) (hV:V≤1048576) (hC1:1≤C) (hC:C≤341) (hp:d.p=P) (hP:P≤4) (hz:InK .i8 d.za)
  (hh:h≤1000000) (hH:H≤1048576) (ho:o≤1024) (hnw:(o+1)*(9*C)≤nw) (hm:V+2*P≤1000000) :
  Calls prog 154 #[.agg #[.int .i64 H,.int .i64 V,.int .i64 C,.slice A n cap,.int .i64 d.kind,.int .i64 d.a,.int .i64 d.b,.int .i64 d.k,.int .i64 d.s,.int .i64 d.p,.int .i64 d.out,.int .i8 d.za,.int .i8 d.zb,.slice W nw cw,.slice B nb cb,.int .i32 d.qm,.int .i64 d.qs,.int .i8 d.qz,.int .i32 d.rm,.int .i64 d.rs,.int .i8 d.rz,.int .i8 d.lo,.int .i8 d.hi],.int .i64 h,.int .i64 o] w (RetSl (aa .i64) w (iG (ly H V C l d.za P h) (lA d.w C o) (V+2*P) (3*C))):=by
 have FR:=zW w
 have OL:=zH (Old.now hl)
 have OW:=zH (Old.now hwl)
 obtain ⟨w1,yw1,BA,yk1⟩:=nB w #[.int .i64 H,.int .i64 V,.int .i64 C,.slice A n cap,.int .i64 d.kind,.int .i64 d.a,.int .i64 d.b,.int .i64 d.k,.int .i64 d.s,.int .i64 d.p,.int .i64 d.out,.int .i8 d.za,.int .i8 d.zb,.slice W nw cw,.slice B nb cb,.int .i32 d.qm,.int .i64 d.qs,.int .i8 d.qz,.int .i32 d.rm,.int .i64 d.rs,.int .i8 d.rz,.int .i8 d.lo,.int .i8 d.hi] 192
 obtain ⟨FR,OL,OW⟩:=uz3 yk1 FR OL OW
 clear yk1
 have c2:=BA.o.cell 2
 have HN:=zH hn
 have HP:=zH hp
 have HNW:=zH hnw
 have HZ:=zH hz
 have l1:w1.heap.size=w.heap.size+1:=by rw [← yw1];simp
 have LI:=zH (show ez w1.heap.size ((List.range 0).map fun r:Nat=>eQ H V C l d.za P ((h+r / C:Nat) - P) (r % C)) ((List.range 0).map fun r:Nat=>jd d.w C o (r / C) (r % C)) 0 (.slice none 0 0) (.slice none 0 0) w1 from ⟨Own.nil _ _ _ _ _,Own.nil _ _ _ _ _,.inl rfl⟩)
 clear hn hp hnw hz hl hwl
 go_in
 go_wp2_with fail
 clear yw1 c2
 obtain ⟨g0,e0⟩:∃ m,w.heap.size=m:=⟨_,rfl⟩
 obtain ⟨g1,e1⟩:∃ m,w1.heap.size=m:=⟨_,rfl⟩
 rw [e0,e1] at l1
 rw [e0] at BA
 rw [e1] at LI
 rw [e0]
 have lwg:w.heap.size≤g1:=oM
 go_loopw [7,8,11] (fun u v ii wr=>∃ i:Nat,i≤3∧ii=.int .i64 i∧Far w wr∧Old w (aa .i8) wr A n cap l∧Old w (aa .i8) wr W nw cw d.w∧Blk wr g0 192 #[.int .i64 H,.int .i64 V,.int .i64 C,.slice A n cap,.int .i64 d.kind,.int .i64 d.a,.int .i64 d.b,.int .i64 d.k,.int .i64 d.s,.int .i64 d.p,.int .i64 d.out,.int .i8 d.za,.int .i8 d.zb,.slice W nw cw,.slice B nb cb,.int .i32 d.qm,.int .i64 d.qs,.int .i8 d.qz,.int .i32 d.rm,.int .i64 d.rs,.int .i8 d.rz,.int .i8 d.lo,.int .i8 d.hi] ∧
   ez g1 ((List.range (i*C)).map fun r:Nat=>eQ H V C l d.za P ((h+r / C:Nat) - P) (r % C)) ((List.range (i*C)).map fun r:Nat=>jd d.w C o (r / C) (r % C)) (i*C) u v wr) (fun _ _ ii _=>3 - (intOf ii).toNat)
 case atStart=>exact ⟨0,zl _,rfl,FR.o,OL.o,OW.o,BA.o,by rw [Nat.zero_mul];exact LI.o⟩
 case round =>
  obtain ⟨i,hi,rfl,hf,hol,how,hba,hli⟩:=hrel
  clear FR OL OW BA LI
  have FR:=zH hf
  have OL:=zH hol
  have OW:=zH how
  have BA:=zH hba
  have LI:=zH hli
  clear hf hol how hba hli
  by_cases hlt:i < 3
  ·have p1:(i:Int) < 3:=oM
   have c2:=BA.o.cell 2
   go_wp2_with fail
   clear c2
   go_loopw [7,8,18] (fun u v ii wr=>∃ c:Nat,c≤C∧ii=.int .i64 c∧Far w wr∧Old w (aa .i8) wr A n cap l∧Old w (aa .i8) wr W nw cw d.w∧Blk wr g0 192 #[.int .i64 H,.int .i64 V,.int .i64 C,.slice A n cap,.int .i64 d.kind,.int .i64 d.a,.int .i64 d.b,.int .i64 d.k,.int .i64 d.s,.int .i64 d.p,.int .i64 d.out,.int .i8 d.za,.int .i8 d.zb,.slice W nw cw,.slice B nb cb,.int .i32 d.qm,.int .i64 d.qs,.int .i8 d.qz,.int .i32 d.rm,.int .i64 d.rs,.int .i8 d.rz,.int .i8 d.lo,.int .i8 d.hi] ∧
    ez g1 ((List.range (i*C+c)).map fun r:Nat=>eQ H V C l d.za P ((h+r / C:Nat) - P) (r % C)) ((List.range (i*C+c)).map fun r:Nat=>jd d.w C o (r / C) (r % C)) (i*C+c) u v wr) (fun _ _ ii _=>C - (intOf ii).toNat)
   case atStart=>exact ⟨0,zl _,rfl,FR.o,OL.o,OW.o,BA.o,LI.o⟩
   case round =>
    obtain ⟨c,hc,rfl,hf,hol,how,hba,hli⟩:=hrel
    clear FR OL OW BA LI
    have FR:=zH hf
    have OL:=zH hol
    have OW:=zH how
    have BA:=zH hba
    have LI:=zH hli
    clear hf hol how hba hli
    by_cases hlc:c < C
    ·have p2:(c:Int) < (C:Int):=oM
     go_wp2_with fail
     have hk2:i*C+c≤1024:=by
      have:i*C≤2*C:=Nat.mul_le_mul_right C oM
      omega
     have c9:=BA.o.cell 9
     simp only [gX] at c9
     rw [HP.o] at c9
     obtain ⟨hi',hhi⟩:∃ m,h+i=m:=⟨_,rfl⟩
     have e1:IntKind.i64.wrap ((h:Int)+(i:Int))=(hi':Int):=(wJ).trans oM
     have e2:IntKind.i64.wrap ((hi':Int) - (P:Int))=(hi':Int) - (P:Int):=wJ
     have kd:Below wr wr wr.drew:=(qB _ _).drew
     have FD:=zH (FR.o.fut kd)
     have OLD:=zH (OL.o.fut kd)
     have OWD:=zH (OW.o.fut kd)
     have LID:=zH (LI.o.below kd)
     have BAD:=zH (BA.o.fut kd)
     have c9d:=ao kd c9

     refine wp_region_held_drew (S:=fun w'=>w'.cell? ⟨g0,9,none⟩=some (.int .i64 P)∧Blk w' g0 192 #[.int .i64 H,.int .i64 V,.int .i64 C,.slice A n cap,.int .i64 d.kind,.int .i64 d.a,.int .i64 d.b,.int .i64 d.k,.int .i64 d.s,.int .i64 d.p,.int .i64 d.out,.int .i8 d.za,.int .i8 d.zb,.slice W nw cw,.slice B nb cb,.int .i32 d.qm,.int .i64 d.qs,.int .i8 d.qz,.int .i32 d.rm,.int .i64 d.rs,.int .i8 d.rz,.int .i8 d.lo,.int .i8 d.hi]∧Below w w w') kM ?_ (fun hS=>?_)
     ·exact ⟨c9d,BAD.o,FD.o.out⟩
     refine kH' 0 hS ?_
     refine tkH 1 rfl (yP #[.int .i64 H,.int .i64 V,.int .i64 C,.slice A n cap,.int .i64 d.kind,.int .i64 d.a,.int .i64 d.b,.int .i64 d.k,.int .i64 d.s,.int .i64 d.p,.int .i64 d.out,.int .i8 d.za,.int .i8 d.zb,.slice W nw cw,.slice B nb cb,.int .i32 d.qm,.int .i64 d.qs,.int .i8 d.qz,.int .i32 d.rm,.int .i64 d.rs,.int .i8 d.rz,.int .i8 d.lo,.int .i8 d.hi] (fun w hs=>hs.2.1)) hS ?_
     try simp only [pX]
     refine kH' 2 hS ?_
     refine kH' 3 hS ?_
     refine kH' 4 hS ?_
     refine kH' 5 hS ?_
     refine kH' 6 hS ?_
     refine kH' 7 hS ?_
     refine kH' 8 hS ?_
     refine kH' 9 hS ?_
     refine kH' 13 hS ?_
     refine tkH 14 rfl (yP #[.int .i64 H,.int .i64 V,.int .i64 C,.slice A n cap,.int .i64 d.kind,.int .i64 d.a,.int .i64 d.b,.int .i64 d.k,.int .i64 d.s,.int .i64 d.p,.int .i64 d.out,.int .i8 d.za,.int .i8 d.zb,.slice W nw cw,.slice B nb cb,.int .i32 d.qm,.int .i64 d.qs,.int .i8 d.qz,.int .i32 d.rm,.int .i64 d.rs,.int .i8 d.rz,.int .i8 d.lo,.int .i8 d.hi] (fun w hs=>hs.2.1)) hS ?_
     try simp only [pX]
     refine kH' 15 hS ?_
     refine kH' 16 hS ?_
     refine kH' 17 hS ?_
     refine rH 10 rfl (fun K hK=>?_)
     go_simp
     (refine (tr H V C P A n cap l d W nw cw B nb cb _ c _ OLD.o.all HN.o hn2 hV oM HP.o hP HZ.o hlc oM oM hH).mono ?_;rintro e w3 ⟨RA,rn,rc,rfl,rs,hb⟩;have F3:=zH (FD.o.fut hb);have LI3:=zH (LID.o.below hb);have BK3:=zH (BAD.o.fut hb);have k9:=ao hb c9d;have OL3:=zH (OLD.o.fut hb);have OW3:=zH (OWD.o.fut hb);have lg3:g1≤w3.heap.size:=(by have:=BK3.o.lt;omega);have RS:=zH (rs.more (S':=gG g1 u7 u8 w3) (fun b hb'=>⟨by have:=BAD.o.lt;have:=hb'.1;omega,hb'.2,fun e=>absurd (LID.o.rows.lt b e.symm).2 (Nat.not_lt.2 hb'.1),fun e=>absurd (LID.o.taps.lt b e.symm).2 (Nat.not_lt.2 hb'.1)⟩));have nu:=zH (show some g0 ≠ u7.ownBlock from fun e=>absurd (LI3.o.rows.lt g0 e.symm).1 oM);have nv:=zH (show some g0 ≠ u8.ownBlock from fun e=>absurd (LI3.o.taps.lt g0 e.symm).1 oM))
     refine xK hK (zR hb hS) fun hS=>?_
     clear hK K
     refine rH 11 rfl (fun K hK=>?_)
     go_simp
     have hb2:Below w3 w3 (w3.alloc (.cells #[.slice RA rn rc] 195)):=(qB _ _).alloc (lR _) _;have hb:Below w3 w3 (w3.alloc (.cells #[.slice RA rn rc] 195)):=hb2
     refine xK hK (zR hb hS) fun hS=>?_
     clear hK K
     refine rH 12 rfl (fun K hK=>?_)
     (rw [if_pos (by rfl)];refine cU (W:=w3) (cs:=#[.slice RA rn rc]) (E:=195) (t:=tSlice (aa .i16)) (.tmp 21) (.tmp 32) rfl qI rfl LI3.o.rows 1 rfl (eQ H V C l d.za P ((hi':Int) - P) c) RS.o.rep (by unfold maxLen;omega) oM lg3 (fun b hb=>⟨hb.2.1,hb.2.2.1⟩) ?_;intro u4 w4 own1 gr1 at1;refine hK.out _ _ ⟨bF gr1 k9 nu.out,BK3.o.row' gr1 nu.out,F3.o.out.grown gr1 F3.o.size (fun k h=>lT lwg (LI3.o.rows.lt k h).1)⟩ (fun hS=>?_);have R3:=LI3.o.row own1 gr1 at1;have O1:=zH R3.1;have O2:=zH R3.2.1;have N1:=zH R3.2.2;have F4:=zH (show Far w w4 from ⟨hS.2.2⟩);have OL4:=zH (OL3.o.row gr1 (fun k h=>lT lwg (LI3.o.rows.lt k h).1));have OW4:=zH (OW3.o.row gr1 (fun k h=>lT lwg (LI3.o.rows.lt k h).1));clear R3 own1 gr1 at1 hb hb2)
     clear hK K
     try simp only [pX]
     refine rH 18 rfl (fun K hK=>?_)
     go_simp
     (refine qM (tz H V C A n cap d W nw cw B nb cb o i c _ OW4.o.all oM ho hlt hlc HNW.o) fun w5 hb=>?_;have F5:=zH (F4.o.fut hb);have OL5:=zH (OL4.o.fut hb);have OW5:=zH (OW4.o.fut hb);have P1:=zH ((O1.o.below hb (lR _) (fun b hb=>hb.2.1)).more (S':=gG g1 u4 u8 w5) fun b ⟨h1,h2,h3⟩=>⟨h1,Nat.lt_of_lt_of_le h2 hb.size,h3⟩);have P2:=zH (O2.o.below hb (lR _) (fun _ h=>h.elim));have lg5:g1≤w5.heap.size:=(by have:=hS.2.1.lt;have:=hb.size;omega))
     refine xK hK (zR hb hS) fun hS=>?_
     clear hK K
     refine rH 19 rfl (fun K hK=>?_)
     (rw [if_pos (by rfl)];have S5:=zH hS;refine qZ (.tmp 39) rfl oK (i3 .i8 (fun j=>d.w.getD (((o*3+i)*3+j)*C+c) 0)) rfl rfl dM ?_;have kb:Below w5 w5 (w5.alloc (.cells (i3 .i8 (fun j=>d.w.getD (((o*3+i)*3+j)*C+c) 0)) 215)):=(qB _ _).alloc (lR _) _;refine hK.out _ _ ⟨ao kb hS.1,hS.2.1.later kb,ag kb hS.2.2⟩ (fun hS=>?_);clear kb)
     clear hK K
     try simp only [pX]
     refine rH 20 rfl (fun K hK=>?_)
     (rw [if_pos (by rfl)];refine cU (W:=w5) (cs:=i3 .i8 (fun j=>d.w.getD (((o*3+i)*3+j)*C+c) 0)) (E:=215) (t:=tW3) (.tmp 34) (.tmp 40) rfl oK rfl P2.o 1 rfl (jd d.w C o i c) ⟨rfl,OW5.o.out.allK _,OW5.o.out.allK _,OW5.o.out.allK _⟩ (by unfold maxLen;omega) oM lg5 (fun _ h=>h.elim) ?_;intro u6 w6 own2 gr2 at2;refine hK.out _ _ ⟨bF gr2 S5.o.1 nv.out,S5.o.2.1.row' gr2 nv.out,S5.o.2.2.grown gr2 F5.o.size (fun k h=>lT lwg (P2.o.lt k h).1)⟩ (fun hS=>?_);have L6:=zH (ez.tap P1.o P2.o N1.o own2 gr2 at2);have F6:=zH (show Far w w6 from ⟨hS.2.2⟩);have BK6:=zH hS.2.1;have OL6:=zH (OL5.o.row gr2 (fun k h=>lT lwg (P2.o.lt k h).1));have OW6:=zH (OW5.o.row gr2 (fun k h=>lT lwg (P2.o.lt k h).1));clear own2 gr2 at2)
     clear hK K
     try simp only [pX]
     refine kH' 21 hS ?_
     refine kH' 22 hS ?_
     refine wpAnyH_done kM ?_ _
     go_wp2_with fail
     refine ⟨⟨c+1,by omega,by go_num,F6.o,OL6.o,OW6.o,BK6.o,?_⟩,by simp [intOf];omega⟩
     have e3:=jE (fun r:Nat=>eQ H V C l d.za P ((h+r / C:Nat) - P) (r % C)) (i*C+c)
     have e4:=jE (fun r:Nat=>jd d.w C o (r / C) (r % C)) (i*C+c)
     obtain ⟨dv,md⟩:=fc i c C hlc
     rw [dv,md,hhi] at e3
     rw [dv,md] at e4
     have:=L6.o
     rw [e3,e4] at this
     exact this
    ·obtain rfl:c=C:=oM
     go_wp2
     exact ⟨⟨i+1,by omega,by go_num,FR.o,OL.o,OW.o,BA.o,by rw [Nat.succ_mul];exact LI.o⟩,by simp [intOf];omega⟩
  ·obtain rfl:i=3:=oM
   go_wp2_with fail
   have LS:=LI.o
   obtain ⟨A1,k1,rfl,s1⟩:=LS.rows.sl (S':=blo wr) dM (fun b _ h=>h) (fun b h=>h.2.1)
   obtain ⟨A2,k2,rfl,s2⟩:=LS.taps.sl (S':=blo wr) dM (fun b _ h=>h) (fun b h=>h.elim)
   refine (st A1 (3*C) k1 _ A2 k2 _ (V+2*P) wr s1 s2 oM oM (fun j hj=>?_) hm).mono ?_
   ·rw [fy _ _ _ _ hj];simp [eQ]
   rintro e w3 ⟨RA,rn,rc,rfl,rs,hb⟩
   go_wp2
   go_ret
   exact ⟨RA,rn,rc,rfl,rs.more (aO FR.o.size (lR _)),(FR.o.fut hb).out⟩
end Go.Proofs.YtmihnoagagbgaaaGreat
namespace Go.Proofs.YtmihnoagagbgaaaGreat
open Go.RowKit Go.ChangeShapes Go.WideShapes Tryz
set_option maxRecDepth 100000
set_option maxHeartbeats 16000000
theorem nf (h v c:Int) (d:af) (W:QA) (nw cw:Nat) (B:QA) (nb cb:Nat) (w:World) (h0:InK .i64 h) (h1:InK .i64 v) (h2:InK .i64 c) (hout:InK .i64 d.out) (hnw:nw=d.w.length) (hnb:nb=d.bias.length) (mw:nw≤1048576) (mb:nb≤1048576) :
  Calls prog 106 #[.agg (sN h v c),.agg (nD d W nw cw B nb cb)] w fun e w'=>e=aL (dq h v c d)∧Below w w w':=by
 obtain ⟨r,hr⟩:∃ r,dq h v c d=r:=⟨_,rfl⟩
 rw [hr]
 unfold dq at hr
 rw [← hnw,← hnb] at hr
 have VV:=zH hr.symm
 have RI:=zH (fun w=>aP h c v w h0 h1 h2)
 have RT:=zH (fun w=>aP 1 d.out 1 w dM dM hout)
 have RE:=zH (fun w=>bQ h c v w h0 h1 h2)
 have m0:=aC h v c
 have q0:=aC 1 1 d.out
 have qb:=zH (dL (h:=1) (v:=1) (c:=d.out))
 obtain ⟨m,hm⟩:∃ m,ab h v c=m:=⟨_,rfl⟩
 obtain ⟨q,hq⟩:∃ q,ab 1 1 d.out=q:=⟨_,rfl⟩
 rw [hm] at VV RI RE m0
 rw [hq] at VV RT q0 qb
 clear hr h0 h1 h2 hout hnw hnb hm hq
 have FR:=zW w
 obtain ⟨w1,w2,w3,yw1,yw2,yw3,l1,l2,l3,BA,BN,BR,yk3⟩:=bk3 w (sN h v c) 24 (nD d W nw cw B nb cb) 42 (sN 0 0 0) 24
 replace FR:=zF yk3 FR
 clear yk3
 have n6:=BN.o.cell 6
 obtain ⟨w4,yw4,BT,yk4⟩:=nB w3 (sN 0 0 0) 24
 obtain ⟨FR,BA,BN,BR⟩:=uz4 yk4 FR BA BN BR
 clear yk4
 by_cases c1:m=0
 ·have m_:decide (0 < m)=false:=by simp;omega
  have R:=zH (show r=noS 5 by rw [VV.o,if_pos (.inl c1)])
  clear c1 VV m0 q0 qb
  go_in
  go_wp2_with (first
   | (refine sGJ19 (sN 1 1 d.out) BT.o ?_;intro w5 BT6 g6;have BA5:=zA g6 BA;have BN5:=zA g6 BN;have BR5:=zA g6 BR;have FR5:=zA g6 FR;have BT5:=zH BT6)
   | (refine lGJ19 BA5.o ?_))
  clear yw1 yw2 yw3 yw4 n6 g6 BT6 FR BA BN BR BT
  refine qM (RI.o _) fun w6 hb=>?_
  obtain ⟨FR5,BA5,BN5,BR5,BT5⟩:=uz5 hb FR5 BA5 BN5 BR5 BT5
  clear hb
  go_wp2_with (first
   | (refine sGJ19 (sN 0 0 0) BR5.o ?_;intro w7 BR7 g7))
  refine rG BR7 ?_;exact ⟨by rw [R.o];rfl,(FR5.o.away g7 oM).out⟩
 have m_:decide (0 < m)=true:=by simp;omega
 by_cases c2:q=0
 ·have q_:decide (0 < q)=false:=by simp;omega
  have R:=zH (show r=noS 5 by rw [VV.o,if_pos (.inr c2)])
  clear c1 c2 VV m0 q0 qb
  go_in
  go_wp2_with (first
   | (refine sGJ19 (sN 1 1 d.out) BT.o ?_;intro w5 BT6 g6;have BA5:=zA g6 BA;have BN5:=zA g6 BN;have BR5:=zA g6 BR;have FR5:=zA g6 FR;have BT5:=zH BT6)
   | (refine lGJ19 BA5.o ?_))
  clear yw1 yw2 yw3 yw4 n6 g6 BT6 FR BA BN BR BT
  refine qM (RI.o _) fun w6 hb=>?_
  obtain ⟨FR5,BA5,BN5,BR5,BT5⟩:=uz5 hb FR5 BA5 BN5 BR5 BT5
  clear hb
  obtain ⟨u0,u1,u2⟩:=uc3 BT5 0 1 2
  go_wp2_with fail
  clear u0 u1 u2
  refine qM (RT.o _) fun w8 hb=>?_
  obtain ⟨FR5,BA5,BN5,BR5,BT5⟩:=uz5 hb FR5 BA5 BN5 BR5 BT5
  clear hb
  go_wp2_with (first
   | (refine sGJ19 (sN 0 0 0) BR5.o ?_;intro w7 BR7 g7))
  refine rG BR7 ?_;exact ⟨by rw [R.o];rfl,(FR5.o.away g7 oM).out⟩
 have q_:decide (0 < q)=true:=by simp;omega
 have ob:=qb.out c2
 obtain ⟨m1,hm1⟩:∃ x,d.out*m=x:=⟨_,rfl⟩
 have b1:=dd (a:=d.out) (b:=m) (m:=1024) (n:=1024) oM oM oM oM oM
 have e1:IntKind.i64.wrap (d.out*m)=m1:=by rw [← hm1];exact wJ
 have V2:=zH (show r=(if ¬ (nw:Int)=m1 ∨ 16384 < nw ∨ ¬ (nb:Int)=d.out then noS 9 else ((1,1,d.out),0)) by rw [VV.o,if_neg oM,hm1])
 clear VV c1 c2 m0 q0 qb ob b1 hm1
 by_cases p1:(nw:Int)=m1
 rotate_left
 ·have t1:((nw:Int) != m1)=true:=by simpa using p1
  have R:=zH (show r=noS 9 by rw [V2.o,if_pos (.inl p1)])
  clear V2 p1
  go_in
  go_wp2_with (first
   | (refine sGJ19 (sN 1 1 d.out) BT.o ?_;intro w5 BT6 g6;have BA5:=zA g6 BA;have BN5:=zA g6 BN;have BR5:=zA g6 BR;have FR5:=zA g6 FR;have BT5:=zH BT6)
   | (refine lGJ19 BA5.o ?_))
  clear yw1 yw2 yw3 yw4 n6 g6 BT6 FR BA BN BR BT
  refine qM (RI.o _) fun w6 hb=>?_
  obtain ⟨FR5,BA5,BN5,BR5,BT5⟩:=uz5 hb FR5 BA5 BN5 BR5 BT5
  clear hb
  obtain ⟨u0,u1,u2⟩:=uc3 BT5 0 1 2
  go_wp2_with fail
  clear u0 u1 u2
  refine qM (RT.o _) fun w8 hb=>?_
  obtain ⟨FR5,BA5,BN5,BR5,BT5⟩:=uz5 hb FR5 BA5 BN5 BR5 BT5
  clear hb
  go_wp2_with fail
  have y2:=fun (x:Ext w8)=>(BA5.o.ext x).cell 2
  have y0:=fun (x:Ext w8)=>(BA5.o.ext x).cell 0
  have y1:=fun (x:Ext w8)=>(BA5.o.ext x).cell 1
  have z6:=fun (x:Ext w8)=>(BN5.o.ext x).cell 6
  have z9:=fun (x:Ext w8)=>(BN5.o.ext x).cell 9
  have z10:=fun (x:Ext w8)=>(BN5.o.ext x).cell 10
  have E1:=zH (fun x:Ext w8=>aR x (RE.o x.1))
  refine aB w8 kM kM (qB _ _) ?_
  repeat (go_big_quiet_step (exact E1.o _))
  refine wpQuiet_nil ?_
  rintro w9 ⟨x,hx⟩
  have hb:Below w8 w8 w9:=by rw [hx];exact x.2
  clear y0 y1 y2 z6 z9 z10 E1 hx x
  obtain ⟨FR5,BA5,BN5,BR5,BT5⟩:=uz5 hb FR5 BA5 BN5 BR5 BT5
  clear hb
  try dsimp only
  go_wp2_with (first
   | (refine sGJ19 (sN 0 0 0) BR5.o ?_;intro w7 BR7 g7))
  refine rG BR7 ?_;exact ⟨by rw [R.o];rfl,(FR5.o.away g7 oM).out⟩
 have t1:((nw:Int) != m1)=false:=by simpa using p1
 have P1:=zH p1
 clear p1
 by_cases p2:16384 < nw
 ·have t2:decide (16384 < (nw:Int))=true:=by simp;omega
  have R:=zH (show r=noS 9 by rw [V2.o,if_pos (.inr (.inl p2))])
  clear V2 p2
  go_in
  go_wp2_with (first
   | (refine sGJ19 (sN 1 1 d.out) BT.o ?_;intro w5 BT6 g6;have BA5:=zA g6 BA;have BN5:=zA g6 BN;have BR5:=zA g6 BR;have FR5:=zA g6 FR;have BT5:=zH BT6)
   | (refine lGJ19 BA5.o ?_))
  clear yw1 yw2 yw3 yw4 n6 g6 BT6 FR BA BN BR BT
  refine qM (RI.o _) fun w6 hb=>?_
  obtain ⟨FR5,BA5,BN5,BR5,BT5⟩:=uz5 hb FR5 BA5 BN5 BR5 BT5
  clear hb
  obtain ⟨u0,u1,u2⟩:=uc3 BT5 0 1 2
  go_wp2_with fail
  clear u0 u1 u2
  refine qM (RT.o _) fun w8 hb=>?_
  obtain ⟨FR5,BA5,BN5,BR5,BT5⟩:=uz5 hb FR5 BA5 BN5 BR5 BT5
  clear hb
  go_wp2_with fail
  have y2:=fun (x:Ext w8)=>(BA5.o.ext x).cell 2
  have y0:=fun (x:Ext w8)=>(BA5.o.ext x).cell 0
  have y1:=fun (x:Ext w8)=>(BA5.o.ext x).cell 1
  have z6:=fun (x:Ext w8)=>(BN5.o.ext x).cell 6
  have z9:=fun (x:Ext w8)=>(BN5.o.ext x).cell 9
  have z10:=fun (x:Ext w8)=>(BN5.o.ext x).cell 10
  have E1:=zH (fun x:Ext w8=>aR x (RE.o x.1))
  refine aB w8 kM kM (qB _ _) ?_
  repeat (go_big_quiet_step (exact E1.o _))
  refine wpQuiet_nil ?_
  rintro w9 ⟨x,hx⟩
  have hb:Below w8 w8 w9:=by rw [hx];exact x.2
  clear y0 y1 y2 z6 z9 z10 E1 hx x
  obtain ⟨FR5,BA5,BN5,BR5,BT5⟩:=uz5 hb FR5 BA5 BN5 BR5 BT5
  clear hb
  try dsimp only
  go_wp2_with (first
   | (refine sGJ19 (sN 0 0 0) BR5.o ?_;intro w7 BR7 g7))
  refine rG BR7 ?_;exact ⟨by rw [R.o];rfl,(FR5.o.away g7 oM).out⟩
 have t2:decide (16384 < (nw:Int))=false:=by simp;omega
 have P2:=zH p2
 clear p2
 by_cases p3:(nb:Int)=d.out
 rotate_left
 ·have t3:((nb:Int) != d.out)=true:=by simpa using p3
  have R:=zH (show r=noS 9 by rw [V2.o,if_pos (.inr (.inr p3))])
  clear V2 p3
  go_in
  go_wp2_with (first
   | (refine sGJ19 (sN 1 1 d.out) BT.o ?_;intro w5 BT6 g6;have BA5:=zA g6 BA;have BN5:=zA g6 BN;have BR5:=zA g6 BR;have FR5:=zA g6 FR;have BT5:=zH BT6)
   | (refine lGJ19 BA5.o ?_))
  clear yw1 yw2 yw3 yw4 n6 g6 BT6 FR BA BN BR BT
  refine qM (RI.o _) fun w6 hb=>?_
  obtain ⟨FR5,BA5,BN5,BR5,BT5⟩:=uz5 hb FR5 BA5 BN5 BR5 BT5
  clear hb
  obtain ⟨u0,u1,u2⟩:=uc3 BT5 0 1 2
  go_wp2_with fail
  clear u0 u1 u2
  refine qM (RT.o _) fun w8 hb=>?_
  obtain ⟨FR5,BA5,BN5,BR5,BT5⟩:=uz5 hb FR5 BA5 BN5 BR5 BT5
  clear hb
  go_wp2_with fail
  have y2:=fun (x:Ext w8)=>(BA5.o.ext x).cell 2
  have y0:=fun (x:Ext w8)=>(BA5.o.ext x).cell 0
  have y1:=fun (x:Ext w8)=>(BA5.o.ext x).cell 1
  have z6:=fun (x:Ext w8)=>(BN5.o.ext x).cell 6
  have z9:=fun (x:Ext w8)=>(BN5.o.ext x).cell 9
  have z10:=fun (x:Ext w8)=>(BN5.o.ext x).cell 10
  have E1:=zH (fun x:Ext w8=>aR x (RE.o x.1))
  refine aB w8 kM kM (qB _ _) ?_
  repeat (go_big_quiet_step (exact E1.o _))
  refine wpQuiet_nil ?_
  rintro w9 ⟨x,hx⟩
  have hb:Below w8 w8 w9:=by rw [hx];exact x.2
  clear y0 y1 y2 z6 z9 z10 E1 hx x
  obtain ⟨FR5,BA5,BN5,BR5,BT5⟩:=uz5 hb FR5 BA5 BN5 BR5 BT5
  clear hb
  try dsimp only
  go_wp2_with (first
   | (refine sGJ19 (sN 0 0 0) BR5.o ?_;intro w7 BR7 g7))
  refine rG BR7 ?_;exact ⟨by rw [R.o];rfl,(FR5.o.away g7 oM).out⟩
 have t3:((nb:Int) != d.out)=false:=by simpa using p3
 have R:=zH (show r=((1,1,d.out),0) by rw [V2.o,if_neg (by rintro (h|h|h);exact h P1.o;exact P2.o h;exact h p3)])
 clear V2 p3
 go_in
 go_wp2_with (first
  | (refine sGJ19 (sN 1 1 d.out) BT.o ?_;intro w5 BT6 g6;have BA5:=zA g6 BA;have BN5:=zA g6 BN;have BR5:=zA g6 BR;have FR5:=zA g6 FR;have BT5:=zH BT6)
  | (refine lGJ19 BA5.o ?_))
 clear yw1 yw2 yw3 yw4 n6 g6 BT6 FR BA BN BR BT
 refine qM (RI.o _) fun w6 hb=>?_
 obtain ⟨FR5,BA5,BN5,BR5,BT5⟩:=uz5 hb FR5 BA5 BN5 BR5 BT5
 clear hb
 obtain ⟨u0,u1,u2⟩:=uc3 BT5 0 1 2
 go_wp2_with fail
 clear u0 u1 u2
 refine qM (RT.o _) fun w8 hb=>?_
 obtain ⟨FR5,BA5,BN5,BR5,BT5⟩:=uz5 hb FR5 BA5 BN5 BR5 BT5
 clear hb
 go_wp2_with fail
 have y2:=fun (x:Ext w8)=>(BA5.o.ext x).cell 2
 have y0:=fun (x:Ext w8)=>(BA5.o.ext x).cell 0
 have y1:=fun (x:Ext w8)=>(BA5.o.ext x).cell 1
 have z6:=fun (x:Ext w8)=>(BN5.o.ext x).cell 6
 have z9:=fun (x:Ext w8)=>(BN5.o.ext x).cell 9
 have z10:=fun (x:Ext w8)=>(BN5.o.ext x).cell 10
 have E1:=zH (fun x:Ext w8=>aR x (RE.o x.1))
 refine aB w8 kM kM (qB _ _) ?_
 repeat (go_big_quiet_step (exact E1.o _))
 refine wpQuiet_nil ?_
 rintro w9 ⟨x,hx⟩
 have hb:Below w8 w8 w9:=by rw [hx];exact x.2
 clear y0 y1 y2 z6 z9 z10 E1 hx x
 obtain ⟨FR5,BA5,BN5,BR5,BT5⟩:=uz5 hb FR5 BA5 BN5 BR5 BT5
 clear hb
 try dsimp only
 go_wp2_with (first
  | (refine lGJ19 BT5.o ?_)
  | (refine sGJ19 (sN 1 1 d.out) BR5.o ?_;intro w7 BR7 g7))
 refine rG BR7 ?_;exact ⟨by rw [R.o];rfl,(FR5.o.away g7 oM).out⟩
end Go.Proofs.YtmihnoagagbgaaaGreat
