/-
  Walks of dense (layer 18): the document's shape of what a node makes; all sums, the program's and the document's.
  The shape that a node makes (layers 10, 17): conv.Shape, depth.Shape, the document's.
-/
import Derived.Test.YtmihnoagagbgaaaGreatJ05
import Derived.Test.YtmihnoagagbgaaaGreatJ08
set_option linter.unusedVariables false
set_option linter.unusedSimpArgs false
set_option maxRecDepth 100000
set_option maxHeartbeats 16000000
namespace Go.Proofs.YtmihnoagagbgaaaGreat
open Go.RowKit Go.ChangeShapes Go.WideShapes Tryz
set_option maxRecDepth 100000
set_option maxHeartbeats 16000000
theorem gd (h v c:Int) (d:af) (W:QA) (nw cw:Nat) (B:QA) (nb cb:Nat) (w:World) (h0:InK .i64 h) (h1:InK .i64 v) (h2:InK .i64 c) (hout:InK .i64 d.out)
  (hnw:nw=d.w.length) (hnb:nb=d.bias.length) (mw:nw≤maxLen) (mb:nb≤maxLen) :
  Calls prog 58 #[.agg (sN h v c),.agg (nD d W nw cw B nb cb)] w fun e w'=>e=fg (ap h v c d) d.out∧Below w w w':=by
 have H0:=zH h0
 have H1:=zH h1
 have H2:=zH h2
 have HO:=zH hout
 have HNW:=zH hnw
 have HNB:=zH hnb
 clear h0 h1 h2 hout hnw hnb
 unfold maxLen at mw mb
 have r1:=aC h v c
 have r2:=aC 1 1 d.out
 by_cases c1:ab h v c=0
 ·have t1:=c1
  have e:ap h v c d=5:=by unfold ap;rw [if_pos (.inl c1)]
  have E:=zH e
  have T1:=zH t1
  clear e c1 t1
  go_in
  go_wp2_with fail
  refine qM (aQ h c v _ H0.o H1.o H2.o) fun w1 hb=>?_
  rw [T1.o]
  have g1:=ai (B:=w.heap.size) (a:=w) (by go_grown) hb (by simp;omega)
  have bC:=(((Blk.now _ (w.heap.size+1+1) _ _ sM).past _).later hb)
  have fC:=fun i=>bC.frozen i
  have cC:=fun i=>bC.cell i
  clear hb
  go_wp2_with fail
  refine ret_cell_tmp rfl (((bC.set_ 0 _).set_ 1 _).set_ 2 _) rfl underlying24 kM rfl ⟨?_,by go_grown⟩
  rw [E.o];rfl
 have t1:(ab h v c == 0)=false:=by simpa using c1
 by_cases c2:ab 1 1 d.out=0
 ·have t2:=c2
  have e:ap h v c d=5:=by unfold ap;rw [if_pos (.inr c2)]
  have E:=zH e
  have T2:=zH t2
  clear e c1 c2 t2
  go_in
  go_wp2_with fail
  refine qM (aQ h c v _ H0.o H1.o H2.o) fun w1 hb=>?_
  have g1:=ai (B:=w.heap.size) (a:=w) (by go_grown) hb (by simp;omega)
  have BC:=zH (((Blk.now _ (w.heap.size+1+1) _ _ sM).past _).later hb)
  have bD:=((Blk.now _ (w.heap.size+1+1+1) _ _ sM).later hb)
  have cD:=fun i=>bD.cell i
  clear bD hb
  go_wp2_with fail
  refine qM (aQ 1 d.out 1 _ dM dM HO.o) fun w2 hb=>?_
  rw [T2.o]
  have g2:=ai g1 hb g1.size
  have bC:=BC.o.later hb
  have lt2:=g2.size
  have fC:=fun i=>bC.frozen i
  have cC:=fun i=>bC.cell i
  clear hb cD
  go_wp2_with fail
  refine ret_cell_tmp rfl (((bC.set_ 0 _).set_ 1 _).set_ 2 _) rfl underlying24 kM rfl ⟨?_,by go_grown⟩
  rw [E.o];rfl
 have t2:(ab 1 1 d.out == 0)=false:=by simpa using c2
 have hE:ap h v c d=if ¬ (nw:Int)=d.out*ab h v c ∨ 16384 < nw ∨ ¬ (nb:Int)=d.out then 9 else 0:=by
  unfold ap;rw [if_neg oM,HNW.o,HNB.o]
 have o1:1≤d.out∧d.out≤1024:=by
  rw [bI] at c2
  split at c2
  ·omega
  ·exact absurd rfl c2
 have E:=zH hE
 have HC1:=zH c1
 clear hE c1 c2 r2
 go_in
 go_wp2_with fail
 refine qM (aQ h c v _ H0.o H1.o H2.o) fun w1 hb=>?_
 have g1:=ai (B:=w.heap.size) (a:=w) (by go_grown) hb (by simp;omega)
 have bA:=((((Blk.now _ w.heap.size _ _ rfl).past _).past _).past _).later hb
 have bB:=(((Blk.now _ (w.heap.size+1) _ _ sM).past _).past _).later hb
 have bC:=((Blk.now _ (w.heap.size+1+1) _ _ sM).past _).later hb
 have bD:=(Blk.now _ (w.heap.size+1+1+1) _ _ sM).later hb
 have BA:=zH bA
 have BB:=zH bB
 have BC:=zH bC
 have BD:=zH bD
 have cD:=fun i=>bD.cell i
 clear bA bB bC bD hb
 go_wp2_with fail
 refine qM (aQ 1 d.out 1 _ dM dM HO.o) fun w2 hb=>?_
 have g2:=ai g1 hb g1.size
 have BA:=zH (BA.o.later hb)
 have BB:=zH (BB.o.later hb)
 have BC:=zH (BC.o.later hb)
 have BD:=zH (BD.o.later hb)
 clear hb cD
 go_wp2_with fail
 generalize hm:ab h v c=m at *
 have HM:=zH hm
 clear hm
 have hp:0≤d.out*m∧d.out*m≤1024*1024:=⟨Int.mul_nonneg oM oM,Int.mul_le_mul o1.2 r1.2 oM oM⟩
 have hwr:IntKind.i64.wrap (d.out*m)=d.out*m:=wJ
 have cA:∀ (x:Ext w2) (i:Nat),x.1.cell? ⟨w.heap.size,i,none⟩=((sN h v c):Array Value)[i]?:=fun x i=>(BA.o.ext x).cell i
 have cB6:∀ x:Ext w2,x.1.cell? ⟨w.heap.size+1,6,none⟩=some (.int .i64 d.out):=fun x=>(BB.o.ext x).cell 6
 have cB9:∀ x:Ext w2,x.1.cell? ⟨w.heap.size+1,9,none⟩=some (.slice W nw cw):=fun x=>(BB.o.ext x).cell 9
 have cB10:∀ x:Ext w2,x.1.cell? ⟨w.heap.size+1,10,none⟩=some (.slice B nb cb):=fun x=>(BB.o.ext x).cell 10
 have E1:=zH (fun x:Ext w2=>aR x (aQ h c v _ H0.o H1.o H2.o))
 rw [HM.o] at E1
 have t3:((nw:Int) != d.out*m)=true∧ap h v c d=9 ∨ ((nw:Int) != d.out*m)=false∧(decide ((16384:Int) < (nw:Int))=true∧ap h v c d=9 ∨
   decide ((16384:Int) < (nw:Int))=false∧(((nb:Int) != d.out)=true∧ap h v c d=9 ∨ ((nb:Int) != d.out)=false∧ap h v c d=0)):=by
  rw [E.o]
  by_cases c3:(nw:Int)=d.out*m
  ·refine .inr ⟨by simp [c3],?_⟩
   by_cases c4:16384 < nw
   ·exact .inl ⟨by simp;omega,by rw [if_pos (.inr (.inl c4))]⟩
   ·refine .inr ⟨by simp;omega,?_⟩
    by_cases c5:(nb:Int)=d.out
    ·exact .inr ⟨by simp [c5],by rw [if_neg oM]⟩
    ·exact .inl ⟨by rw [bne_iff_ne];exact c5,by rw [if_pos (.inr (.inr c5))]⟩
  ·exact .inl ⟨by rw [bne_iff_ne];exact c3,by rw [if_pos (.inl c3)]⟩
 clear E
 rcases t3 with ⟨t3,e⟩|⟨t3,⟨t4,e⟩|⟨t4,⟨t5,e⟩|⟨t5,e⟩⟩⟩
 all_goals
  have E:=zH e
  clear e
  refine aB w2 kM kM (qB _ _) ?_
  repeat (go_big_quiet_step ((exact E1.o _)))
  refine wpQuiet_nil ?_
  rintro _ ⟨⟨w3,hB⟩,rfl⟩
  have g3:=ai g2 hB g2.size
  have lt3:=g3.size
  have bC:=BC.o.later hB
  have bD:=BD.o.later hB
  have fC:=fun i=>bC.frozen i
  have cC:=fun i=>bC.cell i
  have cD:=fun i=>bD.cell i
  clear hB
  go_wp2_with fail
  refine ret_cell_tmp rfl (((bC.set_ 0 _).set_ 1 _).set_ 2 _) rfl underlying24 kM rfl ⟨?_,by go_grown⟩
  rw [E.o];rfl
theorem dB (h v c:Int) (d:af) (W:QA) (nw cw:Nat) (B:QA) (nb cb:Nat) (w:World) (h0:InK .i64 h) (h1:InK .i64 v) (h2:InK .i64 c) (hout:InK .i64 d.out) (hnw:nw=d.w.length) (hnb:nb=d.bias.length) (mw:nw≤1048576) (mb:nb≤1048576) :
  Calls prog 104 #[.agg (sN h v c),.agg (nD d W nw cw B nb cb)] w fun e w'=>e=aL (aN h v c d)∧Below w w w':=by
 obtain ⟨r,hr⟩:∃ r,aN h v c d=r:=⟨_,rfl⟩
 rw [hr]
 unfold aN fR at hr
 rw [← hnw,← hnb] at hr
 have OK:=zH (gg (h:=h) (v:=v) (c:=c) (k:=d.k) (s:=d.s) (p:=d.p) (o:=d.out))
 have SL:=zH (fun w=>dQ h v c d.k d.s d.p d.out w h0 h1 h2 hout)
 obtain ⟨⟨⟨x1,x2,x3⟩,xe⟩,hx⟩:∃ x,aw h v c d.k d.s d.p d.out=x:=⟨_,rfl⟩
 rw [hx] at hr OK SL
 simp only [aL] at SL
 have VV:=zH hr.symm
 clear hx hr h0 h1 h2 hout hnw hnb
 have FR:=zW w
 obtain ⟨w1,w2,w3,yw1,yw2,yw3,l1,l2,_,BA,BN,BR,yk3⟩:=bk3 w (sN h v c) 24 (nD d W nw cw B nb cb) 42 (sN 0 0 0) 24
 replace FR:=zF yk3 FR
 clear yk3
 have a2:=BA.o.cell 2
 obtain ⟨n3,n4,n5,n6⟩:=uc4 BN 3 4 5 6
 go_in
 go_wp2_with (refine lG BA.o ?_)
 clear yw1 yw2 yw3 a2 n3 n4 n5 n6
 refine qM (SL.o _) fun w4 hb=>?_
 obtain ⟨FR,BA,BN,BR⟩:=uz4 hb FR BA BN BR
 clear hb
 have l3:w2.heap.size < w4.heap.size:=BR.o.lt
 obtain ⟨w5,yw5,BT,yk5⟩:=nB w4 (sN 0 0 0) 24
 obtain ⟨FR,BA,BN,BR⟩:=uz4 yk5 FR BA BN BR
 clear yk5
 clear SL
 by_cases hxe:xe=0
 rotate_left
 ·have tx:(xe != 0)=true:=by simpa using hxe
  have R:=zH (show r=noS xe by rw [VV.o,if_pos hxe])
  clear hxe VV OK
  go_wp2_with (first
   | (refine sG (sN x1 x2 x3) BT.o ?_;intro w6 BT6 g6;have a2:=(zA g6 BA).o.cell 2;obtain ⟨n3,n6,n9,n10⟩:=uc4 (zA g6 BN) 3 6 9 10;have BR6:=zA g6 BR;have FR6:=zA g6 FR)
   | (refine sG (sN 0 0 0) BR6.o ?_;intro w7 BR7 g7))
  refine rG BR7 ?_;exact ⟨by rw [R.o];rfl,(FR6.o.away g7 oM).out⟩
 subst hxe
 have tx:((0:Int) != 0)=false:=rfl
 have ok:=OK.o rfl
 obtain ⟨m1,hm1⟩:∃ m,d.out*d.k=m:=⟨_,rfl⟩
 have b1:=dd (a:=d.out) (b:=d.k) (m:=1024) (n:=5) oM oM oM oM oM
 rw [hm1] at b1
 obtain ⟨m2,hm2⟩:∃ m,m1*d.k=m:=⟨_,rfl⟩
 have b2:=dd (a:=m1) (b:=d.k) (m:=1024*5) (n:=5) oM oM oM oM oM
 rw [hm2] at b2
 obtain ⟨m3,hm3⟩:∃ m,m2*c=m:=⟨_,rfl⟩
 have b3:=dd (a:=m2) (b:=c) (m:=1024*5*5) (n:=1024) oM oM oM oM oM
 rw [hm3] at b3
 have e1:IntKind.i64.wrap (d.out*d.k)=m1:=by rw [hm1];exact wJ
 have e2:IntKind.i64.wrap (m1*d.k)=m2:=by rw [hm2];exact wJ
 have e3:IntKind.i64.wrap (m2*c)=m3:=by rw [hm3];exact wJ
 rw [hm1,hm2,hm3] at VV
 clear hm1 hm2 hm3 b1 b2 b3 ok OK
 have V2:=zH (show r=(if ¬ (nw:Int)=m3 ∨ 16384 < nw ∨ ¬ (nb:Int)=d.out then noS 9 else ((x1,x2,x3),0)) from VV.o)
 clear VV
 by_cases p1:(nw:Int)=m3
 rotate_left
 ·have t1:((nw:Int) != m3)=true:=by simpa using p1
  have R:=zH (show r=noS 9 by rw [V2.o,if_pos (.inl p1)])
  clear V2 p1
  go_wp2_with (first
   | (refine sG (sN x1 x2 x3) BT.o ?_;intro w6 BT6 g6;have a2:=(zA g6 BA).o.cell 2;obtain ⟨n3,n6,n9,n10⟩:=uc4 (zA g6 BN) 3 6 9 10;have BR6:=zA g6 BR;have FR6:=zA g6 FR)
   | (refine sG (sN 0 0 0) BR6.o ?_;intro w7 BR7 g7))
  refine rG BR7 ?_;exact ⟨by rw [R.o];rfl,(FR6.o.away g7 oM).out⟩
 have t1:((nw:Int) != m3)=false:=by simpa using p1
 have P1:=zH p1
 clear p1
 by_cases p2:16384 < nw
 ·have t2:decide (16384 < (nw:Int))=true:=by simp;omega
  have R:=zH (show r=noS 9 by rw [V2.o,if_pos (.inr (.inl p2))])
  clear V2 p2
  go_wp2_with (first
   | (refine sG (sN x1 x2 x3) BT.o ?_;intro w6 BT6 g6;have a2:=(zA g6 BA).o.cell 2;obtain ⟨n3,n6,n9,n10⟩:=uc4 (zA g6 BN) 3 6 9 10;have BR6:=zA g6 BR;have FR6:=zA g6 FR)
   | (refine sG (sN 0 0 0) BR6.o ?_;intro w7 BR7 g7))
  refine rG BR7 ?_;exact ⟨by rw [R.o];rfl,(FR6.o.away g7 oM).out⟩
 have t2:decide (16384 < (nw:Int))=false:=by simp;omega
 have P2:=zH p2
 clear p2
 by_cases p3:(nb:Int)=d.out
 rotate_left
 ·have t3:((nb:Int) != d.out)=true:=by simpa using p3
  have R:=zH (show r=noS 9 by rw [V2.o,if_pos (.inr (.inr p3))])
  clear V2 p3
  go_wp2_with (first
   | (refine sG (sN x1 x2 x3) BT.o ?_;intro w6 BT6 g6;have a2:=(zA g6 BA).o.cell 2;obtain ⟨n3,n6,n9,n10⟩:=uc4 (zA g6 BN) 3 6 9 10;have BR6:=zA g6 BR;have FR6:=zA g6 FR)
   | (refine sG (sN 0 0 0) BR6.o ?_;intro w7 BR7 g7))
  refine rG BR7 ?_;exact ⟨by rw [R.o];rfl,(FR6.o.away g7 oM).out⟩
 have t3:((nb:Int) != d.out)=false:=by simpa using p3
 have R:=zH (show r=((x1,x2,x3),0) by rw [V2.o,if_neg (by rintro (h|h|h);exact h P1.o;exact P2.o h;exact h p3)])
 clear V2 p3
 go_wp2_with (first
  | (refine sG (sN x1 x2 x3) BT.o ?_;intro w6 BT6 g6;have a2:=(zA g6 BA).o.cell 2;obtain ⟨n3,n6,n9,n10⟩:=uc4 (zA g6 BN) 3 6 9 10;have BR6:=zA g6 BR;have FR6:=zA g6 FR)
  | (refine lG BT6 ?_)
  | (refine sG (sN x1 x2 x3) BR6.o ?_;intro w7 BR7 g7))
 refine rG BR7 ?_;exact ⟨by rw [R.o];rfl,(FR6.o.away g7 oM).out⟩
end Go.Proofs.YtmihnoagagbgaaaGreat
