/-
  The shape that a node makes (layers 18, 25): the document's dense.Shape.
  Room (layer 28): arena.free: the taken places in order, and the least free one.
-/
import Derived.Test.YtmihnoagagbgaaaGreatJ08
set_option linter.unusedVariables false
set_option linter.unusedSimpArgs false
set_option maxRecDepth 100000
set_option maxHeartbeats 16000000
namespace Go.Proofs.YtmihnoagagbgaaaGreat
open Go.RowKit Go.ChangeShapes Go.WideShapes Tryz
set_option maxRecDepth 100000
set_option maxHeartbeats 16000000
theorem mD (h v c:Int) (d:af) (W:QA) (nw cw:Nat) (B:QA) (nb cb:Nat) (w:World) (h0:InK .i64 h) (h1:InK .i64 v) (h2:InK .i64 c) (hout:InK .i64 d.out) (hnw:nw=d.w.length) (hnb:nb=d.bias.length) (mw:nw≤1048576) (mb:nb≤1048576) :
  Calls prog 58 #[.agg (sN h v c),.agg (nD d W nw cw B nb cb)] w fun e w'=>e=aL (dq h v c d)∧Below w w w':=by
 obtain ⟨r,hr⟩:∃ r,dq h v c d=r:=⟨_,rfl⟩
 rw [hr]
 unfold dq at hr
 rw [← hnw,← hnb] at hr
 have VV:=zH hr.symm
 have RI:=zH (fun w=>aQ h c v w h0 h1 h2)
 have RT:=zH (fun w=>aQ 1 d.out 1 w dM dM hout)
 have RE:=zH (fun w=>aQ h c v w h0 h1 h2)
 have m0:=aC h v c
 have q0:=aC 1 1 d.out
 have qb:=zH (dL (h:=1) (v:=1) (c:=d.out))
 obtain ⟨m,hm⟩:∃ m,ab h v c=m:=⟨_,rfl⟩
 obtain ⟨q,hq⟩:∃ q,ab 1 1 d.out=q:=⟨_,rfl⟩
 rw [hm] at VV RI RE m0
 rw [hq] at VV RT q0 qb
 clear hr h0 h1 h2 hout hnw hnb hm hq
 have FR:=zW w
 obtain ⟨w1,w2,w3,yw1,yw2,yw3,l1,l2,l3,BA,BN,BR,yk3⟩:=bk3 w (sN h v c) 24 (nD d W nw cw B nb cb) 42 (sN 0 0 0) 24
 replace FR:=zF yk3 FR
 clear yk3
 have n6:=BN.o.cell 6
 obtain ⟨w4,yw4,BT,yk4⟩:=nB w3 (sN 0 0 0) 24
 obtain ⟨FR,BA,BN,BR⟩:=uz4 yk4 FR BA BN BR
 clear yk4
 by_cases c1:m=0
 ·have m_:(m == 0)=true:=by simp;omega
  have R:=zH (show r=noS 5 by rw [VV.o,if_pos (.inl c1)])
  clear c1 VV m0 q0 qb
  go_in
  go_wp2_with (first
   | (refine sG (sN 1 1 d.out) BT.o ?_;intro w5 BT6 g6;have BA5:=zA g6 BA;have BN5:=zA g6 BN;have BR5:=zA g6 BR;have FR5:=zA g6 FR;have BT5:=zH BT6)
   | (refine lG BA5.o ?_))
  clear yw1 yw2 yw3 yw4 n6 g6 BT6 FR BA BN BR BT
  refine qM (RI.o _) fun w6 hb=>?_
  obtain ⟨FR5,BA5,BN5,BR5,BT5⟩:=uz5 hb FR5 BA5 BN5 BR5 BT5
  clear hb
  go_wp2_with (first
   | (refine sG (sN 0 0 0) BR5.o ?_;intro w7 BR7 g7))
  refine rG BR7 ?_;exact ⟨by rw [R.o];rfl,(FR5.o.away g7 oM).out⟩
 have m_:(m == 0)=false:=by simp;omega
 by_cases c2:q=0
 ·have q_:(q == 0)=true:=by simp;omega
  have R:=zH (show r=noS 5 by rw [VV.o,if_pos (.inr c2)])
  clear c1 c2 VV m0 q0 qb
  go_in
  go_wp2_with (first
   | (refine sG (sN 1 1 d.out) BT.o ?_;intro w5 BT6 g6;have BA5:=zA g6 BA;have BN5:=zA g6 BN;have BR5:=zA g6 BR;have FR5:=zA g6 FR;have BT5:=zH BT6)
   | (refine lG BA5.o ?_))
  clear yw1 yw2 yw3 yw4 n6 g6 BT6 FR BA BN BR BT
  refine qM (RI.o _) fun w6 hb=>?_
  obtain ⟨FR5,BA5,BN5,BR5,BT5⟩:=uz5 hb FR5 BA5 BN5 BR5 BT5
  clear hb
  obtain ⟨u0,u1,u2⟩:=uc3 BT5 0 1 2
  go_wp2_with fail
  clear u0 u1 u2
  refine qM (RT.o _) fun w8 hb=>?_
  obtain ⟨FR5,BA5,BN5,BR5,BT5⟩:=uz5 hb FR5 BA5 BN5 BR5 BT5
  clear hb
  go_wp2_with (first
   | (refine sG (sN 0 0 0) BR5.o ?_;intro w7 BR7 g7))
  refine rG BR7 ?_;exact ⟨by rw [R.o];rfl,(FR5.o.away g7 oM).out⟩
 have q_:(q == 0)=false:=by simp;omega
 have ob:=qb.out c2
 obtain ⟨m1,hm1⟩:∃ x,d.out*m=x:=⟨_,rfl⟩
 have b1:=dd (a:=d.out) (b:=m) (m:=1024) (n:=1024) oM oM oM oM oM
 have e1:IntKind.i64.wrap (d.out*m)=m1:=by rw [← hm1];exact wJ
 have V2:=zH (show r=(if ¬ (nw:Int)=m1 ∨ 16384 < nw ∨ ¬ (nb:Int)=d.out then noS 9 else ((1,1,d.out),0)) by rw [VV.o,if_neg oM,hm1])
 clear VV c1 c2 m0 q0 qb ob b1 hm1
 by_cases p1:(nw:Int)=m1
 rotate_left
 ·have t1:((nw:Int) != m1)=true:=by simpa using p1
  have R:=zH (show r=noS 9 by rw [V2.o,if_pos (.inl p1)])
  clear V2 p1
  go_in
  go_wp2_with (first
   | (refine sG (sN 1 1 d.out) BT.o ?_;intro w5 BT6 g6;have BA5:=zA g6 BA;have BN5:=zA g6 BN;have BR5:=zA g6 BR;have FR5:=zA g6 FR;have BT5:=zH BT6)
   | (refine lG BA5.o ?_))
  clear yw1 yw2 yw3 yw4 n6 g6 BT6 FR BA BN BR BT
  refine qM (RI.o _) fun w6 hb=>?_
  obtain ⟨FR5,BA5,BN5,BR5,BT5⟩:=uz5 hb FR5 BA5 BN5 BR5 BT5
  clear hb
  obtain ⟨u0,u1,u2⟩:=uc3 BT5 0 1 2
  go_wp2_with fail
  clear u0 u1 u2
  refine qM (RT.o _) fun w8 hb=>?_
  obtain ⟨FR5,BA5,BN5,BR5,BT5⟩:=uz5 hb FR5 BA5 BN5 BR5 BT5
  clear hb
  go_wp2_with fail
  have y2:=fun (x:Ext w8)=>(BA5.o.ext x).cell 2
  have y0:=fun (x:Ext w8)=>(BA5.o.ext x).cell 0
  have y1:=fun (x:Ext w8)=>(BA5.o.ext x).cell 1
  have z6:=fun (x:Ext w8)=>(BN5.o.ext x).cell 6
  have z9:=fun (x:Ext w8)=>(BN5.o.ext x).cell 9
  have z10:=fun (x:Ext w8)=>(BN5.o.ext x).cell 10
  have E1:=zH (fun x:Ext w8=>aR x (RE.o x.1))
  refine aB w8 kM kM (qB _ _) ?_
  repeat (go_big_quiet_step (exact E1.o _))
  refine wpQuiet_nil ?_
  rintro w9 ⟨x,hx⟩
  have hb:Below w8 w8 w9:=by rw [hx];exact x.2
  clear y0 y1 y2 z6 z9 z10 E1 hx x
  obtain ⟨FR5,BA5,BN5,BR5,BT5⟩:=uz5 hb FR5 BA5 BN5 BR5 BT5
  clear hb
  try dsimp only
  go_wp2_with (first
   | (refine sG (sN 0 0 0) BR5.o ?_;intro w7 BR7 g7))
  refine rG BR7 ?_;exact ⟨by rw [R.o];rfl,(FR5.o.away g7 oM).out⟩
 have t1:((nw:Int) != m1)=false:=by simpa using p1
 have P1:=zH p1
 clear p1
 by_cases p2:16384 < nw
 ·have t2:decide (16384 < (nw:Int))=true:=by simp;omega
  have R:=zH (show r=noS 9 by rw [V2.o,if_pos (.inr (.inl p2))])
  clear V2 p2
  go_in
  go_wp2_with (first
   | (refine sG (sN 1 1 d.out) BT.o ?_;intro w5 BT6 g6;have BA5:=zA g6 BA;have BN5:=zA g6 BN;have BR5:=zA g6 BR;have FR5:=zA g6 FR;have BT5:=zH BT6)
   | (refine lG BA5.o ?_))
  clear yw1 yw2 yw3 yw4 n6 g6 BT6 FR BA BN BR BT
  refine qM (RI.o _) fun w6 hb=>?_
  obtain ⟨FR5,BA5,BN5,BR5,BT5⟩:=uz5 hb FR5 BA5 BN5 BR5 BT5
  clear hb
  obtain ⟨u0,u1,u2⟩:=uc3 BT5 0 1 2
  go_wp2_with fail
  clear u0 u1 u2
  refine qM (RT.o _) fun w8 hb=>?_
  obtain ⟨FR5,BA5,BN5,BR5,BT5⟩:=uz5 hb FR5 BA5 BN5 BR5 BT5
  clear hb
  go_wp2_with fail
  have y2:=fun (x:Ext w8)=>(BA5.o.ext x).cell 2
  have y0:=fun (x:Ext w8)=>(BA5.o.ext x).cell 0
  have y1:=fun (x:Ext w8)=>(BA5.o.ext x).cell 1
  have z6:=fun (x:Ext w8)=>(BN5.o.ext x).cell 6
  have z9:=fun (x:Ext w8)=>(BN5.o.ext x).cell 9
  have z10:=fun (x:Ext w8)=>(BN5.o.ext x).cell 10
  have E1:=zH (fun x:Ext w8=>aR x (RE.o x.1))
  refine aB w8 kM kM (qB _ _) ?_
  repeat (go_big_quiet_step (exact E1.o _))
  refine wpQuiet_nil ?_
  rintro w9 ⟨x,hx⟩
  have hb:Below w8 w8 w9:=by rw [hx];exact x.2
  clear y0 y1 y2 z6 z9 z10 E1 hx x
  obtain ⟨FR5,BA5,BN5,BR5,BT5⟩:=uz5 hb FR5 BA5 BN5 BR5 BT5
  clear hb
  try dsimp only
  go_wp2_with (first
   | (refine sG (sN 0 0 0) BR5.o ?_;intro w7 BR7 g7))
  refine rG BR7 ?_;exact ⟨by rw [R.o];rfl,(FR5.o.away g7 oM).out⟩
 have t2:decide (16384 < (nw:Int))=false:=by simp;omega
 have P2:=zH p2
 clear p2
 by_cases p3:(nb:Int)=d.out
 rotate_left
 ·have t3:((nb:Int) != d.out)=true:=by simpa using p3
  have R:=zH (show r=noS 9 by rw [V2.o,if_pos (.inr (.inr p3))])
  clear V2 p3
  go_in
  go_wp2_with (first
   | (refine sG (sN 1 1 d.out) BT.o ?_;intro w5 BT6 g6;have BA5:=zA g6 BA;have BN5:=zA g6 BN;have BR5:=zA g6 BR;have FR5:=zA g6 FR;have BT5:=zH BT6)
   | (refine lG BA5.o ?_))
  clear yw1 yw2 yw3 yw4 n6 g6 BT6 FR BA BN BR BT
  refine qM (RI.o _) fun w6 hb=>?_
  obtain ⟨FR5,BA5,BN5,BR5,BT5⟩:=uz5 hb FR5 BA5 BN5 BR5 BT5
  clear hb
  obtain ⟨u0,u1,u2⟩:=uc3 BT5 0 1 2
  go_wp2_with fail
  clear u0 u1 u2
  refine qM (RT.o _) fun w8 hb=>?_
  obtain ⟨FR5,BA5,BN5,BR5,BT5⟩:=uz5 hb FR5 BA5 BN5 BR5 BT5
  clear hb
  go_wp2_with fail
  have y2:=fun (x:Ext w8)=>(BA5.o.ext x).cell 2
  have y0:=fun (x:Ext w8)=>(BA5.o.ext x).cell 0
  have y1:=fun (x:Ext w8)=>(BA5.o.ext x).cell 1
  have z6:=fun (x:Ext w8)=>(BN5.o.ext x).cell 6
  have z9:=fun (x:Ext w8)=>(BN5.o.ext x).cell 9
  have z10:=fun (x:Ext w8)=>(BN5.o.ext x).cell 10
  have E1:=zH (fun x:Ext w8=>aR x (RE.o x.1))
  refine aB w8 kM kM (qB _ _) ?_
  repeat (go_big_quiet_step (exact E1.o _))
  refine wpQuiet_nil ?_
  rintro w9 ⟨x,hx⟩
  have hb:Below w8 w8 w9:=by rw [hx];exact x.2
  clear y0 y1 y2 z6 z9 z10 E1 hx x
  obtain ⟨FR5,BA5,BN5,BR5,BT5⟩:=uz5 hb FR5 BA5 BN5 BR5 BT5
  clear hb
  try dsimp only
  go_wp2_with (first
   | (refine sG (sN 0 0 0) BR5.o ?_;intro w7 BR7 g7))
  refine rG BR7 ?_;exact ⟨by rw [R.o];rfl,(FR5.o.away g7 oM).out⟩
 have t3:((nb:Int) != d.out)=false:=by simpa using p3
 have R:=zH (show r=((1,1,d.out),0) by rw [V2.o,if_neg (by rintro (h|h|h);exact h P1.o;exact P2.o h;exact h p3)])
 clear V2 p3
 go_in
 go_wp2_with (first
  | (refine sG (sN 1 1 d.out) BT.o ?_;intro w5 BT6 g6;have BA5:=zA g6 BA;have BN5:=zA g6 BN;have BR5:=zA g6 BR;have FR5:=zA g6 FR;have BT5:=zH BT6)
  | (refine lG BA5.o ?_))
 clear yw1 yw2 yw3 yw4 n6 g6 BT6 FR BA BN BR BT
 refine qM (RI.o _) fun w6 hb=>?_
 obtain ⟨FR5,BA5,BN5,BR5,BT5⟩:=uz5 hb FR5 BA5 BN5 BR5 BT5
 clear hb
 obtain ⟨u0,u1,u2⟩:=uc3 BT5 0 1 2
 go_wp2_with fail
 clear u0 u1 u2
 refine qM (RT.o _) fun w8 hb=>?_
 obtain ⟨FR5,BA5,BN5,BR5,BT5⟩:=uz5 hb FR5 BA5 BN5 BR5 BT5
 clear hb
 go_wp2_with fail
 have y2:=fun (x:Ext w8)=>(BA5.o.ext x).cell 2
 have y0:=fun (x:Ext w8)=>(BA5.o.ext x).cell 0
 have y1:=fun (x:Ext w8)=>(BA5.o.ext x).cell 1
 have z6:=fun (x:Ext w8)=>(BN5.o.ext x).cell 6
 have z9:=fun (x:Ext w8)=>(BN5.o.ext x).cell 9
 have z10:=fun (x:Ext w8)=>(BN5.o.ext x).cell 10
 have E1:=zH (fun x:Ext w8=>aR x (RE.o x.1))
 refine aB w8 kM kM (qB _ _) ?_
 repeat (go_big_quiet_step (exact E1.o _))
 refine wpQuiet_nil ?_
 rintro w9 ⟨x,hx⟩
 have hb:Below w8 w8 w9:=by rw [hx];exact x.2
 clear y0 y1 y2 z6 z9 z10 E1 hx x
 obtain ⟨FR5,BA5,BN5,BR5,BT5⟩:=uz5 hb FR5 BA5 BN5 BR5 BT5
 clear hb
 try dsimp only
 go_wp2_with (first
  | (refine lG BT5.o ?_)
  | (refine sG (sN 1 1 d.out) BR5.o ?_;intro w7 BR7 g7))
 refine rG BR7 ?_;exact ⟨by rw [R.o];rfl,(FR5.o.away g7 oM).out⟩
end Go.Proofs.YtmihnoagagbgaaaGreat
namespace Go.Proofs.YtmihnoagagbgaaaGreat
open Go.RowKit Go.ChangeShapes Go.WideShapes Go.Shelf Go.Lib Go.Sort Go.Proofs.YtmihnoagagbgaaaGreat.Ar Tryz
set_option maxRecDepth 100000
set_option maxHeartbeats 16000000
def gJ (x y:Int):Int:=if x < y then -1 else if y < x then 1 else 0
def ft:Ty (Int × Int):=tPair (aa .i64) (aa .i64)
def fQ (x:Int × Int):List Value:=[.int .i64 x.1,.int .i64 x.2]
def iY (x y:Int × Int):Int:=gJ x.1 y.1
theorem ltT (x y:Int × Int):ltOf iY x y=decide (x.1 < y.1):=by
 show decide (iY x y < 0)=_
 unfold iY gJ
 by_cases h:x.1 < y.1
 ·rw [if_pos h,qT h];rfl
 ·rw [if_neg h,dF h]
  split <;> rfl
theorem um:SWO (ltOf iY) where
 irrefl:=fun x=>by rw [ltT];simp
 trans:=fun x y z h1 h2=>by rw [ltT] at *;simp at *;omega
 ntrans:=fun x y z h1 h2=>by rw [ltT] at *;simp at *;omega
theorem gu (x:Int) (w:World):Calls prog 113 #[.int .i64 x] w fun e w'=>e=.returned (.bool false)∧w=w':=by
 have h:(x != x)=false:=by simp
 go_in
 go_wp2
 go_ret
 exact ⟨rfl,rfl⟩
theorem kK (x y:Int) (w:World):Calls prog 76 #[.int .i64 x,.int .i64 y] w fun e w'=>e=.returned (.int .i64 (gJ x y))∧w=w':=by
 by_cases h1:x < y
 ·have t1:decide (x < y)=true:=by simp;exact h1
  have HC:=zH (show (-1:Int)=gJ x y by unfold gJ;rw [if_pos h1])
  clear h1
  go_in
  go_wp2_with (go_at_call 113;refine (gu _ _).mono ?_;rintro e w' ⟨rfl,rfl⟩)
  go_ret
  exact ⟨da HC.o,rfl⟩
 ·have t1:decide (x < y)=false:=by simp;omega
  by_cases h2:y < x
  ·have t2:decide (y < x)=true:=by simp;exact h2
   have HC:=zH (show (1:Int)=gJ x y by unfold gJ;rw [if_neg h1,if_pos h2])
   clear h1 h2
   go_in
   go_wp2_with (go_at_call 113;refine (gu _ _).mono ?_;rintro e w' ⟨rfl,rfl⟩)
   go_ret
   exact ⟨da HC.o,rfl⟩
  ·have t2:decide (y < x)=false:=by simp;omega
   have HC:=zH (show (0:Int)=gJ x y by unfold gJ;rw [if_neg h1,if_neg h2])
   clear h1 h2
   go_in
   go_wp2_with (go_at_call 113;refine (gu _ _).mono ?_;rintro e w' ⟨rfl,rfl⟩)
   go_ret
   exact ⟨da HC.o,rfl⟩
theorem uw (x y:Int × Int) (w:World):Calls prog 75 #[.agg #[.int .i64 x.1,.int .i64 x.2],.agg #[.int .i64 y.1,.int .i64 y.2]] w fun e w'=>e=.returned (.int .i64 (iY x y))∧∃ q os,w'=grow (w.drewN q) os:=by
 obtain ⟨w1,hw1⟩:∃ w1,w.alloc (.cells #[.int .i64 x.1,.int .i64 x.2] 92)=w1:=⟨_,rfl⟩
 obtain ⟨w2,hw2⟩:∃ w2,w1.alloc (.cells #[.int .i64 y.1,.int .i64 y.2] 92)=w2:=⟨_,rfl⟩
 have G:=zH (show w2=grow (w.drewN 0) #[.cells #[.int .i64 x.1,.int .i64 x.2] 92,.cells #[.int .i64 y.1,.int .i64 y.2] 92] by
  rw [← hw2,← hw1,alloc_eq_grow,alloc_eq_grow,grow_grow];rfl)
 have bA:Blk w2 w.heap.size 92 #[.int .i64 x.1,.int .i64 x.2]:=by rw [← hw2,← hw1];exact (Blk.now _ _ _ _ rfl).past _
 have bB:Blk w2 w1.heap.size 92 #[.int .i64 y.1,.int .i64 y.2]:=by rw [← hw2];exact Blk.now _ _ _ _ rfl
 have cA:=fun i=>bA.cell i
 have cB:=fun i=>bB.cell i
 have CM:=zH (fun w=>kK x.1 y.1 w)
 clear bA bB
 unfold iY
 go_in
 go_wp2_with fail
 refine (CM.o _).mono ?_
 rintro e w' ⟨rfl,rfl⟩
 go_wp2
 go_ret
 exact ⟨rfl,0,_,G.o⟩
theorem rI {w:World} {base m g c:Nat} {l:List (Int × Int)} {E:TypeId} (h:Own ft w (fun _=>False) base E (.slice (some ⟨g,0,none⟩) m c) m l):HoldsK fQ 2 w g 0 l.toArray:=by
 obtain ⟨vs,h1,h2⟩:=h.out
 have hlen:=h2.len
 intro j hj
 rw [size_flatK] at hj
 have hj':j < l.length*2:=by simpa using hj
 refine ⟨?_,?_⟩
 ·rw [get_flatK _ _ _ _ (by simpa using hj')]
  have hi:j / 2 < l.length:=oM
  obtain ⟨xs,⟨a,b,rfl,⟨rfl,_⟩,⟨rfl,_⟩⟩,h4⟩:=h2.at_ (j / 2) l[j / 2] (List.getElem?_eq_getElem hi)
  have hm:l.length=m:=h.length dM
  rw [Nat.zero_add,h1.cellAt j (by rw [← hm];show j < l.length*2;omega)]
  have e:l.toArray[j / 2]! = l[j / 2]:=by rw [getElem!_pos _ _ (by simpa using hi)];simp
  show vs[j]?=some ((fQ l.toArray[j / 2]!)[j % 2]!)
  rw [e]
  have h5:=h4 (j % 2)
  have e2:j / 2*ft.size+j % 2=j:=by show j / 2*2+j % 2=j;omega
  rw [e2] at h5
  rcases Nat.mod_two_eq_zero_or_one j with h0|h0
  ·rw [h0] at h5 ⊢;exact h5 _ rfl
  ·rw [h0] at h5 ⊢;exact h5 _ rfl
 ·rw [Nat.zero_add];exact h1.frozenAt j
theorem qE {w:World} {g:Nat} {d:Array (Int × Int)} (h:HoldsK fQ 2 w g 0 d) (k:Nat) (hk:k < d.size) :
  w.cell? ⟨g,k*2,none⟩=some (.int .i64 (d.toList.getD k (0,0)).1)∧w.cell? ⟨g,k*2+1,none⟩=some (.int .i64 (d.toList.getD k (0,0)).2):=by
 have e:d[k]! = d.toList.getD k (0,0):=by
  rw [getElem!_pos d k hk,gD,List.getElem?_eq_getElem (by simpa using hk)];simp
 have h0:=(h (k*2) (by rw [size_flatK];omega)).1
 have h1:=(h (k*2+1) (by rw [size_flatK];omega)).1
 rw [get_flatK _ _ _ _ oM,Nat.zero_add] at h0 h1
 rw [show k*2 / 2=k by omega,show k*2 % 2=0 by omega,e] at h0
 rw [show (k*2+1) / 2=k by omega,show (k*2+1) % 2=1 by omega,e] at h1
 exact ⟨h0,h1⟩
theorem js (w:World) (g n:Nat) (dk:Array (Int × Int)) (os:Array Obj):w.grownBy (sortWorldK fQ 2 w g 0 n dk os) (some g):=by
 have hs:(putRowK fQ 2 (Sort.ahead w n) g 0 dk).heap.size=w.heap.size:=by
  unfold putRowK;simp [putRow,mapBlock]
 refine ⟨rfl,rfl,rfl,?_,fun k hk hne=>?_⟩
 ·show w.heap.size≤((putRowK fQ 2 (Sort.ahead w n) g 0 dk).heap ++ os).size
  rw [Array.size_append,hs];omega
 ·show ((putRowK fQ 2 (Sort.ahead w n) g 0 dk).heap ++ os)[k]?=_
  rw [Array.getElem?_append_left (by rw [hs];exact hk)]
  unfold putRowK
  simp only [putRow,mapBlock,Array.getElem?_modify]
  rw [if_neg (fun e=>hne (by rw [e]))]
  rfl
theorem r8 (g c m base:Nat) (l:List (Int × Int)) (n:Int) (w:World) (own:Own ft w (fun _=>False) base 92 (.slice (some ⟨g,0,none⟩) m c) m l) (hn:0 < n∧n≤1048576)
  (hb:∀ x ∈ l,0≤x.1∧x.1≤1099511627776∧0≤x.2∧x.2≤1099511627776) (hm:m≤1099511627776) :
  Calls prog 41 #[.slice (some ⟨g,0,none⟩) m c,.int .i64 n] w fun e w'=>∃ r,e=.returned (.int .i64 r)∧LeastFree l n r∧w.grownBy w' (some g):=by
 have hlen:=own.length dM
 have hH:=rI own
 have hg:=(own.lt g rfl).2
 have eg:∀ args w,(callFunc 75 args).run prog w=.ok (.enter 75 args) w:=enters_of func75 kM rfl
 have hs:l.toArray.size=m:=by simpa using hlen
 have hso:=AnyQ.slices_SortFunc Tryz.lSrt 2 (fun w=>by kernel_rfl) (fun w=>by kernel_rfl) fQ (fun _=>rfl) (fun x v hv=>by simp only [fQ,List.mem_cons,List.not_mem_nil,or_false] at hv;rcases hv with rfl|rfl <;> rfl) iY um 75 #[] g 0 c l.toArray w eg
  (fun k os dk hsz x y=>uw x y _) hH hg (by rw [hs];omega)
 rw [hs] at hso
 change Calls prog 74 _ _ _ at hso
 have SO:=zH hso
 have HB:=zH hb
 have HH:=zH hH
 have HS:=zH hs
 clear hso hb hlen hH own eg hs
 go_in
 go_wp2_with fail
 go_step3
 go_wp2_with fail
 refine SO.o.mono ?_
 rintro e w1 ⟨rfl,d,k,os,hp,hsd,hw1⟩
 have hd:d.size=m:=by rw [hp.1,HS.o]
 have hH1:HoldsK fQ 2 w1 g 0 d:=by rw [hw1];exact holdsK_sortWorldK fQ 2 w g 0 k l.toArray d os hg HH.o hp.1
 have hG:w.grownBy w1 (some g):=by rw [hw1];exact js w g k d os
 have hperm:d.toList.Perm l:=by
  have:=hp.2.2
  rw [show d.extract 0 m=d by rw [← hd];simp,show l.toArray.extract 0 m=l.toArray by rw [← HS.o];simp] at this
  simpa using this
 have hsort:∀ i j,i < j → j < d.toList.length → (d.toList.getD i (0,0)).1≤(d.toList.getD j (0,0)).1:=by
  intro i j hij hj
  have hj':j < d.size:=by simpa using hj
  have:=hsd i j (zl _) hij (by rw [← hd];exact hj')
  rw [ltT,getElem!_pos d j hj',getElem!_pos d i oM] at this
  rw [gD,gD,List.getElem?_eq_getElem hj,List.getElem?_eq_getElem oM]
  simp at this ⊢
  exact this
 have LF:=zH (scan_least (n:=n) hperm hsort)
 have SC:=zH (fun k hk=>scan_ok (n:=n) hsort k hk)
 have BD:=zH (show ∀ j,j < m → 0≤(d.toList.getD j (0,0)).1∧(d.toList.getD j (0,0)).1≤1099511627776∧0≤(d.toList.getD j (0,0)).2∧(d.toList.getD j (0,0)).2≤1099511627776 from fun j hj=>by
  refine HB.o _ (hperm.mem_iff.1 ?_)
  rw [gD,List.getElem?_eq_getElem (by simp;omega)]
  exact List.getElem_mem _)
 have CE:=zH (fun k hk=>qE hH1 k hk)
 have HG:=zH hG
 have HD:=zH (show d.toList.length=m by simpa using hd)
 have HD2:=zH hd
 clear hw1 hp hsd hH1 hG hperm hsort hd HH HS SO HB
 generalize d.toList=dl at *
 go_wp2_with fail
 go_step3
 go_wp2
 go_loopw [5,6] (fun v u wr=>∃ k:Nat,k≤m∧u=.int .i64 k∧v=.int .i64 (scanTo dl n k)∧w1=wr) (fun _ u _=>m - (intOf u).toNat)
 case atStart=>exact ⟨0,zl _,rfl,rfl,rfl⟩
 case round =>
  obtain ⟨k,hk,rfl,rfl,rfl⟩:=hrel
  have hnn:=(SC.o k (by rw [HD.o];exact hk)).nn
  have hub:scanTo dl n k≤1099511627776:=by
   rcases (SC.o k (by rw [HD.o];exact hk)).from_ with h|⟨j,hj,h⟩
   ·omega
   ·rw [h];exact (BD.o j oM).2.2.2
  have HS:=zH (show scanTo dl n (k+1)=if scanTo dl n k < (dl.getD k (0,0)).2∧(dl.getD k (0,0)).1 < scanTo dl n k+n then (dl.getD k (0,0)).2 else scanTo dl n k from rfl)
  generalize hsa:scanTo dl n k=a at *
  have HSA:=zH hsa
  clear hsa
  by_cases hlt:k < m
  ·have t1:decide ((k:Int) < (m:Int))=true:=by simp;omega
   have pk:(k:Int) < (m:Int):=oM
   obtain ⟨q0,q1⟩:=CE.o k (by rw [HD2.o];exact hlt)
   have bd:=BD.o k hlt
   generalize dl.getD k (0,0)=x at *
   obtain ⟨f,t⟩:=x
   simp only at q0 q1 bd HS
   have e1:IntKind.i64.wrap (a+n)=a+n:=wJ
   by_cases g1:a < t
   ·have y1:decide (a < t)=true:=by simp;exact g1
    by_cases g2:f < a+n
    ·have y2:decide (f < a+n)=true:=by simp;exact g2
     rw [if_pos ⟨g1,g2⟩] at HS
     clear g1 g2
     go_wp2
     exact ⟨⟨k+1,by omega,by go_num,by rw [HS.o],by trivial⟩,by simp [intOf];omega⟩
    ·have y2:decide (f < a+n)=false:=by simp;omega
     rw [if_neg oM] at HS
     clear g1 g2
     go_wp2
     exact ⟨⟨k+1,by omega,by go_num,by rw [HS.o],by trivial⟩,by simp [intOf];omega⟩
   ·have y1:decide (a < t)=false:=by simp;omega
    rw [if_neg oM] at HS
    clear g1
    go_wp2
    exact ⟨⟨k+1,by omega,by go_num,by rw [HS.o],by trivial⟩,by simp [intOf];omega⟩
  ·obtain rfl:k=m:=oM
   have t1:decide ((k:Int) < (k:Int))=false:=by simp
   go_wp2_with fail
   rw [Exit.noGoto_ret]
   go_ret
   exact ⟨a,rfl,by have:=LF.o;rw [HD.o,HSA.o] at this;exact this,HG.o⟩
end Go.Proofs.YtmihnoagagbgaaaGreat
