/- The shape that a node makes (layers 18, 25): dense.Shape. -/
import Derived.Test.YtbecbfpoahhpnaaGreatJ18
set_option linter.unusedVariables false
set_option linter.unusedSimpArgs false
set_option maxRecDepth 100000
set_option maxHeartbeats 16000000
namespace Go.Proofs.YtbecbfpoahhpnaaGreat
open Go.RowKit Go.ChangeShapes Go.WideShapes Tryz
theorem uQ (h v c:Int) (d:af) (W:QA) (nw cw:Nat) (B:QA) (nb cb:Nat) (w:World) (h0:InK .i64 h) (h1:InK .i64 v) (h2:InK .i64 c) (O:InK .i64 d.out) (ah:nw=d.w.length) (an:nb=d.bias.length) (mw:nw≤1048576) (mb:nb≤1048576) :
  Calls prog 141 #[.agg (sN h v c),.agg (nD d W nw cw B nb cb)] w fun e w'=>e=aY (d9 h v c d)∧Below w w w':=by
 obtain ⟨r,hr⟩:∃ r,d9 h v c d=r:=⟨_,rfl⟩;rw [hr];unfold d9 at hr;rw [← ah,← an] at hr;obtain ⟨N,P,Z,RE⟩:=zh4 hr.symm (fun w=>aV h c v w h0 h1 h2) (fun w=>aV 1 d.out 1 w dM dM O) (fun w=>bL h c v w h0 h1 h2);have m0:=aF h v c;have q0:=aF 1 1 d.out;have qb:=zH (eX (h:=1) (v:=1) (c:=d.out));obtain ⟨m,hm⟩:∃ m,ag h v c=m:=⟨_,rfl⟩;obtain ⟨q,hq⟩:∃ q,ag 1 1 d.out=q:=⟨_,rfl⟩;rw [hm] at N P RE m0;rw [hq] at N Z q0 qb;clear hr h0 h1 h2 O ah an hm hq;have j:=zW w;obtain ⟨w1,w2,w3,E,F,G,l1,l2,l3,C,z,D,ad⟩:=bk3 w (sN h v c) 23 (nD d W nw cw B nb cb) 84 (sN 0 0 0) 23;replace j:=zF ad j;clear ad;have n6:=z.o.cell 6;obtain ⟨w4,H,I,al⟩:=nB w3 (sN 0 0 0) 23;obtain ⟨j,C,z,D⟩:=uz4 al j C z D;clear al;by_cases c1:m=0
 ·have m_:decide (0 < m)=false:=sO;have R:=zH (show r=noS 5 by rw [N.o,if_pos (.inl c1)]);clear c1 N m0 q0 qb;go_in
  go_wp2_with (first
   | (refine sG (sN 1 1 d.out) I.o ?_;intro w5 p g;have t:=zA g C;have i:=zA g z;have s:=zA g D;have f:=zA g j;have l:=zH p)
   | (refine lG t.o ?_))
  clear E F G H n6 g p j C z D I;refine qM (P.o _) fun w6 y=>?_;obtain ⟨f,t,i,s,l⟩:=uz5 y f t i s l;clear y
  go_wp2_with (first
   | (refine sG (sN 0 0 0) s.o ?_;intro w7 k K))
  refine rG k ?_;exact ⟨by rw [R.o];rfl,(f.o.away K oM).out⟩
 have m_:decide (0 < m)=true:=sO;by_cases c2:q=0
 ·have q_:decide (0 < q)=false:=sO;have R:=zH (show r=noS 5 by rw [N.o,if_pos (.inr c2)]);clear c1 c2 N m0 q0 qb;go_in
  go_wp2_with (first
   | (refine sG (sN 1 1 d.out) I.o ?_;intro w5 p g;have t:=zA g C;have i:=zA g z;have s:=zA g D;have f:=zA g j;have l:=zH p)
   | (refine lG t.o ?_))
  clear E F G H n6 g p j C z D I;refine qM (P.o _) fun w6 y=>?_;obtain ⟨f,t,i,s,l⟩:=uz5 y f t i s l;clear y;obtain ⟨u0,u1,u2⟩:=uc3 l 0 1 2;go_wp2_with fail;clear u0 u1 u2;refine qM (Z.o _) fun w8 y=>?_;obtain ⟨f,t,i,s,l⟩:=uz5 y f t i s l;clear y
  go_wp2_with (first
   | (refine sG (sN 0 0 0) s.o ?_;intro w7 k K))
  refine rG k ?_;exact ⟨by rw [R.o];rfl,(f.o.away K oM).out⟩
 have q_:decide (0 < q)=true:=sO;have ob:=qb.out c2;obtain ⟨m1,Q⟩:∃ x,d.out*m=x:=⟨_,rfl⟩;have b1:=et (a:=d.out) (b:=m) (m:=1024) (n:=1024) oM oM oM oM oM;have e1:IntKind.i64.wrap (d.out*m)=m1:=by rw [← Q];exact wJ
 have M:=zH (show r=(if ¬ (nw:Int)=m1 ∨ 16384 < nw ∨ ¬ (nb:Int)=d.out then noS 9 else ((1,1,d.out),0)) by rw [N.o,if_neg oM,Q]);clear N c1 c2 m0 q0 qb ob b1 Q;by_cases p1:(nw:Int)=m1;rotate_left
 ·have t1:((nw:Int) != m1)=true:=by simpa using p1
  have R:=zH (show r=noS 9 by rw [M.o,if_pos (.inl p1)]);clear M p1;go_in
  go_wp2_with (first
   | (refine sG (sN 1 1 d.out) I.o ?_;intro w5 p g;have t:=zA g C;have i:=zA g z;have s:=zA g D;have f:=zA g j;have l:=zH p)
   | (refine lG t.o ?_))
  clear E F G H n6 g p j C z D I;refine qM (P.o _) fun w6 y=>?_;obtain ⟨f,t,i,s,l⟩:=uz5 y f t i s l;clear y;obtain ⟨u0,u1,u2⟩:=uc3 l 0 1 2;go_wp2_with fail;clear u0 u1 u2;refine qM (Z.o _) fun w8 y=>?_;obtain ⟨f,t,i,s,l⟩:=uz5 y f t i s l;clear y;go_wp2_with fail;have V:=fun (x:Ext w8)=>(t.o.ext x).cell 2;have T:=fun (x:Ext w8)=>(t.o.ext x).cell 0;have U:=fun (x:Ext w8)=>(t.o.ext x).cell 1;have X:=fun (x:Ext w8)=>(i.o.ext x).cell 6;have Y:=fun (x:Ext w8)=>(i.o.ext x).cell 9;have A:=fun (x:Ext w8)=>(i.o.ext x).cell 10;have J:=zH (fun x:Ext w8=>aB x (RE.o x.1));refine am w8 kM kM (qB _ _) ?_;repeat (go_big_quiet_step (exact J.o _))
  refine wpQuiet_nil ?_;rintro S ⟨x,L⟩;have y:Below w8 w8 S:=by rw [L];exact x.2
  clear T U V X Y A J L x;obtain ⟨f,t,i,s,l⟩:=uz5 y f t i s l;clear y;try dsimp only
  go_wp2_with (first
   | (refine sG (sN 0 0 0) s.o ?_;intro w7 k K))
  refine rG k ?_;exact ⟨by rw [R.o];rfl,(f.o.away K oM).out⟩
 have t1:((nw:Int) != m1)=false:=by simpa using p1
 have P1:=zH p1;clear p1;by_cases p2:16384 < nw
 ·have t2:decide (16384 < (nw:Int))=true:=sO;have R:=zH (show r=noS 9 by rw [M.o,if_pos (.inr (.inl p2))]);clear M p2;go_in
  go_wp2_with (first
   | (refine sG (sN 1 1 d.out) I.o ?_;intro w5 p g;have t:=zA g C;have i:=zA g z;have s:=zA g D;have f:=zA g j;have l:=zH p)
   | (refine lG t.o ?_))
  clear E F G H n6 g p j C z D I;refine qM (P.o _) fun w6 y=>?_;obtain ⟨f,t,i,s,l⟩:=uz5 y f t i s l;clear y;obtain ⟨u0,u1,u2⟩:=uc3 l 0 1 2;go_wp2_with fail;clear u0 u1 u2;refine qM (Z.o _) fun w8 y=>?_;obtain ⟨f,t,i,s,l⟩:=uz5 y f t i s l;clear y;go_wp2_with fail;have V:=fun (x:Ext w8)=>(t.o.ext x).cell 2;have T:=fun (x:Ext w8)=>(t.o.ext x).cell 0;have U:=fun (x:Ext w8)=>(t.o.ext x).cell 1;have X:=fun (x:Ext w8)=>(i.o.ext x).cell 6;have Y:=fun (x:Ext w8)=>(i.o.ext x).cell 9;have A:=fun (x:Ext w8)=>(i.o.ext x).cell 10;have J:=zH (fun x:Ext w8=>aB x (RE.o x.1));refine am w8 kM kM (qB _ _) ?_;repeat (go_big_quiet_step (exact J.o _))
  refine wpQuiet_nil ?_;rintro S ⟨x,L⟩;have y:Below w8 w8 S:=by rw [L];exact x.2
  clear T U V X Y A J L x;obtain ⟨f,t,i,s,l⟩:=uz5 y f t i s l;clear y;try dsimp only
  go_wp2_with (first
   | (refine sG (sN 0 0 0) s.o ?_;intro w7 k K))
  refine rG k ?_;exact ⟨by rw [R.o];rfl,(f.o.away K oM).out⟩
 have t2:decide (16384 < (nw:Int))=false:=sO;have P2:=zH p2;clear p2;by_cases p3:(nb:Int)=d.out;rotate_left
 ·have t3:((nb:Int) != d.out)=true:=by simpa using p3
  have R:=zH (show r=noS 9 by rw [M.o,if_pos (.inr (.inr p3))]);clear M p3;go_in
  go_wp2_with (first
   | (refine sG (sN 1 1 d.out) I.o ?_;intro w5 p g;have t:=zA g C;have i:=zA g z;have s:=zA g D;have f:=zA g j;have l:=zH p)
   | (refine lG t.o ?_))
  clear E F G H n6 g p j C z D I;refine qM (P.o _) fun w6 y=>?_;obtain ⟨f,t,i,s,l⟩:=uz5 y f t i s l;clear y;obtain ⟨u0,u1,u2⟩:=uc3 l 0 1 2;go_wp2_with fail;clear u0 u1 u2;refine qM (Z.o _) fun w8 y=>?_;obtain ⟨f,t,i,s,l⟩:=uz5 y f t i s l;clear y;go_wp2_with fail;have V:=fun (x:Ext w8)=>(t.o.ext x).cell 2;have T:=fun (x:Ext w8)=>(t.o.ext x).cell 0;have U:=fun (x:Ext w8)=>(t.o.ext x).cell 1;have X:=fun (x:Ext w8)=>(i.o.ext x).cell 6;have Y:=fun (x:Ext w8)=>(i.o.ext x).cell 9;have A:=fun (x:Ext w8)=>(i.o.ext x).cell 10;have J:=zH (fun x:Ext w8=>aB x (RE.o x.1));refine am w8 kM kM (qB _ _) ?_;repeat (go_big_quiet_step (exact J.o _))
  refine wpQuiet_nil ?_;rintro S ⟨x,L⟩;have y:Below w8 w8 S:=by rw [L];exact x.2
  clear T U V X Y A J L x;obtain ⟨f,t,i,s,l⟩:=uz5 y f t i s l;clear y;try dsimp only
  go_wp2_with (first
   | (refine sG (sN 0 0 0) s.o ?_;intro w7 k K))
  refine rG k ?_;exact ⟨by rw [R.o];rfl,(f.o.away K oM).out⟩
 have t3:((nb:Int) != d.out)=false:=by simpa using p3
 have R:=zH (show r=((1,1,d.out),0) by rw [M.o,if_neg (by rintro (h|h|h);exact h P1.o;exact P2.o h;exact h p3)]);clear M p3;go_in
 go_wp2_with (first
  | (refine sG (sN 1 1 d.out) I.o ?_;intro w5 p g;have t:=zA g C;have i:=zA g z;have s:=zA g D;have f:=zA g j;have l:=zH p)
  | (refine lG t.o ?_))
 clear E F G H n6 g p j C z D I;refine qM (P.o _) fun w6 y=>?_;obtain ⟨f,t,i,s,l⟩:=uz5 y f t i s l;clear y;obtain ⟨u0,u1,u2⟩:=uc3 l 0 1 2;go_wp2_with fail;clear u0 u1 u2;refine qM (Z.o _) fun w8 y=>?_;obtain ⟨f,t,i,s,l⟩:=uz5 y f t i s l;clear y;go_wp2_with fail;have V:=fun (x:Ext w8)=>(t.o.ext x).cell 2;have T:=fun (x:Ext w8)=>(t.o.ext x).cell 0;have U:=fun (x:Ext w8)=>(t.o.ext x).cell 1;have X:=fun (x:Ext w8)=>(i.o.ext x).cell 6;have Y:=fun (x:Ext w8)=>(i.o.ext x).cell 9;have A:=fun (x:Ext w8)=>(i.o.ext x).cell 10;have J:=zH (fun x:Ext w8=>aB x (RE.o x.1));refine am w8 kM kM (qB _ _) ?_;repeat (go_big_quiet_step (exact J.o _))
 refine wpQuiet_nil ?_;rintro S ⟨x,L⟩;have y:Below w8 w8 S:=by rw [L];exact x.2
 clear T U V X Y A J L x;obtain ⟨f,t,i,s,l⟩:=uz5 y f t i s l;clear y;try dsimp only
 go_wp2_with (first
  | (refine lG l.o ?_)
  | (refine sG (sN 1 1 d.out) s.o ?_;intro w7 k K))
 refine rG k ?_;exact ⟨by rw [R.o];rfl,(f.o.away K oM).out⟩
open Fx
theorem rQ (H V C P:Nat) (A:QA) (n g:Nat) (l:List Int) (d:af) (W:QA) (nw J:Nat) (B:QA) (nb cb:Nat) (h o:Nat) (w:World)
  (hl:xA w A n g l) (bh:xA w W nw J d.w) (hn:n=H*V*C) (bH:n≤1048576) (hV:V≤1048576) (bO:1≤C) (hC:C≤341) (hp:d.p=P) (hP:P≤4) (hz:InK .i8 d.za)
  (hh:h≤1000000) (hH:H≤1048576) (ho:o≤1024) (bs:(o+1)*(9*C)≤nw) (hm:V+2*P≤1000000) :
  Calls prog 220 #[.agg #[.int .i64 H,.int .i64 V,.int .i64 C,.slice A n g,.int .i64 d.kind,.int .i64 d.a,.int .i64 d.b,.int .i64 d.k,.int .i64 d.s,.int .i64 d.p,.int .i64 d.out,.int .i8 d.za,.int .i8 d.zb,.slice W nw J,.slice B nb cb,.int .i32 d.qm,.int .i64 d.qs,.int .i8 d.qz,.int .i32 d.rm,.int .i64 d.rs,.int .i8 d.rz,.int .i8 d.lo,.int .i8 d.hi],.int .i64 h,.int .i64 o] w (RetSl (ab .i64) w (mJ (sL H V C l d.za P h) (sQ d.w C o) (V+2*P) (3*C))):=by
 have I:=zW w;obtain ⟨R,T⟩:=zh2 (Old.now hl) (Old.now bh);obtain ⟨w1,bd,G,br⟩:=nB w #[.int .i64 H,.int .i64 V,.int .i64 C,.slice A n g,.int .i64 d.kind,.int .i64 d.a,.int .i64 d.b,.int .i64 d.k,.int .i64 d.s,.int .i64 d.p,.int .i64 d.out,.int .i8 d.za,.int .i8 d.zb,.slice W nw J,.slice B nb cb,.int .i32 d.qm,.int .i64 d.qs,.int .i8 d.qz,.int .i32 d.rm,.int .i64 d.rs,.int .i8 d.rz,.int .i8 d.lo,.int .i8 d.hi] 317;obtain ⟨I,R,T⟩:=uz3 br I R T;clear br;have c2:=G.o.cell 2;obtain ⟨HN,HP,bc,HZ⟩:=zh4 hn hp bs hz;have l1:w1.heap.size=w.heap.size+1:=by rw [← bd];simp
 have Q:=zH (show gQ w1.heap.size ((List.range 0).map fun r:Nat=>hX H V C l d.za P ((h+r / C:Nat) - P) (r % C)) ((List.range 0).map fun r:Nat=>oC d.w C o (r / C) (r % C)) 0 (.slice none 0 0) (.slice none 0 0) w1 from ⟨Own.nil _ _ _ _ _,Own.nil _ _ _ _ _,.inl rfl⟩);clear hn hp bs hz hl bh;go_in;go_wp2_with fail;clear bd c2;obtain ⟨g0,e0⟩:∃ m,w.heap.size=m:=⟨_,rfl⟩;obtain ⟨g1,e1⟩:∃ m,w1.heap.size=m:=⟨_,rfl⟩;rw [e0,e1] at l1;rw [e0] at G;rw [e1] at Q;rw [e0];have F:w.heap.size≤g1:=oM;go_loopw [7,8,11] (fun u v ii wr=>∃ i:Nat,i≤3∧ii=.int .i64 i∧Far w wr∧Old w (ab .i8) wr A n g l∧Old w (ab .i8) wr W nw J d.w∧Blk wr g0 317 #[.int .i64 H,.int .i64 V,.int .i64 C,.slice A n g,.int .i64 d.kind,.int .i64 d.a,.int .i64 d.b,.int .i64 d.k,.int .i64 d.s,.int .i64 d.p,.int .i64 d.out,.int .i8 d.za,.int .i8 d.zb,.slice W nw J,.slice B nb cb,.int .i32 d.qm,.int .i64 d.qs,.int .i8 d.qz,.int .i32 d.rm,.int .i64 d.rs,.int .i8 d.rz,.int .i8 d.lo,.int .i8 d.hi] ∧
   gQ g1 ((List.range (i*C)).map fun r:Nat=>hX H V C l d.za P ((h+r / C:Nat) - P) (r % C)) ((List.range (i*C)).map fun r:Nat=>oC d.w C o (r / C) (r % C)) (i*C) u v wr) (fun _ _ ii _=>3 - (intOf ii).toNat)
 case atStart=>exact ⟨0,zl _,rfl,I.o,R.o,T.o,G.o,by rw [Nat.zero_mul];exact Q.o⟩
 case round =>
  obtain ⟨i,hi,rfl,hf,N,O,L,M⟩:=hrel;clear I R T G Q;obtain ⟨I,R,T,G,Q⟩:=zh5 hf N O L M;clear hf N O L M;by_cases bD:i < 3
  ·have p1:(i:Int) < 3:=oM;have c2:=G.o.cell 2;go_wp2_with fail;clear c2;go_loopw [7,8,18] (fun u v ii wr=>∃ c:Nat,c≤C∧ii=.int .i64 c∧Far w wr∧Old w (ab .i8) wr A n g l∧Old w (ab .i8) wr W nw J d.w∧Blk wr g0 317 #[.int .i64 H,.int .i64 V,.int .i64 C,.slice A n g,.int .i64 d.kind,.int .i64 d.a,.int .i64 d.b,.int .i64 d.k,.int .i64 d.s,.int .i64 d.p,.int .i64 d.out,.int .i8 d.za,.int .i8 d.zb,.slice W nw J,.slice B nb cb,.int .i32 d.qm,.int .i64 d.qs,.int .i8 d.qz,.int .i32 d.rm,.int .i64 d.rs,.int .i8 d.rz,.int .i8 d.lo,.int .i8 d.hi] ∧
    gQ g1 ((List.range (i*C+c)).map fun r:Nat=>hX H V C l d.za P ((h+r / C:Nat) - P) (r % C)) ((List.range (i*C+c)).map fun r:Nat=>oC d.w C o (r / C) (r % C)) (i*C+c) u v wr) (fun _ _ ii _=>C - (intOf ii).toNat)
   case atStart=>exact ⟨0,zl _,rfl,I.o,R.o,T.o,G.o,Q.o⟩
   case round =>
    obtain ⟨c,hc,rfl,hf,N,O,L,M⟩:=hrel;clear I R T G Q;obtain ⟨I,R,T,G,Q⟩:=zh5 hf N O L M;clear hf N O L M;by_cases ac:c < C
    ·have p2:(c:Int) < (C:Int):=oM;go_wp2_with fail;have bR:i*C+c≤1024:=by
      have:i*C≤2*C:=Nat.mul_le_mul_right C oM;omega
     have c9:=G.o.cell 9;simp only [gX] at c9;rw [HP.o] at c9;obtain ⟨Z,bB⟩:∃ m,h+i=m:=⟨_,rfl⟩;have e1:IntKind.i64.wrap ((h:Int)+(i:Int))=(Z:Int):=(wJ).trans oM;have e2:IntKind.i64.wrap ((Z:Int) - (P:Int))=(Z:Int) - (P:Int):=wJ;have kd:Below wr wr wr.drew:=(qB _ _).drew;obtain ⟨FD,ax,bA,al,ad⟩:=zh5 (I.o.fut kd) (R.o.fut kd) (T.o.fut kd) (Q.o.below kd) (G.o.fut kd);have bo:=au kd c9

     refine wp_region_held_drew (S:=fun w'=>w'.cell? ⟨g0,9,none⟩=some (.int .i64 P)∧Blk w' g0 317 #[.int .i64 H,.int .i64 V,.int .i64 C,.slice A n g,.int .i64 d.kind,.int .i64 d.a,.int .i64 d.b,.int .i64 d.k,.int .i64 d.s,.int .i64 d.p,.int .i64 d.out,.int .i8 d.za,.int .i8 d.zb,.slice W nw J,.slice B nb cb,.int .i32 d.qm,.int .i64 d.qs,.int .i8 d.qz,.int .i32 d.rm,.int .i64 d.rs,.int .i8 d.rz,.int .i8 d.lo,.int .i8 d.hi]∧Below w w w') kM ?_ (fun f=>?_)
     ·exact ⟨bo,ad.o,FD.o.out⟩
     refine kH' 0 f ?_;refine tkH 1 rfl (yP #[.int .i64 H,.int .i64 V,.int .i64 C,.slice A n g,.int .i64 d.kind,.int .i64 d.a,.int .i64 d.b,.int .i64 d.k,.int .i64 d.s,.int .i64 d.p,.int .i64 d.out,.int .i8 d.za,.int .i8 d.zb,.slice W nw J,.slice B nb cb,.int .i32 d.qm,.int .i64 d.qs,.int .i8 d.qz,.int .i32 d.rm,.int .i64 d.rs,.int .i8 d.rz,.int .i8 d.lo,.int .i8 d.hi] (fun w hs=>hs.2.1)) f ?_;try simp only [pX]
     refine kH' 2 f ?_;refine kH' 3 f ?_;refine kH' 4 f ?_;refine kH' 5 f ?_;refine kH' 6 f ?_;refine kH' 7 f ?_;refine kH' 8 f ?_;refine kH' 9 f ?_;refine kH' 13 f ?_;refine tkH 14 rfl (yP #[.int .i64 H,.int .i64 V,.int .i64 C,.slice A n g,.int .i64 d.kind,.int .i64 d.a,.int .i64 d.b,.int .i64 d.k,.int .i64 d.s,.int .i64 d.p,.int .i64 d.out,.int .i8 d.za,.int .i8 d.zb,.slice W nw J,.slice B nb cb,.int .i32 d.qm,.int .i64 d.qs,.int .i8 d.qz,.int .i32 d.rm,.int .i64 d.rs,.int .i8 d.rz,.int .i8 d.lo,.int .i8 d.hi] (fun w hs=>hs.2.1)) f ?_;try simp only [pX]
     refine kH' 15 f ?_;refine kH' 16 f ?_;refine kH' 17 f ?_;refine rH 10 rfl (fun K q=>?_);go_simp
     (refine (Dh H V C P A n g l d W nw J B nb cb _ c _ ax.o.all HN.o bH hV oM HP.o hP HZ.o ac oM oM hH).mono ?_;rintro e U ⟨RA,rn,rc,rfl,rs,y⟩;have F3:=zH (FD.o.fut y);have x:=zH (al.o.below y);have ay:=zH (ad.o.fut y);have k9:=au y bo;have bw:=zH (ax.o.fut y);have bx:=zH (bA.o.fut y);have bM:g1≤U.heap.size:=(by have:=ay.o.lt;omega);have RS:=zH (rs.more (S':=kG g1 u7 u8 U) (fun b Y=>⟨by have:=ad.o.lt;have:=Y.1;omega,Y.2,fun e=>absurd (al.o.rows.lt b e.symm).2 (Nat.not_lt.2 Y.1),fun e=>absurd (al.o.taps.lt b e.symm).2 (Nat.not_lt.2 Y.1)⟩));have nu:=zH (show some g0 ≠ u7.ownBlock from fun e=>absurd (x.o.rows.lt g0 e.symm).1 oM);have nv:=zH (show some g0 ≠ u8.ownBlock from fun e=>absurd (x.o.taps.lt g0 e.symm).1 oM))
     refine xK q (zR y f) fun f=>?_;clear q K;refine rH 11 rfl (fun K q=>?_);go_simp;have bn:Below U U (U.alloc (.cells #[.slice RA rn rc] 320)):=(qB _ _).alloc (lR _) _;have y:Below U U (U.alloc (.cells #[.slice RA rn rc] 320)):=bn;refine xK q (zR y f) fun f=>?_;clear q K;refine rH 12 rfl (fun K q=>?_)
     (rw [if_pos (by rfl)];refine iT (W:=U) (cs:=#[.slice RA rn rc]) (E:=320) (t:=tSlice (ab .i16)) (.tmp 21) (.tmp 32) rfl yu rfl x.o.rows 1 rfl (hX H V C l d.za P ((Z:Int) - P) c) RS.o.rep mL oM bM (fun b y=>⟨y.2.1,y.2.2.1⟩) ?_;intro u4 w4 an z bt;refine q.out _ _ ⟨cM z k9 nu.out,ay.o.row' z nu.out,F3.o.out.grown z F3.o.size (fun k h=>lT F (x.o.rows.lt k h).1)⟩ (fun f=>?_);have R3:=x.o.row an z bt;have O1:=zH R3.1;have O2:=zH R3.2.1;have N1:=zH R3.2.2;have F4:=zH (show Far w w4 from ⟨f.2.2⟩);have bp:=zH (bw.o.row z (fun k h=>lT F (x.o.rows.lt k h).1));have be:=zH (bx.o.row z (fun k h=>lT F (x.o.rows.lt k h).1));clear R3 an z bt y bn)
     clear q K;try simp only [pX]
     refine rH 18 rfl (fun K q=>?_);go_simp
     (refine qM (Dt H V C A n g d W nw J B nb cb o i c _ be.o.all oM ho bD ac bc.o) fun w5 y=>?_;have F5:=zH (F4.o.fut y);have bb:=zH (bp.o.fut y);have X:=zH (be.o.fut y);have P1:=zH ((O1.o.below y (lR _) (fun b y=>y.2.1)).more (S':=kG g1 u4 u8 w5) fun b ⟨h1,h2,h3⟩=>⟨h1,Nat.lt_of_lt_of_le h2 y.size,h3⟩);have P2:=zH (O2.o.below y (lR _) (fun _ h=>h.elim));have bN:g1≤w5.heap.size:=(by have:=f.2.1.lt;have:=y.size;omega))
     refine xK q (zR y f) fun f=>?_;clear q K;refine rH 19 rfl (fun K q=>?_)
     (rw [if_pos (by rfl)];have S5:=zH f;refine zd (.tmp 39) rfl vQ (i3 .i8 (fun j=>d.w.getD (((o*3+i)*3+j)*C+c) 0)) rfl rfl dM ?_;have kb:Below w5 w5 (w5.alloc (.cells (i3 .i8 (fun j=>d.w.getD (((o*3+i)*3+j)*C+c) 0)) 345)):=(qB _ _).alloc (lR _) _;refine q.out _ _ ⟨au kb f.1,f.2.1.later kb,aa kb f.2.2⟩ (fun f=>?_);clear kb)
     clear q K;try simp only [pX]
     refine rH 20 rfl (fun K q=>?_)
     (rw [if_pos (by rfl)];refine iT (W:=w5) (cs:=i3 .i8 (fun j=>d.w.getD (((o*3+i)*3+j)*C+c) 0)) (E:=345) (t:=tW3) (.tmp 34) (.tmp 40) rfl vQ rfl P2.o 1 rfl (oC d.w C o i c) ⟨rfl,X.o.out.allK _,X.o.out.allK _,X.o.out.allK _⟩ mL oM bN (fun _ h=>h.elim) ?_;intro u6 w6 ah D ba;refine q.out _ _ ⟨cM D S5.o.1 nv.out,S5.o.2.1.row' D nv.out,S5.o.2.2.grown D F5.o.size (fun k h=>lT F (P2.o.lt k h).1)⟩ (fun f=>?_);have L6:=zH (gQ.tap P1.o P2.o N1.o ah D ba);have F6:=zH (show Far w w6 from ⟨f.2.2⟩);have bl:=zH f.2.1;have bg:=zH (bb.o.row D (fun k h=>lT F (P2.o.lt k h).1));have bz:=zH (X.o.row D (fun k h=>lT F (P2.o.lt k h).1));clear ah D ba)
     clear q K;try simp only [pX]
     refine kH' 21 f ?_;refine kH' 22 f ?_;refine wpAnyH_done kM ?_ _;go_wp2_with fail;refine ⟨⟨c+1,by omega,by go_num,F6.o,bg.o,bz.o,bl.o,?_⟩,by simp [intOf];omega⟩;have e3:=pA (fun r:Nat=>hX H V C l d.za P ((h+r / C:Nat) - P) (r % C)) (i*C+c);have e4:=pA (fun r:Nat=>oC d.w C o (r / C) (r % C)) (i*C+c);obtain ⟨dv,md⟩:=Di i c C ac;rw [dv,md,bB] at e3;rw [dv,md] at e4;have:=L6.o;rw [e3,e4] at this;exact this
    ·obtain rfl:c=C:=oM;go_wp2;exact ⟨⟨i+1,by omega,by go_num,I.o,R.o,T.o,G.o,by rw [Nat.succ_mul];exact Q.o⟩,by simp [intOf];omega⟩
  ·obtain rfl:i=3:=oM;go_wp2_with fail;have LS:=Q.o;obtain ⟨A1,k1,rfl,s1⟩:=LS.rows.sl (S':=blo wr) dM (fun b _ h=>h) (fun b h=>h.2.1);obtain ⟨A2,k2,rfl,s2⟩:=LS.taps.sl (S':=blo wr) dM (fun b _ h=>h) (fun b h=>h.elim);refine (Bl A1 (3*C) k1 _ A2 k2 _ (V+2*P) wr s1 s2 oM oM (fun j hj=>?_) hm).mono ?_
   ·rw [jd _ _ _ _ hj];simp [hX]
   rintro e U ⟨RA,rn,rc,rfl,rs,y⟩;go_wp2;go_ret;exact ⟨RA,rn,rc,rfl,rs.more (aW I.o.size (lR _)),(I.o.fut y).out⟩
theorem uI (H V C:Nat) (d:af) (W:QA) (nw r:Nat) (B:QA) (nb cb:Nat) (Ho Wo c:Nat) (K:Nat) (w:World) (l:d.k=K) (k1:K≤5) (j:C≤1024) :
  Calls prog 242 #[.agg #[.int .i64 H,.int .i64 V,.int .i64 C,.int .i64 d.kind,.int .i64 d.a,.int .i64 d.b,.int .i64 d.k,.int .i64 d.s,.int .i64 d.p,.int .i64 d.out,.int .i8 d.za,.int .i8 d.zb,.slice W nw r,.slice B nb cb,.int .i32 d.qm,.int .i64 d.qs,.int .i8 d.qz,.int .i32 d.rm,.int .i64 d.rs,.int .i8 d.rz,.int .i8 d.lo,.int .i8 d.hi,.int .i64 Ho,.int .i64 Wo,.int .i64 c]] w fun e w'=>e=.returned (.int .i64 ((K*K*C:Nat):Int))∧Below w w w':=by
 have n:=zW w;obtain ⟨D,q,y,n⟩:=nF n #[.int .i64 H,.int .i64 V,.int .i64 C,.int .i64 d.kind,.int .i64 d.a,.int .i64 d.b,.int .i64 d.k,.int .i64 d.s,.int .i64 d.p,.int .i64 d.out,.int .i8 d.za,.int .i8 d.zb,.slice W nw r,.slice B nb cb,.int .i32 d.qm,.int .i64 d.qs,.int .i8 d.qz,.int .i32 d.rm,.int .i64 d.rs,.int .i8 d.rz,.int .i8 d.lo,.int .i8 d.hi,.int .i64 Ho,.int .i64 Wo,.int .i64 c] 349;obtain ⟨g,h⟩:=uc2 y 2 6;simp only [gX] at g h;rw [l] at h;obtain ⟨i,t⟩:∃ m,K*K=m:=⟨_,rfl⟩;have z:(K:Int)*(K:Int)=(i:Int):=by rw [← t];simp
 have v:i≤25:=by rw [← t];exact Nat.mul_le_mul k1 k1
 rw [t];obtain ⟨f,o⟩:∃ m,i*C=m:=⟨_,rfl⟩;have A:(i:Int)*(C:Int)=(f:Int):=by rw [← o];simp
 have x:f≤25*1024:=by rw [← o];exact Nat.mul_le_mul v j
 rw [o];clear t o l;go_in;go_wp2;go_ret;exact ⟨rfl,n.u⟩
theorem zn (H V C:Nat) (d:af) (W:QA) (nw cw:Nat) (B:QA) (nb cb:Nat) (Ho Wo mo:Nat) (K S P i k:Nat) (w:World) (hk:d.k=K) (hs:d.s=S) (hp:d.p=P) (k1:1≤K∧K≤5) (s1:S≤4) (p1:P≤4)
  (h1:1≤H∧H≤16) (v1:1≤V∧V≤16) (c1:1≤C∧C≤1024) (he:decide (0 < ag H V C)=true) (bt:1≤Wo∧Wo≤16) (hi:i≤1024) (ah:k≤25600) :
  Calls prog 244 #[.agg #[.int .i64 H,.int .i64 V,.int .i64 C,.int .i64 d.kind,.int .i64 d.a,.int .i64 d.b,.int .i64 d.k,.int .i64 d.s,.int .i64 d.p,.int .i64 d.out,.int .i8 d.za,.int .i8 d.zb,.slice W nw cw,.slice B nb cb,.int .i32 d.qm,.int .i64 d.qs,.int .i8 d.qz,.int .i32 d.rm,.int .i64 d.rs,.int .i8 d.rz,.int .i8 d.lo,.int .i8 d.hi,.int .i64 Ho,.int .i64 Wo,.int .i64 mo],.int .i64 i,.int .i64 k] w fun e w' =>
   e=.returned (.tuple #[.int .i64 (if bY H V ((i / Wo*S+k / C / K:Nat) - (P:Int)) ((i % Wo*S+k / C % K:Nat) - (P:Int)) then (eB V C ((i / Wo*S+k / C / K:Nat) - (P:Int)) ((i % Wo*S+k / C % K:Nat) - (P:Int)) (k % C):Int) else 0),.bool (decide (bY H V ((i / Wo*S+k / C / K:Nat) - (P:Int)) ((i % Wo*S+k / C % K:Nat) - (P:Int))))])∧Below w w w':=by
 have l:=zW w;obtain ⟨w1,bo,h,l⟩:=nF l #[.int .i64 H,.int .i64 V,.int .i64 C,.int .i64 d.kind,.int .i64 d.a,.int .i64 d.b,.int .i64 d.k,.int .i64 d.s,.int .i64 d.p,.int .i64 d.out,.int .i8 d.za,.int .i8 d.zb,.slice W nw cw,.slice B nb cb,.int .i32 d.qm,.int .i64 d.qs,.int .i8 d.qz,.int .i32 d.rm,.int .i64 d.rs,.int .i8 d.rz,.int .i8 d.lo,.int .i8 d.hi,.int .i64 Ho,.int .i64 Wo,.int .i64 mo] 349;obtain ⟨HK,HS,HP⟩:=zh3 hk hs hp;obtain ⟨T,j⟩:∃ m,k % C=m:=⟨_,rfl⟩;obtain ⟨F,g⟩:∃ m,k / C=m:=⟨_,rfl⟩;obtain ⟨Q,v⟩:∃ m,i / Wo=m:=⟨_,rfl⟩;obtain ⟨O,y⟩:∃ m,i % Wo=m:=⟨_,rfl⟩;have be:T < C:=by rw [← j];exact Nat.mod_lt _ oM
 have ac:F≤25600:=by rw [← g];exact lT (Nat.div_le_self _ _) ah
 have al:Q≤1024:=by rw [← v];exact lT (Nat.div_le_self _ _) hi
 have ad:O≤16:=by rw [← y];exact lT (Nat.le_of_lt (Nat.mod_lt _ oM)) bt.2
 rw [j,g,v,y];obtain ⟨E,f⟩:∃ m,F / K=m:=⟨_,rfl⟩;obtain ⟨D,c⟩:∃ m,F % K=m:=⟨_,rfl⟩;have bs:E≤25600:=by rw [← f];exact lT (Nat.div_le_self _ _) ac
 have bn:D≤5:=by rw [← c];exact lT (Nat.le_of_lt (Nat.mod_lt _ oM)) k1.2
 rw [f,c];obtain ⟨R,x⟩:∃ m,Q*S=m:=⟨_,rfl⟩;obtain ⟨xs,q⟩:∃ m,O*S=m:=⟨_,rfl⟩;have bc:R≤4096:=by rw [← x];exact Nat.mul_le_mul al s1
 have bl:xs≤64:=by rw [← q];exact Nat.mul_le_mul ad s1
 have an:(Q:Int)*(S:Int)=(R:Int):=by rw [← x];simp
 have Y:(O:Int)*(S:Int)=(xs:Int):=by rw [← q];simp
 rw [x,q];obtain ⟨yy,N⟩:∃ m:Int,((R+E:Nat):Int) - (P:Int)=m:=⟨_,rfl⟩;obtain ⟨Z,M⟩:∃ m:Int,((xs+D:Nat):Int) - (P:Int)=m:=⟨_,rfl⟩;rw [N,M];have d1:(k:Int).tmod (C:Int)=(T:Int):=by rw [← j,Int.tmod_eq_emod_of_nonneg oM];simp
 have d2:(k:Int).tdiv (C:Int)=(F:Int):=by rw [← g,Int.tdiv_eq_ediv_of_nonneg oM];simp
 have d3:(i:Int).tdiv (Wo:Int)=(Q:Int):=by rw [← v,Int.tdiv_eq_ediv_of_nonneg oM];simp
 have d4:(i:Int).tmod (Wo:Int)=(O:Int):=by rw [← y,Int.tmod_eq_emod_of_nonneg oM];simp
 have d5:(F:Int).tdiv (K:Int)=(E:Int):=by rw [← f,Int.tdiv_eq_ediv_of_nonneg oM];simp
 have d6:(F:Int).tmod (K:Int)=(D:Int):=by rw [← c,Int.tmod_eq_emod_of_nonneg oM];simp
 have z1:¬ C=0:=oM;have z2:¬ Wo=0:=oM;have z3:¬ K=0:=oM;have g1:IntKind.i64.wrap (T:Int)=(T:Int):=wJ;have g2:IntKind.i64.wrap (F:Int)=(F:Int):=wJ;have g3:IntKind.i64.wrap (Q:Int)=(Q:Int):=wJ;have g4:IntKind.i64.wrap (O:Int)=(O:Int):=wJ;have g5:IntKind.i64.wrap (E:Int)=(E:Int):=wJ;have g6:IntKind.i64.wrap (D:Int)=(D:Int):=wJ;have g7:IntKind.i64.wrap ((Q:Int)*(S:Int))=(R:Int):=by rw [an];exact wJ
 have g8:IntKind.i64.wrap ((O:Int)*(S:Int))=(xs:Int):=by rw [Y];exact wJ
 have g9:IntKind.i64.wrap ((R:Int)+(E:Int))=(R:Int)+(E:Int):=wJ;have bh:IntKind.i64.wrap ((xs:Int)+(D:Int))=(xs:Int)+(D:Int):=wJ;have br:IntKind.i64.wrap ((R:Int)+(E:Int) - (P:Int))=yy:=(wJ).trans (by rw [← N];simp);have bd:IntKind.i64.wrap ((xs:Int)+(D:Int) - (P:Int))=Z:=(wJ).trans (by rw [← M];simp);have IX:=zH (fun wq=>fQ H V C yy Z T wq h1 v1 c1 he be);obtain ⟨ri,X⟩:∃ r:Int,(if bY H V yy Z then (eB V C yy Z T:Int) else 0)=r:=⟨_,rfl⟩;obtain ⟨rb,U⟩:∃ r,decide (bY H V yy Z)=r:=⟨_,rfl⟩;rw [X,U] at IX ⊢;clear X U j g v y f c x q an Y N M hk hs hp he;have c2:=h.o.cell 2;simp only [gX] at c2;go_in;go_wp2_with fail;go_quiet (fail);obtain ⟨z,t⟩:∃ m,w1.drewN nq=m:=⟨_,rfl⟩;have G:Below w1 w1 z:=by rw [← t];exact aI (qB _ _) _
 obtain ⟨l,h⟩:=uz2 G l h;clear c2 bo;obtain ⟨I,J,L,n⟩:=uc4 h 6 7 8 23;simp only [gX] at I J L n;rw [HK.o] at I;rw [HS.o] at J;rw [HP.o] at L;rw [t];clear G t;go_wp2_with fail;go_quiet (fail);obtain ⟨A,t⟩:∃ m,z.drewN nq=m:=⟨_,rfl⟩;have G:Below z z A:=by rw [← t];exact aI (qB _ _) _
 obtain ⟨l,h⟩:=uz2 G l h;clear I J L n;obtain ⟨I,J,L,n⟩:=uc4 h 6 7 8 23;simp only [gX] at I J L n;rw [HK.o] at I;rw [HS.o] at J;rw [HP.o] at L;rw [t];clear G t;go_wp2_with fail;go_quiet (fail);obtain ⟨ba,t⟩:∃ m,A.drewN nq=m:=⟨_,rfl⟩;have G:Below A A ba:=by rw [← t];exact aI (qB _ _) _
 obtain ⟨l,h⟩:=uz2 G l h;rw [t];clear G t I J L n
 go_wp2_with (first|(refine lP 23 (sN H V C) h.o ?_)|(go_at_call 215;refine qM (IX.o _) fun w5 hb=>?_))
 go_ret2
 exact ⟨rfl,(l.o.fut hb).out⟩
open Go.Proofs.YtbecbfpoahhpnaaGreat.Ar
theorem yi (A:QA) (n l:Nat) (z:QA) (m a:Nat) (sz un:List Int) (w:World) (h:Sl (ab .i64) w (blo w) A n l sz) (y:Sl (ab .i64) w (blo w) z m a un) :
  Calls prog 111 #[.slice A n l,.slice z m a] w fun e w'=>e=.returned (.bool (decide (mayOk sz un)))∧w=w':=by
 have Q:n≤9223372036854775807:=lT h.cap_le h.max_le;have K:m≤9223372036854775807:=lT y.cap_le y.max_le;have D:=h.n_eq;have c:=y.n_eq;obtain ⟨r,g⟩:∃ r,decide (mayOk sz un)=r:=⟨_,rfl⟩;rw [g];obtain ⟨R,H⟩:=zh2 g h;clear g h y;by_cases I:n=m;rotate_left
 ·have L:((n:Int) != (m:Int))=true:=sO;have t:=zH (show false=r by rw [← R.o];symm;rw [decide_eq_false_iff_not];rintro ⟨e,_⟩;omega);go_in;go_wp2;go_ret;exact ⟨aC t.o,rfl⟩
 ·subst I;have L:((n:Int) != (n:Int))=false:=by simp
  by_cases C:1024 < n
  ·have F:decide ((1024:Int) < (n:Int))=true:=sO;have t:=zH (show false=r by rw [← R.o];symm;rw [decide_eq_false_iff_not];rintro ⟨_,e,_⟩;omega);clear C;go_in;go_wp2;go_ret;exact ⟨aC t.o,rfl⟩
  ·have F:decide ((1024:Int) < (n:Int))=false:=sO;have d:=zH (And.intro D c);clear D c C;go_in;go_wp2;go_loopw [19] (fun i wr=>∃ k:Nat,k≤n∧i=.int .i64 k∧Hid (∀ j,j < k → 0≤sz.getD j 0∧sz.getD j 0≤1048576)∧w=wr) (fun i _=>n - (intOf i).toNat)
   case atStart=>exact ⟨0,zl _,rfl,zH (fun j J=>by omega),rfl⟩
   case round =>
    obtain ⟨k,P,rfl,B,rfl⟩:=hrel;by_cases s:k < n
    ·have S:(k:Int) < (n:Int):=oM;have t3:decide ((k:Int) < (n:Int))=true:=sO;obtain ⟨O,off,rfl,_,_,G,E⟩:=H.o.int_at k s;obtain ⟨x,q⟩:∃ x,sz.getD k 0=x:=⟨_,rfl⟩;rw [q] at G E;have v:=zH q;clear q E;by_cases f:x < 0
     ·have M:decide (x < 0)=true:=by simp;exact f
      have t:=zH (show false=r by rw [← R.o];symm;rw [decide_eq_false_iff_not];rintro ⟨_,_,e⟩;have:=e k (by rw [d.o.1];exact s);rw [v.o] at this;omega);clear f;go_wp2;go_ret;exact ⟨aC t.o,by trivial⟩
     ·have M:decide (x < 0)=false:=sO;by_cases b:1048576 < x
      ·have N:decide (1048576 < x)=true:=by simp;exact b
       have t:=zH (show false=r by rw [← R.o];symm;rw [decide_eq_false_iff_not];rintro ⟨_,_,e⟩;have:=e k (by rw [d.o.1];exact s);rw [v.o] at this;omega);clear f b;go_wp2;go_ret;exact ⟨aC t.o,by trivial⟩
      ·have N:decide (1048576 < x)=false:=sO;have p:=zH (show ∀ j,j < k+1 → 0≤sz.getD j 0∧sz.getD j 0≤1048576 from fun j J=>by
        by_cases e:j=k
        ·rw [e,v.o];omega
        ·exact B.o j oM)
       clear f b;go_wp2;exact ⟨⟨k+1,by omega,by go_num,p,by trivial⟩,by simp [intOf];omega⟩
    ·obtain rfl:k=n:=oM;have t3:decide ((k:Int) < (k:Int))=false:=by simp
     have t:=zH (show true=r by rw [← R.o];symm;rw [decide_eq_true_eq];exact ⟨by rw [d.o.1,d.o.2],by rw [d.o.1];simp at F;omega,by rw [d.o.1];exact B.o⟩);go_wp2;go_ret;exact ⟨aC t.o,by trivial⟩
theorem yh (A:QA) (n a:Nat) (un:List Int) (k:Nat) (w:World) (h:Sl (ab .i64) w (blo w) A n a un) (s:k < n) :
  Calls prog 145 #[.slice A n a,.int .i64 k] w fun e w'=>e=.returned (.int .i64 (max (un.getD k 0) (k:Int)))∧w=w':=by
 have c:n≤9223372036854775807:=lT h.cap_le h.max_le;have f:(k:Int) < (n:Int):=oM;obtain ⟨d,off,rfl,_,_,l,r⟩:=h.int_at k s;generalize un.getD k 0=u at *;obtain ⟨m,t⟩:∃ m,max u (k:Int)=m:=⟨_,rfl⟩;rw [t];have i:=zH t;clear h r t;go_in;go_wp2_with fail;all_goals
  go_ret;exact ⟨bK (by have:=i.o;omega),rfl⟩
theorem uE (A:QA) (n t:Nat) (un:List Int) (k i:Nat) (w:World) (h:Sl (ab .i64) w (blo w) A n t un) (s:k < n) :
  Calls prog 112 #[.slice A n t,.int .i64 k,.int .i64 i] w fun e w'=>e=.returned (.bool (togI (un.getD k 0) k i))∧w=w':=by
 have E:=zH (yh A n t un k w h s);generalize d:un.getD k 0=u at *;obtain ⟨r,a⟩:∃ r,togI u k i=r:=⟨_,rfl⟩;rw [a];have R:=zH (show decide ((i:Int)≤max u (k:Int))=r from a);clear h a;generalize max u (k:Int)=m at *;go_in;go_wp2_with fail;refine E.o.mono ?_;rintro e w' ⟨rfl,rfl⟩;go_wp2;go_ret;exact ⟨aC R.o,rfl⟩
end Go.Proofs.YtbecbfpoahhpnaaGreat
