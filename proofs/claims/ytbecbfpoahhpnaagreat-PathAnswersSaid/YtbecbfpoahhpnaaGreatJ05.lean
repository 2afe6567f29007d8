/- The shape that a node makes (layers 18, 25): the document's dense.Shape. -/
import Derived.Test.YtbecbfpoahhpnaaGreatJ01
import Derived.Test.YtbecbfpoahhpnaaGreatJ04
set_option linter.unusedVariables false
set_option linter.unusedSimpArgs false
set_option maxRecDepth 100000
set_option maxHeartbeats 16000000
namespace Go.Proofs.YtbecbfpoahhpnaaGreat
open Go.RowKit Go.ChangeShapes Go.WideShapes Tryz
theorem ud (h v c:Int) (d:af) (W:QA) (nw cw:Nat) (B:QA) (nb cb:Nat) (w:World) (h0:InK .i64 h) (h1:InK .i64 v) (h2:InK .i64 c) (O:InK .i64 d.out) (ah:nw=d.w.length) (an:nb=d.bias.length) (mw:nw≤1048576) (mb:nb≤1048576) :
  Calls prog 101 #[.agg (sN h v c),.agg (nD d W nw cw B nb cb)] w fun e w'=>e=aY (d9 h v c d)∧Below w w w':=by
 obtain ⟨r,hr⟩:∃ r,d9 h v c d=r:=⟨_,rfl⟩;rw [hr];unfold d9 at hr;rw [← ah,← an] at hr;obtain ⟨N,P,Z,RE⟩:=zh4 hr.symm (fun w=>bX h c v w h0 h1 h2) (fun w=>bX 1 d.out 1 w dM dM O) (fun w=>bX h c v w h0 h1 h2);have m0:=aF h v c;have q0:=aF 1 1 d.out;have qb:=zH (eX (h:=1) (v:=1) (c:=d.out));obtain ⟨m,hm⟩:∃ m,ag h v c=m:=⟨_,rfl⟩;obtain ⟨q,hq⟩:∃ q,ag 1 1 d.out=q:=⟨_,rfl⟩;rw [hm] at N P RE m0;rw [hq] at N Z q0 qb;clear hr h0 h1 h2 O ah an hm hq;have j:=zW w;obtain ⟨w1,w2,w3,E,F,G,l1,l2,l3,C,z,D,ad⟩:=bk3 w (sN h v c) 23 (nD d W nw cw B nb cb) 84 (sN 0 0 0) 23;replace j:=zF ad j;clear ad;have n6:=z.o.cell 6;obtain ⟨w4,H,I,al⟩:=nB w3 (sN 0 0 0) 23;obtain ⟨j,C,z,D⟩:=uz4 al j C z D;clear al;by_cases c1:m=0
 ·have m_:(m == 0)=true:=sO;have R:=zH (show r=noS 5 by rw [N.o,if_pos (.inl c1)]);clear c1 N m0 q0 qb;go_in
  go_wp2_with (first
   | (refine sG (sN 1 1 d.out) I.o ?_;intro w5 p g;have t:=zA g C;have i:=zA g z;have s:=zA g D;have f:=zA g j;have l:=zH p)
   | (refine lG t.o ?_))
  clear E F G H n6 g p j C z D I;refine qM (P.o _) fun w6 y=>?_;obtain ⟨f,t,i,s,l⟩:=uz5 y f t i s l;clear y
  go_wp2_with (first
   | (refine sG (sN 0 0 0) s.o ?_;intro w7 k K))
  refine rG k ?_;exact ⟨by rw [R.o];rfl,(f.o.away K oM).out⟩
 have m_:(m == 0)=false:=sO;by_cases c2:q=0
 ·have q_:(q == 0)=true:=sO;have R:=zH (show r=noS 5 by rw [N.o,if_pos (.inr c2)]);clear c1 c2 N m0 q0 qb;go_in
  go_wp2_with (first
   | (refine sG (sN 1 1 d.out) I.o ?_;intro w5 p g;have t:=zA g C;have i:=zA g z;have s:=zA g D;have f:=zA g j;have l:=zH p)
   | (refine lG t.o ?_))
  clear E F G H n6 g p j C z D I;refine qM (P.o _) fun w6 y=>?_;obtain ⟨f,t,i,s,l⟩:=uz5 y f t i s l;clear y;obtain ⟨u0,u1,u2⟩:=uc3 l 0 1 2;go_wp2_with fail;clear u0 u1 u2;refine qM (Z.o _) fun w8 y=>?_;obtain ⟨f,t,i,s,l⟩:=uz5 y f t i s l;clear y
  go_wp2_with (first
   | (refine sG (sN 0 0 0) s.o ?_;intro w7 k K))
  refine rG k ?_;exact ⟨by rw [R.o];rfl,(f.o.away K oM).out⟩
 have q_:(q == 0)=false:=sO;have ob:=qb.out c2;obtain ⟨m1,Q⟩:∃ x,d.out*m=x:=⟨_,rfl⟩;have b1:=et (a:=d.out) (b:=m) (m:=1024) (n:=1024) oM oM oM oM oM;have e1:IntKind.i64.wrap (d.out*m)=m1:=by rw [← Q];exact wJ
 have M:=zH (show r=(if ¬ (nw:Int)=m1 ∨ 16384 < nw ∨ ¬ (nb:Int)=d.out then noS 9 else ((1,1,d.out),0)) by rw [N.o,if_neg oM,Q]);clear N c1 c2 m0 q0 qb ob b1 Q;by_cases p1:(nw:Int)=m1;rotate_left
 ·have t1:((nw:Int) != m1)=true:=by simpa using p1
  have R:=zH (show r=noS 9 by rw [M.o,if_pos (.inl p1)]);clear M p1;go_in
  go_wp2_with (first
   | (refine sG (sN 1 1 d.out) I.o ?_;intro w5 p g;have t:=zA g C;have i:=zA g z;have s:=zA g D;have f:=zA g j;have l:=zH p)
   | (refine lG t.o ?_))
  clear E F G H n6 g p j C z D I;refine qM (P.o _) fun w6 y=>?_;obtain ⟨f,t,i,s,l⟩:=uz5 y f t i s l;clear y;obtain ⟨u0,u1,u2⟩:=uc3 l 0 1 2;go_wp2_with fail;clear u0 u1 u2;refine qM (Z.o _) fun w8 y=>?_;obtain ⟨f,t,i,s,l⟩:=uz5 y f t i s l;clear y;go_wp2_with fail;have V:=fun (x:Ext w8)=>(t.o.ext x).cell 2;have T:=fun (x:Ext w8)=>(t.o.ext x).cell 0;have U:=fun (x:Ext w8)=>(t.o.ext x).cell 1;have X:=fun (x:Ext w8)=>(i.o.ext x).cell 6;have Y:=fun (x:Ext w8)=>(i.o.ext x).cell 9;have A:=fun (x:Ext w8)=>(i.o.ext x).cell 10;have J:=zH (fun x:Ext w8=>aB x (RE.o x.1));refine am w8 kM kM (qB _ _) ?_;repeat (go_big_quiet_step (exact J.o _))
  refine wpQuiet_nil ?_;rintro S ⟨x,L⟩;have y:Below w8 w8 S:=by rw [L];exact x.2
  clear T U V X Y A J L x;obtain ⟨f,t,i,s,l⟩:=uz5 y f t i s l;clear y;try dsimp only
  go_wp2_with (first
   | (refine sG (sN 0 0 0) s.o ?_;intro w7 k K))
  refine rG k ?_;exact ⟨by rw [R.o];rfl,(f.o.away K oM).out⟩
 have t1:((nw:Int) != m1)=false:=by simpa using p1
 have P1:=zH p1;clear p1;by_cases p2:16384 < nw
 ·have t2:decide (16384 < (nw:Int))=true:=sO;have R:=zH (show r=noS 9 by rw [M.o,if_pos (.inr (.inl p2))]);clear M p2;go_in
  go_wp2_with (first
   | (refine sG (sN 1 1 d.out) I.o ?_;intro w5 p g;have t:=zA g C;have i:=zA g z;have s:=zA g D;have f:=zA g j;have l:=zH p)
   | (refine lG t.o ?_))
  clear E F G H n6 g p j C z D I;refine qM (P.o _) fun w6 y=>?_;obtain ⟨f,t,i,s,l⟩:=uz5 y f t i s l;clear y;obtain ⟨u0,u1,u2⟩:=uc3 l 0 1 2;go_wp2_with fail;clear u0 u1 u2;refine qM (Z.o _) fun w8 y=>?_;obtain ⟨f,t,i,s,l⟩:=uz5 y f t i s l;clear y;go_wp2_with fail;have V:=fun (x:Ext w8)=>(t.o.ext x).cell 2;have T:=fun (x:Ext w8)=>(t.o.ext x).cell 0;have U:=fun (x:Ext w8)=>(t.o.ext x).cell 1;have X:=fun (x:Ext w8)=>(i.o.ext x).cell 6;have Y:=fun (x:Ext w8)=>(i.o.ext x).cell 9;have A:=fun (x:Ext w8)=>(i.o.ext x).cell 10;have J:=zH (fun x:Ext w8=>aB x (RE.o x.1));refine am w8 kM kM (qB _ _) ?_;repeat (go_big_quiet_step (exact J.o _))
  refine wpQuiet_nil ?_;rintro S ⟨x,L⟩;have y:Below w8 w8 S:=by rw [L];exact x.2
  clear T U V X Y A J L x;obtain ⟨f,t,i,s,l⟩:=uz5 y f t i s l;clear y;try dsimp only
  go_wp2_with (first
   | (refine sG (sN 0 0 0) s.o ?_;intro w7 k K))
  refine rG k ?_;exact ⟨by rw [R.o];rfl,(f.o.away K oM).out⟩
 have t2:decide (16384 < (nw:Int))=false:=sO;have P2:=zH p2;clear p2;by_cases p3:(nb:Int)=d.out;rotate_left
 ·have t3:((nb:Int) != d.out)=true:=by simpa using p3
  have R:=zH (show r=noS 9 by rw [M.o,if_pos (.inr (.inr p3))]);clear M p3;go_in
  go_wp2_with (first
   | (refine sG (sN 1 1 d.out) I.o ?_;intro w5 p g;have t:=zA g C;have i:=zA g z;have s:=zA g D;have f:=zA g j;have l:=zH p)
   | (refine lG t.o ?_))
  clear E F G H n6 g p j C z D I;refine qM (P.o _) fun w6 y=>?_;obtain ⟨f,t,i,s,l⟩:=uz5 y f t i s l;clear y;obtain ⟨u0,u1,u2⟩:=uc3 l 0 1 2;go_wp2_with fail;clear u0 u1 u2;refine qM (Z.o _) fun w8 y=>?_;obtain ⟨f,t,i,s,l⟩:=uz5 y f t i s l;clear y;go_wp2_with fail;have V:=fun (x:Ext w8)=>(t.o.ext x).cell 2;have T:=fun (x:Ext w8)=>(t.o.ext x).cell 0;have U:=fun (x:Ext w8)=>(t.o.ext x).cell 1;have X:=fun (x:Ext w8)=>(i.o.ext x).cell 6;have Y:=fun (x:Ext w8)=>(i.o.ext x).cell 9;have A:=fun (x:Ext w8)=>(i.o.ext x).cell 10;have J:=zH (fun x:Ext w8=>aB x (RE.o x.1));refine am w8 kM kM (qB _ _) ?_;repeat (go_big_quiet_step (exact J.o _))
  refine wpQuiet_nil ?_;rintro S ⟨x,L⟩;have y:Below w8 w8 S:=by rw [L];exact x.2
  clear T U V X Y A J L x;obtain ⟨f,t,i,s,l⟩:=uz5 y f t i s l;clear y;try dsimp only
  go_wp2_with (first
   | (refine sG (sN 0 0 0) s.o ?_;intro w7 k K))
  refine rG k ?_;exact ⟨by rw [R.o];rfl,(f.o.away K oM).out⟩
 have t3:((nb:Int) != d.out)=false:=by simpa using p3
 have R:=zH (show r=((1,1,d.out),0) by rw [M.o,if_neg (by rintro (h|h|h);exact h P1.o;exact P2.o h;exact h p3)]);clear M p3;go_in
 go_wp2_with (first
  | (refine sG (sN 1 1 d.out) I.o ?_;intro w5 p g;have t:=zA g C;have i:=zA g z;have s:=zA g D;have f:=zA g j;have l:=zH p)
  | (refine lG t.o ?_))
 clear E F G H n6 g p j C z D I;refine qM (P.o _) fun w6 y=>?_;obtain ⟨f,t,i,s,l⟩:=uz5 y f t i s l;clear y;obtain ⟨u0,u1,u2⟩:=uc3 l 0 1 2;go_wp2_with fail;clear u0 u1 u2;refine qM (Z.o _) fun w8 y=>?_;obtain ⟨f,t,i,s,l⟩:=uz5 y f t i s l;clear y;go_wp2_with fail;have V:=fun (x:Ext w8)=>(t.o.ext x).cell 2;have T:=fun (x:Ext w8)=>(t.o.ext x).cell 0;have U:=fun (x:Ext w8)=>(t.o.ext x).cell 1;have X:=fun (x:Ext w8)=>(i.o.ext x).cell 6;have Y:=fun (x:Ext w8)=>(i.o.ext x).cell 9;have A:=fun (x:Ext w8)=>(i.o.ext x).cell 10;have J:=zH (fun x:Ext w8=>aB x (RE.o x.1));refine am w8 kM kM (qB _ _) ?_;repeat (go_big_quiet_step (exact J.o _))
 refine wpQuiet_nil ?_;rintro S ⟨x,L⟩;have y:Below w8 w8 S:=by rw [L];exact x.2
 clear T U V X Y A J L x;obtain ⟨f,t,i,s,l⟩:=uz5 y f t i s l;clear y;try dsimp only
 go_wp2_with (first
  | (refine lG l.o ?_)
  | (refine sG (sN 1 1 d.out) s.o ?_;intro w7 k K))
 refine rG k ?_;exact ⟨by rw [R.o];rfl,(f.o.away K oM).out⟩
open Go.Proofs.YtbecbfpoahhpnaaGreat.Ar
theorem Cs (sz at_:List Int) (k:Nat) (o:∀ j,j < k → 0≤at_.getD j 0+sz.getD j 0):∃ c,0≤c∧cand sz at_ k c∧∀ j,j < k → at_.getD j 0+sz.getD j 0≤c:=by
 induction k with
 | zero=>exact ⟨0,Int.le_refl _,.inl rfl,fun j a=>by omega⟩
 | succ k ih =>
  obtain ⟨c,n,t,i⟩:=ih (fun j a=>o j oM);have s:=o k oM;by_cases h:at_.getD k 0+sz.getD k 0≤c
  ·refine ⟨c,n,?_,fun j a=>?_⟩
   ·rcases t with t|⟨j,a,t⟩
    ·exact .inl t
    ·exact .inr ⟨j,by omega,t⟩
   ·by_cases e:j=k
    ·rw [e];exact h
    ·exact i j oM
  ·refine ⟨_,s,.inr ⟨k,by omega,rfl⟩,fun j a=>?_⟩;by_cases e:j=k
   ·rw [e];exact Int.le_refl _
   ·have:=i j oM;omega
theorem vO {sz un at_:List Int} {i:Nat} (e:∀ j,j < i → 0≤at_.getD j 0+sz.getD j 0):0≤best sz un at_ i∧cand sz at_ i (best sz un at_ i)∧fits sz un at_ i (best sz un at_ i)=true:=by
 obtain ⟨c,l,a,o⟩:=Cs sz at_ i e;have t:fits sz un at_ i c=true:=by
  unfold fits;rw [decide_eq_true_eq];intro j n;have:=o j n;unfold meet;rw [Bool.and_eq_false_iff];left;rw [decide_eq_false_iff_not];unfold over;omega
 rcases bestTo_spec sz un at_ i i e with ⟨_,h⟩|⟨s,r,d,_⟩
 ·rw [h c a] at t;cases t
 ·exact ⟨s,d,r⟩
end Go.Proofs.YtbecbfpoahhpnaaGreat
