/- The shape that a node makes (layers 10, 17): conv.Shape, depth.Shape, the document's. -/
import Derived.Test.YtbecbfpoahhpnaaGreatJ01
import Derived.Test.YtbecbfpoahhpnaaGreatJ04
set_option linter.unusedVariables false
set_option linter.unusedSimpArgs false
set_option maxRecDepth 100000
set_option maxHeartbeats 16000000
namespace Go.Proofs.YtbecbfpoahhpnaaGreat
open Go.RowKit Go.ChangeShapes Go.WideShapes Tryz
theorem il (h v c:Int) (d:af) (W:QA) (nw cw:Nat) (B:QA) (nb cb:Nat) (w:World) (h0:InK .i64 h) (h1:InK .i64 v) (h2:InK .i64 c) (V:InK .i64 d.out) (U:nw=d.w.length) (T:nb=d.bias.length) (mw:nw≤1048576) (mb:nb≤1048576) :
  Calls prog 140 #[.agg (sN h v c),.agg (nD d W nw cw B nb cb)] w fun e w'=>e=aY (bF h v c d)∧Below w w w':=by
 obtain ⟨r,L⟩:∃ r,bF h v c d=r:=⟨_,rfl⟩;rw [L];unfold bF gI at L;rw [← U,← T] at L;obtain ⟨OK,SL⟩:=zh2 (eD (h:=h) (v:=v) (c:=c) (k:=d.k) (s:=d.s) (p:=d.p) (o:=c)) (fun w=>fG h v c d.k d.s d.p c w h0 h1 h2 h2);obtain ⟨⟨⟨H,I,J⟩,xe⟩,hx⟩:∃ x,aH h v c d.k d.s d.p c=x:=⟨_,rfl⟩;rw [hx] at L OK SL;simp only [aY] at SL;have S:=zH L.symm;clear hx L h0 h1 h2 V U T;have j:=zW w;obtain ⟨w1,w2,w3,an,ah,ad,l1,l2,_,y,q,z,Y⟩:=bk3 w (sN h v c) 23 (nD d W nw cw B nb cb) 84 (sN 0 0 0) 23;replace j:=zF Y j;clear Y;have K:=y.o.cell 2;obtain ⟨M,n4,n5,N⟩:=uc4 q 3 4 5 6;go_in
 go_wp2_with (refine lG y.o ?_)
 clear an ah ad K M n4 n5 N;refine qM (SL.o _) fun w4 hb=>?_;obtain ⟨j,y,q,z⟩:=uz4 hb j y q z;clear hb;have l3:w2.heap.size < w4.heap.size:=z.o.lt;obtain ⟨w5,al,Q,Z⟩:=nB w4 (sN 0 0 0) 23;obtain ⟨j,y,q,z⟩:=uz4 Z j y q z;clear Z;clear SL;by_cases E:xe=0;rotate_left
 ·have tx:(xe != 0)=true:=by simpa using E
  have R:=zH (show r=noS xe by rw [S.o,if_pos E]);clear E S OK
  go_wp2_with (first
   | (refine sG (sN H I J) Q.o ?_;intro w6 g t;have K:=(zA t y).o.cell 2;obtain ⟨M,N,n9,F⟩:=uc4 (zA t q) 3 6 9 10;have i:=zA t z;have f:=zA t j)
   | (refine sG (sN 0 0 0) i.o ?_;intro w7 l A))
  refine rG l ?_;exact ⟨by rw [R.o];rfl,(f.o.away A oM).out⟩
 subst E;have tx:((0:Int) != 0)=false:=rfl;have ok:=OK.o rfl;obtain ⟨m1,C⟩:∃ m,c*d.k=m:=⟨_,rfl⟩;have b1:=et (a:=c) (b:=d.k) (m:=1024) (n:=5) oM oM oM oM oM;rw [C] at b1;obtain ⟨X,D⟩:∃ m,m1*d.k=m:=⟨_,rfl⟩;have b2:=et (a:=m1) (b:=d.k) (m:=1024*5) (n:=5) oM oM oM oM oM;rw [D] at b2;have e1:IntKind.i64.wrap (c*d.k)=m1:=by rw [C];exact wJ
 have e2:IntKind.i64.wrap (m1*d.k)=X:=by rw [D];exact wJ
 rw [C,D] at S;clear C D b1 b2 ok OK;have G:=zH (show r=(if ¬ (nw:Int)=X ∨ 16384 < nw ∨ ¬ (nb:Int)=c then noS 9 else ((H,I,J),0)) from S.o);clear S;by_cases O:(nw:Int)=X;rotate_left
 ·have t1:((nw:Int) != X)=true:=by simpa using O
  have R:=zH (show r=noS 9 by rw [G.o,if_pos (.inl O)]);clear G O
  go_wp2_with (first
   | (refine sG (sN H I J) Q.o ?_;intro w6 g t;have K:=(zA t y).o.cell 2;obtain ⟨M,N,n9,F⟩:=uc4 (zA t q) 3 6 9 10;have i:=zA t z;have f:=zA t j)
   | (refine sG (sN 0 0 0) i.o ?_;intro w7 l A))
  refine rG l ?_;exact ⟨by rw [R.o];rfl,(f.o.away A oM).out⟩
 have t1:((nw:Int) != X)=false:=by simpa using O
 have P1:=zH O;clear O;by_cases p2:16384 < nw
 ·have t2:decide (16384 < (nw:Int))=true:=sO;have R:=zH (show r=noS 9 by rw [G.o,if_pos (.inr (.inl p2))]);clear G p2
  go_wp2_with (first
   | (refine sG (sN H I J) Q.o ?_;intro w6 g t;have K:=(zA t y).o.cell 2;obtain ⟨M,N,n9,F⟩:=uc4 (zA t q) 3 6 9 10;have i:=zA t z;have f:=zA t j)
   | (refine sG (sN 0 0 0) i.o ?_;intro w7 l A))
  refine rG l ?_;exact ⟨by rw [R.o];rfl,(f.o.away A oM).out⟩
 have t2:decide (16384 < (nw:Int))=false:=sO;have P2:=zH p2;clear p2;by_cases P:(nb:Int)=c;rotate_left
 ·have t3:((nb:Int) != c)=true:=by simpa using P
  have R:=zH (show r=noS 9 by rw [G.o,if_pos (.inr (.inr P))]);clear G P
  go_wp2_with (first
   | (refine sG (sN H I J) Q.o ?_;intro w6 g t;have K:=(zA t y).o.cell 2;obtain ⟨M,N,n9,F⟩:=uc4 (zA t q) 3 6 9 10;have i:=zA t z;have f:=zA t j)
   | (refine sG (sN 0 0 0) i.o ?_;intro w7 l A))
  refine rG l ?_;exact ⟨by rw [R.o];rfl,(f.o.away A oM).out⟩
 have t3:((nb:Int) != c)=false:=by simpa using P
 have R:=zH (show r=((H,I,J),0) by rw [G.o,if_neg (by rintro (h|h|h);exact h P1.o;exact P2.o h;exact h P)]);clear G P
 go_wp2_with (first
  | (refine sG (sN H I J) Q.o ?_;intro w6 g t;have K:=(zA t y).o.cell 2;obtain ⟨M,N,n9,F⟩:=uc4 (zA t q) 3 6 9 10;have i:=zA t z;have f:=zA t j)
  | (refine lG g ?_)
  | (refine sG (sN H I J) i.o ?_;intro w7 l A))
 refine rG l ?_;exact ⟨by rw [R.o];rfl,(f.o.away A oM).out⟩
def aR (h v c:Int) (d:af):Int :=
 if ag h v c=0 ∨ ag 1 1 d.out=0 then 5
 else if ¬ (d.w.length:Int)=d.out*ag h v c ∨ 16384 < d.w.length ∨ ¬ (d.bias.length:Int)=d.out then 9 else 0
def lu (code out:Int):Ending:=.returned (.tuple #[if code=0 then .agg (sN 1 1 out) else .agg (sN 0 0 0),.int .i64 code])
theorem kA (h v c:Int) (d:af) (W:QA) (nw T:Nat) (B:QA) (nb cb:Nat) (w:World) (V:InK .i64 h) (X:InK .i64 v) (Y:InK .i64 c) (s:InK .i64 d.out)
  (k:nw=d.w.length) (g:nb=d.bias.length) (mw:nw≤maxLen) (mb:nb≤maxLen) :
  Calls prog 141 #[.agg (sN h v c),.agg (nD d W nw T B nb cb)] w fun e w'=>e=lu (aR h v c d) d.out∧Below w w w':=by
 obtain ⟨q,z,A,O,K,J⟩:=zh6 V X Y s k g;clear V X Y s k g;unfold maxLen at mw mb;have r1:=aF h v c;have r2:=aF 1 1 d.out;by_cases b:ag h v c=0
 ·have j:decide (0 < ag h v c)=false:=sO;have e:aR h v c d=5:=by unfold aR;rw [if_pos (.inl b)]
  have E:=zH e;clear e b;go_in;go_wp2_with fail;refine qM (aV h c v _ q.o z.o A.o) fun w1 t=>?_;rw [j];have f:=az (B:=w.heap.size) (a:=w) (by go_grown) t (by simp;omega);have bC:=(((Blk.now _ (w.heap.size+1+1) _ _ sM).past _).later t);have U:=fun i=>bC.frozen i;have S:=fun i=>bC.cell i;clear t;go_wp2_with fail;refine ret_cell_tmp rfl (((bC.set_ 0 _).set_ 1 _).set_ 2 _) rfl underlying23 kM rfl ⟨?_,by go_grown⟩;rw [E.o];rfl
 have j:decide (0 < ag h v c)=true:=sO;by_cases l:ag 1 1 d.out=0
 ·have G:decide (0 < ag 1 1 d.out)=false:=sO;have e:aR h v c d=5:=by unfold aR;rw [if_pos (.inr l)]
  have E:=zH e;clear e b l;go_in;go_wp2_with fail;refine qM (aV h c v _ q.o z.o A.o) fun w1 t=>?_;rw [j];have f:=az (B:=w.heap.size) (a:=w) (by go_grown) t (by simp;omega);have p:=zH (((Blk.now _ (w.heap.size+1+1) _ _ sM).past _).later t);have n:=((Blk.now _ (w.heap.size+1+1+1) _ _ sM).later t);have C:=fun i=>n.cell i;clear n t;go_wp2_with fail;refine qM (aV 1 d.out 1 _ dM dM O.o) fun r t=>?_;rw [G];have D:=az f t f.size;have bC:=p.o.later t;have ac:=D.size;have U:=fun i=>bC.frozen i;have S:=fun i=>bC.cell i;clear t C;go_wp2_with fail;refine ret_cell_tmp rfl (((bC.set_ 0 _).set_ 1 _).set_ 2 _) rfl underlying23 kM rfl ⟨?_,by go_grown⟩;rw [E.o];rfl
 have G:decide (0 < ag 1 1 d.out)=true:=sO;have Z:aR h v c d=if ¬ (nw:Int)=d.out*ag h v c ∨ 16384 < nw ∨ ¬ (nb:Int)=d.out then 9 else 0:=by
  unfold aR;rw [if_neg oM,K.o,J.o]
 have o1:1≤d.out∧d.out≤1024:=by
  rw [cO] at l;split at l
  ·omega
  ·exact absurd rfl l
 obtain ⟨E,an⟩:=zh2 Z b;clear Z b l r2;go_in;go_wp2_with fail;refine qM (aV h c v _ q.o z.o A.o) fun w1 t=>?_;rw [j];have f:=az (B:=w.heap.size) (a:=w) (by go_grown) t (by simp;omega);have P:=((((Blk.now _ w.heap.size _ _ rfl).past _).past _).past _).later t;have Q:=(((Blk.now _ (w.heap.size+1) _ _ sM).past _).past _).later t;have bC:=((Blk.now _ (w.heap.size+1+1) _ _ sM).past _).later t;have n:=(Blk.now _ (w.heap.size+1+1+1) _ _ sM).later t;obtain ⟨H,y,p,I⟩:=zh4 P Q bC n;have C:=fun i=>n.cell i;clear P Q bC n t;go_wp2_with fail;refine qM (aV 1 d.out 1 _ dM dM O.o) fun r t=>?_;rw [G];have D:=az f t f.size;obtain ⟨H,y,p,I⟩:=zh4 (H.o.later t) (y.o.later t) (p.o.later t) (I.o.later t);clear t C j G;go_wp2_with fail;generalize hm:ag h v c=m at *;have HM:=zH hm;clear hm;have hp:0≤d.out*m∧d.out*m≤1024*1024:=⟨Int.mul_nonneg oM oM,Int.mul_le_mul o1.2 r1.2 oM oM⟩;have al:IntKind.i64.wrap (d.out*m)=d.out*m:=wJ;have cA:∀ (x:Ext r) (i:Nat),x.1.cell? ⟨w.heap.size,i,none⟩=((sN h v c):Array Value)[i]?:=fun x i=>(H.o.ext x).cell i;have ah:∀ x:Ext r,x.1.cell? ⟨w.heap.size+1,6,none⟩=some (.int .i64 d.out):=fun x=>(y.o.ext x).cell 6;have ad:∀ x:Ext r,x.1.cell? ⟨w.heap.size+1,9,none⟩=some (.slice W nw T):=fun x=>(y.o.ext x).cell 9;have R:∀ x:Ext r,x.1.cell? ⟨w.heap.size+1,10,none⟩=some (.slice B nb cb):=fun x=>(y.o.ext x).cell 10;have N:=zH (fun x:Ext r=>aB x (bL h c v _ q.o z.o A.o));rw [HM.o] at N;have t3:((nw:Int) != d.out*m)=true∧aR h v c d=9 ∨ ((nw:Int) != d.out*m)=false∧(decide ((16384:Int) < (nw:Int))=true∧aR h v c d=9 ∨
   decide ((16384:Int) < (nw:Int))=false∧(((nb:Int) != d.out)=true∧aR h v c d=9 ∨ ((nb:Int) != d.out)=false∧aR h v c d=0)):=by
  rw [E.o];by_cases L:(nw:Int)=d.out*m
  ·refine .inr ⟨by simp [L],?_⟩;by_cases c4:16384 < nw
   ·exact .inl ⟨by simp;omega,by rw [if_pos (.inr (.inl c4))]⟩
   ·refine .inr ⟨by simp;omega,?_⟩;by_cases M:(nb:Int)=d.out
    ·exact .inr ⟨by simp [M],by rw [if_neg oM]⟩
    ·exact .inl ⟨by rw [bne_iff_ne];exact M,by rw [if_pos (.inr (.inr M))]⟩
  ·exact .inl ⟨by rw [bne_iff_ne];exact L,by rw [if_pos (.inl L)]⟩
 clear E;rcases t3 with ⟨t3,e⟩|⟨t3,⟨t4,e⟩|⟨t4,⟨t5,e⟩|⟨t5,e⟩⟩⟩;all_goals
  have E:=zH e;clear e;refine am r kM kM (qB _ _) ?_;repeat (go_big_quiet_step ((exact N.o _)))
  refine wpQuiet_nil ?_;rintro _ ⟨⟨w3,F⟩,rfl⟩;have g3:=az D F D.size;have ay:=g3.size;have bC:=p.o.later F;have n:=I.o.later F;have U:=fun i=>bC.frozen i;have S:=fun i=>bC.cell i;have C:=fun i=>n.cell i;clear F;go_wp2_with fail;refine ret_cell_tmp rfl (((bC.set_ 0 _).set_ 1 _).set_ 2 _) rfl underlying23 kM rfl ⟨?_,by go_grown⟩;rw [E.o];rfl
theorem uv (k out:Int) (h:¬ k=0):lu k out=.returned (.tuple #[.agg (sN 0 0 0),.int .i64 k]):=by unfold lu;rw [if_neg h]
def dU (t:ae) (d:af):ae × Int :=
 if t.ok=true then (if aR t.h t.v t.c d=0 then (⟨1,1,d.out,bE t.data d.w d.bias d.za⟩,0) else (ak,aR t.h t.v t.c d)) else (ak,5)
theorem oP (t:ae) (d:af) (nw nb:Nat) (k1:d.w.length=nw) (k2:d.bias.length=nb) (e:aR t.h t.v t.c d=0):nw≤1048576∧nb≤1024:=by
 unfold aR at e;split at e
 ·omega
 ·rename_i a;split at e
  ·omega
  ·rename_i o;have i:1≤d.out∧d.out≤1024:=by
    have:¬ ag 1 1 d.out=0:=fun h=>a (.inr h);rw [cO] at this;split at this
    ·omega
    ·exact absurd rfl this
   have n:(d.w.length:Int)=d.out*ag t.h t.v t.c:=Decidable.byContradiction fun h=>o (.inl h);have s:d.out*ag t.h t.v t.c≤1024*1024:=Int.mul_le_mul i.2 (aF _ _ _).2 (aF _ _ _).1 oM;omega
theorem At {w w4 w':World} {A:QA} {n t:Nat} {l:List Int} {g:Nat} {u0 u1 u2 u3:Value} (h:Sl (ab .i32) w' (bin w4 w') A n t l) (o:g < w4.heap.size) (a:w.heap.size≤w4.heap.size) :
  Sl (ab .i32) ((((w'.setCell ⟨g,0,none⟩ u0).setCell ⟨g,1,none⟩ u1).setCell ⟨g,2,none⟩ u2).setCell ⟨g,3,none⟩ u3)
   (bin w.heap.size ((((w'.setCell ⟨g,0,none⟩ u0).setCell ⟨g,1,none⟩ u1).setCell ⟨g,2,none⟩ u2).setCell ⟨g,3,none⟩ u3).heap.size) A n t l :=
 (((((h.far _ _ (fun b e=>by have:=e.1;simp;omega)).far _ _ (fun b e=>by have:=e.1;simp;omega)).far _ _ (fun b e=>by have:=e.1;simp;omega)).far _ _ (fun b e=>by have:=e.1;simp;omega)).more (aW a sM))
theorem uS (t:ae) (A:QA) (n s:Nat) (d:af) (W:QA) (nw b:Nat) (B:QA) (nb cb:Nat) (w:World) (k:aw t) (g:aQ d)
  (l:xA w A n s t.data) (m:xA w W nw b d.w) (e:xB w B nb cb d.bias) (p:¬ t.ok=true) :
  Calls prog 195 #[.agg (tN t.h t.v t.c A n s),.agg (nD d W nw b B nb cb)] w (aT .i32 ak 5 w):=by
 obtain ⟨y,x,f,z,q⟩:=zh5 k g l m e;have F:n≤9223372036854775807:=lT l.cap_le l.max_le;have G:nw≤9223372036854775807:=lT m.cap_le m.max_le;have H:nb≤9223372036854775807:=lT e.cap_le e.max_le;clear k g l m e;have r:decide (0 < ag t.h t.v t.c∧ag t.h t.v t.c=n)=false:=by rw [← f.o.n_eq];simpa [ae.ok] using p
 have j:=zH r;clear p r;go_in;go_wp2_with fail;refine qM (av t.h t.v t.c A n s _ y.o.h y.o.v y.o.c (lT f.o.cap_le f.o.max_le)) fun I e=>?_;rw [j.o];have E:=az (B:=w.heap.size) (a:=w) (by go_grown) e (by simp;omega);have bC:=(Blk.now _ (w.heap.size+1+1) _ _ sM).later e;have D:=fun i=>bC.frozen i;have C:=fun i=>bC.cell i;clear e;go_wp2_with fail;refine ret_cell_tmp rfl ((((bC.set_ 0 _).set_ 1 _).set_ 2 _).set_ 3 _) rfl underlying255 kM rfl ?_;exact aT.none (by go_grown)
theorem ti (t:ae) (A:QA) (n l:Nat) (d:af) (W:QA) (nw C:Nat) (B:QA) (nb cb:Nat) (w:World) (X:aw t) (U:aQ d)
  (E:xA w A n l t.data) (F:xA w W nw C d.w) (s:xB w B nb cb d.bias) (J:t.ok=true) (L:aR t.h t.v t.c d=0) :
  Calls prog 195 #[.agg (tN t.h t.v t.c A n l),.agg (nD d W nw C B nb cb)] w (aT .i32 ⟨1,1,d.out,bE t.data d.w d.bias d.za⟩ 0 w):=by
 obtain ⟨b,P,k,q,j⟩:=zh5 X U E F s;have m1:n≤9223372036854775807:=lT E.cap_le E.max_le;have m2:nw≤9223372036854775807:=lT F.cap_le F.max_le;have m3:nb≤9223372036854775807:=lT s.cap_le s.max_le;clear X U E F s;have hq:=oP t d nw nb q.o.n_eq j.o.n_eq L;have an:n≤1024:=by
  have h1:t.ok=true:=J;have h2:=k.o.n_eq;have h3:=aF t.h t.v t.c;simp only [ae.ok,decide_eq_true_eq] at h1;omega
 have x:decide (0 < ag t.h t.v t.c∧ag t.h t.v t.c=n)=true:=by rw [← k.o.n_eq];simpa [ae.ok] using J
 obtain ⟨Z,C2⟩:=zh2 x L;clear J x L;go_in;go_wp2_with fail;refine qM (av t.h t.v t.c A n l _ b.o.h b.o.v b.o.c (lT k.o.cap_le k.o.max_le)) fun w1 s=>?_;rw [Z.o];have R:=az (B:=w.heap.size) (a:=w) (by go_grown) s (by simp;omega);have I:=((Blk.now _ w.heap.size _ _ rfl).past _ |>.past _).later s;have Q:=((Blk.now _ (w.heap.size+1) _ _ sM).past _).later s;have bC:=(Blk.now _ (w.heap.size+1+1) _ _ sM).later s;obtain ⟨g,f,y⟩:=zh3 I Q bC;have cA:=fun i=>I.cell i;clear I Q bC s
 go_wp2_with (refine lG f.o ?_)
 refine qM (kA t.h t.v t.c d W nw C B nb cb _ b.o.h b.o.v b.o.c P.o.out q.o.n_eq.symm j.o.n_eq.symm (lT q.o.cap_le q.o.max_le) (lT j.o.cap_le j.o.max_le)) fun m s=>?_;have T:=az R s R.size;have ah:=y.o.lt;have ad:=s.size;obtain ⟨g,f,y⟩:=zh3 (g.o.later s) (f.o.later s) (y.o.later s);clear s cA;rw [C2.o];simp only [lu,if_true];go_wp2_with fail;obtain ⟨g,f,y,G⟩:=zh4 (g.o.past (.cells (sN 1 1 d.out) 23)) (f.o.past (.cells (sN 1 1 d.out) 23)) (y.o.past (.cells (sN 1 1 d.out) 23)) (Blk.now m m.heap.size 23 (sN 1 1 d.out) rfl);have p:Below w w (m.alloc (.cells (sN 1 1 d.out) 23)):=T.alloc T.size _;have al:m.heap.size < (m.alloc (.cells (sN 1 1 d.out) 23)).heap.size:=by simp
 generalize M:m.alloc (.cells (sN 1 1 d.out) 23)=w3 at *;clear M;refine wp_region_held_drew (S:=fun w'=>w'.cell? ⟨m.heap.size,0,none⟩=some (.int .i64 1)∧w'.cell? ⟨m.heap.size,1,none⟩=some (.int .i64 1)∧w'.cell? ⟨m.heap.size,2,none⟩=some (.int .i64 d.out)∧w'.cell? ⟨w.heap.size,3,none⟩=some (.slice A n l)∧w'.cell? ⟨w.heap.size+1,9,none⟩=some (.slice W nw C)∧w'.cell? ⟨w.heap.size+1,10,none⟩=some (.slice B nb cb)∧w'.cell? ⟨w.heap.size+1,7,none⟩=some (.int .i8 d.za)∧Below w w w') kM ?_ (fun r=>?_)
 ·exact ⟨G.o.cell 0,G.o.cell 1,G.o.cell 2,g.o.cell 3,f.o.cell 9,f.o.cell 10,f.o.cell 7,p.drew⟩
 refine kH' 0 r ?_;refine kH' 1 r ?_;refine kH' 2 r ?_;refine kH' 3 r ?_;refine kH' 4 r ?_;refine kH' 5 r ?_;refine kH' 6 r ?_;refine kH' 7 r ?_;refine kH' 8 r ?_;refine rH 9 rfl (fun K D=>?_);go_simp;refine (tL A W B n l nw C nb cb _ _ _ _ _ (k.o.later p.drew (lR _)) (q.o.later p.drew (lR _)) (j.o.later p.drew (lR _)) P.o.za oM oM oM).mono ?_;rintro e w' ⟨Y,n',z,rfl,V,s⟩;have bC:=y.o.drew.later s;have cC:=fun i=>bC.cell i;have fC:=fun i=>bC.frozen i;have H:=zH V;clear V;refine xK D (zR s r) fun r=>?_;clear D K;refine kH' 10 r ?_;refine rH 11 rfl (fun K D=>?_);go_simp;refine D.out _ _ ?_ (fun r=>?_)
 ·obtain ⟨k0,k1,k2,k3,k4,k5,k6,k7⟩:=r;exact ⟨(by (repeat rw [gF _ _ _ _ (by first|(simp;done)|(simp;omega))]);exact k0),(by (repeat rw [gF _ _ _ _ (by first|(simp;done)|(simp;omega))]);exact k1),(by (repeat rw [gF _ _ _ _ (by first|(simp;done)|(simp;omega))]);exact k2),(by (repeat rw [gF _ _ _ _ (by first|(simp;done)|(simp;omega))]);exact k3),(by (repeat rw [gF _ _ _ _ (by first|(simp;done)|(simp;omega))]);exact k4),(by (repeat rw [gF _ _ _ _ (by first|(simp;done)|(simp;omega))]);exact k5),(by (repeat rw [gF _ _ _ _ (by first|(simp;done)|(simp;omega))]);exact k6),(by go_grown)⟩
 clear D K;try simp only [pX]
 refine kH' 12 r ?_;refine wpAnyH_done kM ?_ _;have N:=y.o.lt;have O:=p.size;have g5:=az p.drew s p.size;clear r s;go_wp2_with fail;refine ret_cell_tmp rfl ((((bC.set_ 0 _).set_ 1 _).set_ 2 _).set_ 3 _) rfl underlying255 kM rfl ?_;refine ⟨Y,n',z,rfl,?_,by go_grown⟩;exact At (w4:=w3.drew) H.o N O
theorem tg (t:ae) (A:QA) (n r:Nat) (d:af) (W:QA) (nw z:Nat) (B:QA) (nb cb:Nat) (w:World) (J:aw t) (H:aQ d)
  (f:xA w A n r t.data) (y:xA w W nw z d.w) (e:xB w B nb cb d.bias) (E:t.ok=true) (x:¬ aR t.h t.v t.c d=0) :
  Calls prog 195 #[.agg (tN t.h t.v t.c A n r),.agg (nD d W nw z B nb cb)] w (aT .i32 ak (aR t.h t.v t.c d) w):=by
 obtain ⟨l,M,b,j,g⟩:=zh5 J H f y e;have Y:n≤9223372036854775807:=lT f.cap_le f.max_le;have Z:nw≤9223372036854775807:=lT y.cap_le y.max_le;have m3:nb≤9223372036854775807:=lT e.cap_le e.max_le;clear J H f y e;have m:decide (0 < ag t.h t.v t.c∧ag t.h t.v t.c=n)=true:=by rw [← b.o.n_eq];simpa [ae.ok] using E
 have K:=zH m;clear E m;generalize I:aR t.h t.v t.c d=k at *;have Q:(k != 0)=true:=by rw [bne_iff_ne];exact x
 obtain ⟨N,L⟩:=zh2 I x;clear I x;go_in;go_wp2_with fail;refine qM (av t.h t.v t.c A n r _ l.o.h l.o.v l.o.c (lT b.o.cap_le b.o.max_le)) fun w1 e=>?_;rw [K.o];have F:=az (B:=w.heap.size) (a:=w) (by go_grown) e (by simp;omega);have q:=((Blk.now _ w.heap.size _ _ rfl).past _ |>.past _).later e;have D:=((Blk.now _ (w.heap.size+1) _ _ sM).past _).later e;have bC:=(Blk.now _ (w.heap.size+1+1) _ _ sM).later e;obtain ⟨C,p,s⟩:=zh3 q D bC;have O:=fun i=>q.cell i;clear q D bC e
 go_wp2_with (refine lG p.o ?_)
 refine qM (kA t.h t.v t.c d W nw z B nb cb _ l.o.h l.o.v l.o.c M.o.out j.o.n_eq.symm g.o.n_eq.symm (lT j.o.cap_le j.o.max_le) (lT g.o.cap_le g.o.max_le)) fun U e=>?_;have G:=az F e F.size;have R:=s.o.lt;have S:=e.size;obtain ⟨C,p,s⟩:=zh3 (C.o.later e) (p.o.later e) (s.o.later e);clear e O;rw [N.o,uv k d.out L.o];have s:=zH (s.o.past (.cells (sN 0 0 0) 23));have P:Below w w (U.alloc (.cells (sN 0 0 0) 23)):=G.alloc G.size _;have X:=fun i=>s.o.frozen i;have V:=fun i=>s.o.cell i;have T:=P.size;go_wp2_with fail;refine ret_cell_tmp rfl ((((s.o.set_ 0 _).set_ 1 _).set_ 2 _).set_ 3 _) rfl underlying255 kM rfl ?_;exact aT.none (by go_grown)
theorem uR (t:ae) (A:QA) (n a:Nat) (d:af) (W:QA) (nw i:Nat) (B:QA) (nb cb:Nat) (w:World) (f:aw t) (m:aQ d)
  (r:xA w A n a t.data) (y:xA w W nw i d.w) (l:xB w B nb cb d.bias) :
  Calls prog 195 #[.agg (tN t.h t.v t.c A n a),.agg (nD d W nw i B nb cb)] w (aT .i32 (dU t d).1 (dU t d).2 w):=by
 by_cases o:t.ok=true
 ·by_cases s:aR t.h t.v t.c d=0
  ·have e:dU t d=(⟨1,1,d.out,bE t.data d.w d.bias d.za⟩,0):=by unfold dU;rw [if_pos o,if_pos s]
   rw [e];exact ti t A n a d W nw i B nb cb w f m r y l o s
  ·have e:dU t d=(ak,aR t.h t.v t.c d):=by unfold dU;rw [if_pos o,if_neg s]
   rw [e];exact tg t A n a d W nw i B nb cb w f m r y l o s
 ·have e:dU t d=(ak,5):=by unfold dU;rw [if_neg o]
  rw [e];exact uS t A n a d W nw i B nb cb w f m r y l o
end Go.Proofs.YtbecbfpoahhpnaaGreat
