/- Numbers by a table (layer 21): act.By, act.Of. -/
import Derived.Test.YtbecbfpoahhpnaaGreatJ22
set_option linter.unusedVariables false
set_option linter.unusedSimpArgs false
set_option maxRecDepth 100000
set_option maxHeartbeats 16000000
namespace Go.Proofs.YtbecbfpoahhpnaaGreat
open Go.RowKit Go.ChangeShapes Go.WideShapes Fx Tryz
theorem yd (t:ae) (A:QA) (n f:Nat) (F:Nat → Int) (w:World) (Z:aw t) (X:xA w A n f t.data) (c1:t.ok=true) (hF:∀ i,InK .i8 (F i)) :
  Calls prog 156 #[.agg (tN t.h t.v t.c A n f),.agg (bV F 256)] w (aT .i8 ⟨t.h,t.v,t.c,(List.range n).map fun i=>F (t.data.getD i 0+128).toNat⟩ 0 w):=by
 obtain ⟨HA,HF,HT⟩:=zh3 X hF Z;obtain ⟨H,V,C,TK⟩:=fK c1;have ax:n≤1024:=by have:=TK.n_le;rw [X.n_eq] at this;exact this
 have U:decide (0 < ag t.h t.v t.c∧ag t.h t.v t.c=n)=true:=by rw [← HA.o.n_eq];simpa [ae.ok] using c1
 have RI:=zH (fun w=>av t.h t.v t.c A n f w Z.h Z.v Z.c (lT X.cap_le X.max_le));rw [U] at RI;have mx:n≤9223372036854775807:=oM;have l:=zW w;obtain ⟨O,ad,d,l⟩:=nF l (tN t.h t.v t.c A n f) 29;obtain ⟨R,L⟩:∃ x,O.alloc (.cells (bV F 256) 249)=x:=⟨_,rfl⟩;have k2:Below O O R:=by rw [← L];exact (qB _ _).alloc (lR _) _
 have p:=zH (show Blk R O.heap.size 249 (bV F 256) by rw [← L];exact Blk.now _ _ _ _ rfl);obtain ⟨l,d⟩:=uz2 k2 l d;obtain ⟨w3,al,j,ah⟩:=nB R (tN 0 0 0 none 0 0) 29;obtain ⟨l,d,p⟩:=uz3 ah l d p;clear ah;have l1:=zL ad;have l2:=zL L;have l3:=zL al;clear Z X c1 U TK hF k2;go_in
 go_wp2_with (first|(refine lG d.o ?_)|(go_at_call 58;refine qM (RI.o _) fun w4 N=>?_;have l4:=N.size;obtain ⟨l,d,p,j⟩:=uz4 N l d p j;clear N ad L al))
 go_cut [6] (fun b wx=>∃ g q,b=.pointer (some ⟨g,0,none⟩)∧Blk wx g 29 (tN t.h t.v t.c (some ⟨q,0,none⟩) (n) (n))∧Own (ab .i8) wx (fun _=>False) w4.heap.size 80 (.slice (some ⟨q,0,none⟩) (n) (n)) (n) (List.replicate (n) 0)∧q ≠ g∧w4.heap.size≤g∧Below w4 w4 wx)
 case first =>
  refine wp_region_held_drew (S:=fun w'=>w'.cell? ⟨w.heap.size,3,none⟩=some (.slice A n f)∧Blk w' (w.heap.size) 29 (tN t.h t.v t.c A n f)∧Below w4 w4 w') kM ?_ (fun a=>?_)
  ·exact ⟨d.o.drew.cell 3,d.o.drew,(qB _ _).drew⟩
  refine kH' 0 a ?_;refine tkH 1 rfl (yP (sN t.h t.v t.c) (fun w hs=>hs.2.1)) a ?_;try simp only [pX]
  refine kH' 2 a ?_;refine kH' 3 a ?_;refine kH' 4 a ?_;refine wpAnyH_ready (rs:=[5,7]) kM sM ?_;refine AllReadyH.cons rfl (fun K m=>?_) (AllReadyH.cons rfl (fun K m=>?_) AllReadyH.nil)
  ·rw [if_pos (by rfl)];have zq:w4.heap.size≤w4.drew.heap.size:=a.2.2.size;refine dy (k:=.i8) (base:=w4.heap.size) (n:=n) (.tmp 17) (.tmp 17) rfl jc .i64 .i64 rfl rfl oM mL zq dM ?_;intro P r E;have D:=zH (show Own (ab .i8) P (fun _=>False) w4.heap.size 80 (.slice (some ⟨w4.heap.size,0,none⟩) (n) (n)) (n) (List.replicate (n) 0) by first|exact r|simpa [World.size_alloc] using r);refine m.out _ _ ⟨cM E a.1 sM,Blk.grown0 a.2.1 E,a.2.2.grown E zq sM⟩ (fun a=>?_);clear m K r E;try simp only [pX]
   refine kH' 6 a ?_;refine rH 7 rfl (fun K m=>?_);go_simp;have B:w4.heap.size≤P.heap.size:=a.2.2.size;obtain ⟨N,T⟩:=zB P (tN 0 0 0 none 0 0) 29;have ay:w4.heap.size < P.heap.size:=(D.o.lt _ rfl).2;replace D:=zH (D.o.below N (lR _) (fun _ h=>h.elim));refine xK m (zR N a) fun a=>?_;clear m K;refine rH 8 rfl (fun K m=>?_);rw [if_pos (by rfl)];refine oG (tN t.h t.v t.c (some ⟨w4.heap.size,0,none⟩) (n) (n)) T.o ?_;intro wc BX I;have z:w4.heap.size ≠ P.heap.size:=by have:=ay;simp only [World.size_drew] at *;omega
   replace D:=zH (D.o.flat I (.inr (by first|(simp [Value.ownBlock];done)|(simp [Value.ownBlock];exact z))) (fun _ h=>h));refine m.out _ _ ⟨cM I a.1 (by intro e;have:=sI e;have:=(show w.heap.size < w4.heap.size by omega);have:=B;simp only [World.size_drew] at *;omega),a.2.1.away I (by have:=(show w.heap.size < w4.heap.size by omega);have:=B;simp only [World.size_drew] at *;omega),a.2.2.grown I a.2.2.size (fun k h=>by have:=sI h;have:=B;simp only [World.size_drew] at *;omega)⟩ (fun a=>?_);clear m K;try simp only [pX]
   refine wpAnyH_done kM ?_ _;have FZ:=a.2.2;go_wp2_with fail;go_meet
   case rel=>exact ⟨_,_,rfl,BX,D.o,z,B,FZ⟩
  ·go_simp;have B:w4.heap.size≤w4.heap.size:=a.2.2.size;have N:Below w4.drew.heap.size w4.drew (w4.drew.alloc (.cells (tN 0 0 0 none 0 0) 29)):=(qB _ _).alloc (lR _) _;have T:=zH (Blk.now w4.drew w4.heap.size 29 (tN 0 0 0 none 0 0) rfl);refine xK m (zR N a) fun a=>?_;clear m K;refine rH 5 rfl (fun K m=>?_);rw [if_pos (by rfl)];have zq:w4.heap.size≤(w4.drew.alloc (.cells (tN 0 0 0 none 0 0) 29)).heap.size:=a.2.2.size;refine dy (k:=.i8) (base:=w4.heap.size) (n:=n) (.tmp 17) (.tmp 17) rfl jc .i64 .i64 rfl rfl oM mL zq dM ?_;intro P r E;have D:=zH (show Own (ab .i8) P (fun _=>False) w4.heap.size 80 (.slice (some ⟨(w4.heap.size+1),0,none⟩) (n) (n)) (n) (List.replicate (n) 0) by first|exact r|simpa [World.size_alloc] using r);replace T:=zH (T.o.grown0 E);refine m.out _ _ ⟨cM E a.1 sM,Blk.grown0 a.2.1 E,a.2.2.grown E zq sM⟩ (fun a=>?_);clear m K r E;try simp only [pX]
   refine kH' 6 a ?_;refine rH 8 rfl (fun K m=>?_);rw [if_pos (by rfl)];refine oG #[.int .i64 t.h,.int .i64 t.v,.int .i64 t.c,.slice (some ⟨(w4.heap.size+1),0,none⟩) (n) (n)] T.o ?_;intro wc BX I;have z:(w4.heap.size+1) ≠ w4.heap.size:=oM;replace D:=zH (D.o.flat I (.inr (by first|(simp [Value.ownBlock];done)|(simp [Value.ownBlock];exact z))) (fun _ h=>h));refine m.out _ _ ⟨cM I a.1 (by intro e;have:=sI e;have:=(show w.heap.size < w4.heap.size by omega);have:=B;simp only [World.size_drew] at *;omega),a.2.1.away I (by have:=(show w.heap.size < w4.heap.size by omega);have:=B;simp only [World.size_drew] at *;omega),a.2.2.grown I a.2.2.size (fun k h=>by have:=sI h;have:=B;simp only [World.size_drew] at *;omega)⟩ (fun a=>?_);clear m K;try simp only [pX]
   refine wpAnyH_done kM ?_ _;have FZ:=a.2.2;go_wp2_with fail;go_meet
   case rel=>exact ⟨_,_,rfl,BX,D.o,z,B,FZ⟩
 case rest =>
  obtain ⟨g,q,rfl,bg,r,Y,B,b4⟩:=hcut;obtain ⟨w5,rfl⟩:∃ x,x=wc:=⟨_,rfl⟩;have M:=zH bg;have lq:w4.heap.size≤q:=(r.lt _ rfl).1;obtain ⟨l,d,p,j⟩:=uz4 b4 l d p j;clear b4;rw [← fD 0 (fun i=>F (t.data.getD i 0+128).toNat) n] at r;obtain ⟨G,NQ⟩:=zh2 r (show q ≠ g∧w4.heap.size≤q∧w4.heap.size≤g∧R.heap.size < w4.heap.size∧O.heap.size < R.heap.size∧w.heap.size < O.heap.size by refine ⟨Y,?_,?_,?_,?_,?_⟩ <;> omega);have a3:=d.o.cell 3;clear bg r Y B lq;go_wp2_with fail;clear a3;go_loopw [23] (fun ii wr=>∃ k:Nat,k≤n∧ii=.int .i64 k∧Far w wr∧Blk wr w.heap.size 29 (tN t.h t.v t.c A n f)∧Blk wr O.heap.size 249 (bV F 256)∧Blk wr R.heap.size 29 (tN 0 0 0 none 0 0)∧Blk wr g 29 (tN t.h t.v t.c (some ⟨q,0,none⟩) n n)∧Own (ab .i8) wr (fun _=>False) w4.heap.size 80 (.slice (some ⟨q,0,none⟩) n n) n (du 0 (fun i=>F (t.data.getD i 0+128).toNat) n k)) (fun ii _=>n - (intOf ii).toNat)
  case atStart=>exact ⟨0,zl _,rfl,l.o,d.o,p.o,j.o,M.o,G.o⟩
  case round =>
   obtain ⟨k,hk,rfl,f0,f1,f2,f3,f4,f5⟩:=hrel;clear l d p j M G;obtain ⟨l,d,p,j,M,G⟩:=zh6 f0 f1 f2 f3 f4 f5;clear f0 f1 f2 f3 f4 f5;by_cases J:k < n
   ·have p1:(k:Int) < (n:Int):=oM;obtain ⟨b,o,rfl,-,-,cx,ix⟩:=(zO HA l).int_at k J;have FS:=zH (fv 0 (fun i=>F (t.data.getD i 0+128).toNat) n k J);obtain ⟨x,hx⟩:∃ x,t.data.getD k 0=x:=⟨_,rfl⟩;rw [hx] at cx ix;have FE:=zH (show F (t.data.getD k 0+128).toNat=F (x+128).toNat by rw [hx]);rw [bj] at ix;obtain ⟨x1,x2⟩:=ix;obtain ⟨y,hy⟩:∃ y:Nat,x+128=y:=⟨(x+128).toNat,by omega⟩;have an:y < 256:=oM;rw [hy,Int.toNat_natCast] at FE;obtain ⟨v,Q⟩:∃ v,F y=v:=⟨_,rfl⟩;have RE:=zH (show InK .i8 v by rw [← Q];exact HF.o y);have tb:=p.o.cell y;rw [jw F 256 y an,if_pos an,Q] at tb;rw [Q] at FE;obtain ⟨x0,u0,-,-,c5,c6,c7,-⟩:=G.o.cell rfl k J;have ac:=M.o.cell 3;have e1:IntKind.i64.wrap x=x:=wJ;have e2:IntKind.i64.wrap (x+128)=(y:Int):=(wJ).trans hy;have e3:IntKind.i64.wrap (y:Int)=(y:Int):=wJ;have be:(y:Int) < 256:=oM;clear hx Q;go_wp2_with fail;go_still_tail 8,kM;change wpList _ _ _ _ _ wr.drew;have kd:Below wr wr wr.drew:=(qB _ _).drew;replace G:=zH (G.o.below kd (lR _) (fun _ h=>h.elim));obtain ⟨l,d,p,j,M⟩:=uz5 kd l d p j M;clear kd cx tb ac c5 c6 c7;generalize wr.drew=wy at *;obtain ⟨x9,u9,-,-,c5,c6,c7,-⟩:=G.o.cell rfl k J;go_wp2_with fail;obtain ⟨o3,W⟩:=G.o.set1 rfl k (.int .i8 v) v ⟨rfl,RE.o⟩ (fun _ h=>h.elim);have fs:=FS.o;rw [FE.out] at fs;rw [fs] at o3;obtain ⟨n1,n2,n3,n4,n5,n6⟩:=NQ.o;exact ⟨⟨k+1,by omega,by go_num,l.o.away W oM,d.o.away W (.inl oM),p.o.away W (.inl oM),j.o.away W (.inl oM),M.o.away W oM,o3⟩,by simp [intOf];omega⟩
   ·obtain rfl:k=n:=oM;obtain ⟨n1,n2,n3,n4,n5,n6⟩:=NQ.o
    go_wp2_with (first|(refine lB 29 (.tmp 6) g M.o underlying29 ?_)|(refine sG (tN t.h t.v t.c (some ⟨q,0,none⟩) k k) j.o ?_;intro w9 B9 g9))
    have e2:=G.o.flat g9 (.inr (by simp [Value.ownBlock];omega)) (fun _ h=>h);rw [fZ] at e2;refine rG B9 ?_;obtain ⟨A2,c2,Q,s⟩:=e2.sl (S':=bin w.heap.size _) dM (fun b h1 h2=>⟨by omega,h2⟩) (fun b h=>h.elim);injection Q with hv1 hv2 hv3
    subst hv1 hv3;exact ⟨_,_,_,rfl,s,(l.o.away g9 oM).out⟩
def kN (t:ae) (d:af):ae × Int:=if aD d.qm d.qs=true then (⟨t.h,t.v,t.c,(List.range t.data.length).map fun i=>fU d (t.data.getD i 0)⟩,0) else (ak,7)
theorem yf (t:ae) (A:QA) (n f:Nat) (d:af) (W:QA) (nw T:Nat) (B:QA) (nb cb:Nat) (w:World) (E:aw t) (U:aQ d)
  (j:xA w A n f t.data) (L:t.ok=true) :
  Calls prog 118 #[.agg (tN t.h t.v t.c A n f),.agg (nD d W nw T B nb cb)] w (aT .i8 (kN t d).1 (kN t d).2 w):=by
 obtain ⟨Q,HT,HD,C1⟩:=zh4 j E U L;obtain ⟨H,V,C,TK⟩:=fK L;have an:n≤1024:=by have:=TK.n_le;rw [j.n_eq] at this;exact this
 have D:decide (0 < ag t.h t.v t.c∧ag t.h t.v t.c=n)=true:=by rw [← Q.o.n_eq];simpa [ae.ok] using L
 have S:=zH (fun w=>av t.h t.v t.c A n f w E.h E.v E.c (lT j.cap_le j.max_le));rw [D] at S;have mx:n≤9223372036854775807:=oM;have b:=zH (show kN t d=if aD d.qm d.qs=true then (⟨t.h,t.v,t.c,(List.range n).map fun i=>fU d (t.data.getD i 0)⟩,0) else (ak,7) by unfold kN;rw [j.n_eq]);obtain ⟨x,hx⟩:∃ x,kN t d=x:=⟨_,rfl⟩;rw [hx] at b ⊢;have a:=zW w;obtain ⟨w1,w2,w3,I,J,K,l1,l2,l3,l,m,r,G⟩:=bk3 w (tN t.h t.v t.c A n f) 29 (nD d W nw T B nb cb) 84 (tN 0 0 0 none 0 0) 29;replace a:=zF G a;clear G;obtain ⟨qq,N⟩:∃ q,aD d.qm d.qs=q:=⟨_,rfl⟩;rw [N] at b;obtain ⟨QE,z⟩:=zh2 N (fun w=>sW d W nw T B nb cb w U);rw [N] at z;clear E U j L D TK hx N;cases qq with
 | false =>
  rw [if_neg dM] at b;rw [b.o];simp only [Bool.false_eq_true,if_false,false_implies,and_true] at z;go_in
  go_wp2_with (first|(refine lG l.o ?_)|(go_at_call 58;refine qM (S.o _) fun w4 s=>?_;have l4:=s.size;obtain ⟨a,l,m,r⟩:=uz4 s a l m r;clear s I J K)|(refine lG m.o ?_))
  refine (z.o _).mono ?_;rintro e y ⟨⟨k,rfl⟩,s⟩;have l5:=s.size;obtain ⟨a,l,m,r⟩:=uz4 s a l m r;clear s;obtain ⟨F,p⟩:∃ x,y.alloc (.cells Tryz.zeroCells249 249)=x:=⟨_,rfl⟩;have s:Below y y F:=by rw [← p];exact (qB _ _).alloc (lR _) _
  have P:=zH (show Blk F y.heap.size 249 (bV (cT d) 0) by rw [← p,j7 (cT d)];exact Blk.now _ _ _ _ rfl);obtain ⟨a,l,m,r⟩:=uz4 s a l m r;clear s
  go_wp2_with (first|(refine wpList_store_all rfl 249 (.tmp 6) (.tmp 15) rfl y.heap.size (bV (cT d) k) rfl rfl _ (bV (cT d) 0) P.o (by simp [bQ]) (by rw [bQ];kernel_rfl) (lD _ _) ?_;intro w7 B7 g;replace a:=zA g a;replace r:=zA g r)|(refine sG (tN 0 0 0 none 0 0) r.o ?_;intro w9 O M))
  refine rG O ?_;exact aT.none (a.o.away M oM).out
 | true =>
  rw [if_pos rfl] at b;rw [b.o];simp only [if_true,true_implies] at z;have EQ:=zH (show ((List.range n).map fun i=>cT d (t.data.getD i 0+128).toNat)=((List.range n).map fun i=>fU d (t.data.getD i 0)) by
   apply List.map_congr_left;intro i _;have:=Q.o.allK i;rw [bj] at this;unfold cT;congr 1
   omega)
  have BY:=zH (fun wq (h:xA wq A n f t.data)=>yd t A n f (cT d) wq HT.o h C1.o (fun i=>qf d _));rw [EQ.o] at BY;go_in
  go_wp2_with (first|(refine lG l.o ?_)|(go_at_call 58;refine qM (S.o _) fun w4 s=>?_;have l4:=s.size;obtain ⟨a,l,m,r⟩:=uz4 s a l m r;clear s I J K)|(refine lG m.o ?_))
  refine (z.o _).mono ?_;rintro e y ⟨⟨k,rfl,rfl⟩,s⟩;have l5:=s.size;obtain ⟨a,l,m,r⟩:=uz4 s a l m r;clear s;obtain ⟨F,p⟩:∃ x,y.alloc (.cells Tryz.zeroCells249 249)=x:=⟨_,rfl⟩;have s:Below y y F:=by rw [← p];exact (qB _ _).alloc (lR _) _
  have P:=zH (show Blk F y.heap.size 249 (bV (cT d) 0) by rw [← p,j7 (cT d)];exact Blk.now _ _ _ _ rfl);obtain ⟨a,l,m,r⟩:=uz4 s a l m r;clear s
  go_wp2_with (first|(refine wpList_store_all rfl 249 (.tmp 6) (.tmp 15) rfl y.heap.size (bV (cT d) 256) rfl rfl _ (bV (cT d) 0) P.o (by simp [bQ]) (by rw [bQ];kernel_rfl) (lD _ _) ?_;intro w7 B7 g;replace a:=zA g a;replace r:=zA g r;replace l:=zA g l)|(refine lG l.o ?_)|(refine wpList_load_blk rfl 249 (.tmp 6) rfl y.heap.size 0 rfl _ (bV (cT d) 256) (bV (cT d) 256) _ B7 underlying249 rfl (by rw [bQ];kernel_rfl) (by rw [List.drop_zero,List.take_of_length_le sM]) ?_))
  refine (BY.o _ (zO Q a)).mono ?_;rintro e w8 ⟨R,rn,Z,rfl,rs,s⟩;have RS:=zH (show New w7 (ab .i8) w8 R rn Z _ from ⟨rs⟩);have X:=r.o.lt;have Y:=a.o.size;obtain ⟨a,r⟩:=uz2 s a r;clear s rs
  go_wp2_with (refine sG (tN t.h t.v t.c R rn Z) r.o ?_;intro w9 O M)
  refine rG O ?_;exact ⟨R,rn,Z,rfl,(RS.o.away M X).out.more (aW Y (lR _)),(a.o.away M oM).out⟩
theorem xm (t:ae) (A:QA) (n i:Nat) (p:Int) (w:World) (f:aw t) (m:xA w A n i t.data) (b:t.ok=true) :
  Calls prog 157 #[.agg (tN t.h t.v t.c A n i),.int .i64 p] w fun e w'=>e=.returned (.int .i64 (if p < 0 ∨ 4 < p then 2 else 0))∧Below w w w':=by
 have d:decide (0 < ag t.h t.v t.c∧ag t.h t.v t.c=n)=true:=by rw [← m.n_eq];simpa [ae.ok] using b
 have l:=zH (fun w=>av t.h t.v t.c A n i w f.h f.v f.c (lT m.cap_le m.max_le));rw [d] at l;have a:=zW w;obtain ⟨j,r,y,a⟩:=nF a (tN t.h t.v t.c A n i) 29;clear f m b d;by_cases g:p < 0
 ·rw [if_pos (.inl g)];go_in
  go_wp2_with (first|(refine lG y.o ?_)|(go_at_call 58;refine qM (l.o _) fun w4 s=>?_;replace a:=zF s a;clear s r))
  go_ret;exact ⟨rfl,a.u⟩
 ·by_cases k:4 < p
  ·rw [if_pos (.inr k)];go_in
   go_wp2_with (first|(refine lG y.o ?_)|(go_at_call 58;refine qM (l.o _) fun w4 s=>?_;replace a:=zF s a;clear s r))
   go_ret;exact ⟨rfl,a.u⟩
  ·rw [if_neg oM];go_in
   go_wp2_with (first|(refine lG y.o ?_)|(go_at_call 58;refine qM (l.o _) fun w4 s=>?_;replace a:=zF s a;clear s r))
   go_ret;exact ⟨rfl,a.u⟩
def oe (H V C:Nat) (l:List Int) (y x:Int) (c:Nat) (z:Int):Int:=if bY H V y x then l.getD (eB V C y x c) 0 else z
def Bw (H V C:Nat) (l:List Int) (p:Nat) (z:Int) (Wo i:Nat):Int:=oe H V C l ((i / C / Wo:Nat) - (p:Int)) ((i / C % Wo:Nat) - (p:Int)) (i % C) z
theorem Dd {H V C:Nat} {l:List Int} {y x:Int} {c:Nat} {z:Int} (e:∀ i,InK .i8 (l.getD i 0)) (t:InK .i8 z):InK .i8 (oe H V C l y x c z):=by
 unfold oe;split
 ·exact e _
 ·exact t
end Go.Proofs.YtbecbfpoahhpnaaGreat
