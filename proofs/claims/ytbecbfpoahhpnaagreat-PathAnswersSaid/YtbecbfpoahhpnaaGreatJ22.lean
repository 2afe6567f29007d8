/- Sums of channels (layer 17): the walk of depth.Of where all is right. -/
import Derived.Test.YtbecbfpoahhpnaaGreatJ18
set_option linter.unusedVariables false
set_option linter.unusedSimpArgs false
set_option maxRecDepth 100000
set_option maxHeartbeats 16000000
namespace Go.Proofs.YtbecbfpoahhpnaaGreat
open Go.RowKit Go.ChangeShapes Go.WideShapes Tryz
theorem tk (t:ae) (A:QA) (n z:Nat) (d:af) (W:QA) (nw cw:Nat) (B:QA) (nb cb:Nat) (w:World) (ht:aw t) (hd:aQ d)
  (ha:xA w A n z t.data) (hw:xA w W nw cw d.w) (r:xB w B nb cb d.bias) (mw:nw≤2000∧nb≤200) (c1:t.ok=true) (c2:(bF t.h t.v t.c d).2=0) :
  Calls prog 194 #[.agg (tN t.h t.v t.c A n z),.agg (nD d W nw cw B nb cb)] w (aT .i32 (db t d).1 (db t d).2 w):=by
 obtain ⟨HT,HD,HA,HW,HB⟩:=zh5 ht hd ha hw r;have m1:n≤9223372036854775807:=lT ha.cap_le ha.max_le;have m2:nw≤9223372036854775807:=lT hw.cap_le hw.max_le;have m3:nb≤9223372036854775807:=lT r.cap_le r.max_le;clear ht hd ha hw r;have SZ:=zH (show nw≤1048576∧nb≤1048576 by omega);obtain ⟨H,V,C,K,S,P,Ho,Wo,J,j,hx,lw,lb,el,ev⟩:=lQ c1 c2;rw [ev];obtain ⟨HX,J,j⟩:=zh3 hx J j;obtain ⟨EN,LW,LB,EL⟩:=zh4 (show n=H*V*C by have:=J.o.n_eq;rw [HA.o.n_eq] at this;exact this) (show nw=C*K*K by rw [← HW.o.n_eq];exact lw) (show nb=C by rw [← HB.o.n_eq];exact lb) (fun w=>bL (Ho:Int) (C:Int) (Wo:Int) w (by have:=j.o.ho1;rw [ai];omega) (by have:=j.o.wo1;rw [ai];omega) (by have:=j.o.co1;rw [ai];omega));rw [el] at EL;have hN:=j.o.no;obtain ⟨N,an⟩:∃ N,Ho*Wo*C=N:=⟨_,rfl⟩;rw [an] at EL hN;have NE:=zH an;rw [an];have DS:=zH (fun (y x c:Nat) (hy:y≤1000) (hx:x≤1000) (hc:c < C) (wq:World) (ha:xA wq A n z t.data) (hw:xA wq W nw cw d.w) (r:xB wq B nb cb d.bias) =>
  tp H V C A n z t.data d W nw cw B nb cb K S P y x c wq ha hw r EN.o (by have:=J.o.n_le;have:=HA.o.n_eq;omega) J.o.h1 J.o.v1 J.o.c1 (gP J.o) j.o.k j.o.s j.o.p j.o.k1 j.o.s1 j.o.p1.1 HD.o.za hy hx hc (by rw [LB.o];exact hc) LW.o)
 rw [← J.o.h,← J.o.v,← J.o.c] at DS;have FV:=zH (show ∀ i,jA t d Wo C i=wrap32 (d.bias.getD (i % C) 0+lO H V C t.data d.za d.w K S P (i % C) (i / C / Wo) (i / C % Wo)) from fun i=>by
  unfold jA;rw [J.o.h,J.o.v,J.o.c,j.o.k,j.o.s,j.o.p];simp only [Int.toNat_natCast])
 have bR:(Ho:Int)≤16:=by have:=j.o.ho1;omega
 have bT:(Wo:Int)≤16:=by have:=j.o.wo1;omega
 have bW:(C:Int)≤1024:=by have:=j.o.co1;omega
 have ce:(C:Int) ≠ 0:=by have:=j.o.co1;omega
 have ca:¬ C=0:=by have:=j.o.co1;omega
 have co:¬ Wo=0:=by have:=j.o.wo1;omega
 have ct:(Wo:Int) ≠ 0:=by have:=j.o.wo1;omega
 clear c2 hx el ev lw lb an;have be:decide (0 < ag t.h t.v t.c∧ag t.h t.v t.c=n)=true:=by rw [← HA.o.n_eq];simpa [ae.ok] using c1
 have C1:=zH be;clear c1 be;go_in;go_wp2_with fail;refine qM (av t.h t.v t.c A n z _ HT.o.h HT.o.v HT.o.c (lT HA.o.cap_le HA.o.max_le)) fun w1 r=>?_;rw [C1.o];have g1:=az (B:=w.heap.size) (a:=w) (by go_grown) r (by simp;omega);have bA:=((Blk.now _ w.heap.size _ _ rfl).past _ |>.past _).later r;have bB:=((Blk.now _ (w.heap.size+1) _ _ sM).past _).later r;have bC:=(Blk.now _ (w.heap.size+1+1) _ _ sM).later r;obtain ⟨M,F,G⟩:=zh3 bA bB bC;have cA:=fun i=>bA.cell i;clear bA bB bC r
 go_wp2_with (refine lG F.o ?_)
 refine qM (il t.h t.v t.c d W nw cw B nb cb _ HT.o.h HT.o.v HT.o.c HD.o.out HW.o.n_eq.symm HB.o.n_eq.symm SZ.o.1 SZ.o.2) fun U r=>?_;have g2:=az g1 r g1.size;have bw:=G.o.lt;have bp:=r.size;obtain ⟨M,F,G⟩:=zh3 (M.o.later r) (F.o.later r) (G.o.later r);clear r cA;rw [HX.o];simp only [aY];have T:=zH (show Far w U from ⟨g2⟩);have bb:w.heap.size < U.heap.size:=oM;obtain ⟨w4,bo,X,ba⟩:=nB U (sN (Ho:Int) (Wo:Int) (C:Int)) 23;obtain ⟨T,M,F,G⟩:=uz4 ba T M F G;clear ba;have bc:=zL bo;go_wp2_with fail;clear bo;go_cut [8] (fun b wx=>∃ g q,b=.pointer (some ⟨g,0,none⟩)∧Blk wx g 255 (tN (Ho:Int) (Wo:Int) (C:Int) (some ⟨q,0,none⟩) (N) (N))∧Own (ab .i32) wx (fun _=>False) w4.heap.size 21 (.slice (some ⟨q,0,none⟩) (N) (N)) (N) (List.replicate (N) 0)∧q ≠ g∧w4.heap.size≤g∧Below w4 w4 wx)
 case first =>
  refine wp_region_held_drew (S:=fun w'=>Blk w' (U.heap.size) 23 (sN (Ho:Int) (Wo:Int) (C:Int))∧Below w4 w4 w') kM ?_ (fun e=>?_)
  ·exact ⟨X.o.drew,(qB _ _).drew⟩
  refine tkH 0 rfl (yP (sN (Ho:Int) (Wo:Int) (C:Int)) (fun w hs=>hs.1)) e ?_;try simp only [pX]
  refine tkH 1 rfl (yP (sN (Ho:Int) (Wo:Int) (C:Int)) (fun w hs=>hs.1)) e ?_;try simp only [pX]
  refine wpAnyH_ready (rs:=[2,5]) kM sM ?_;refine AllReadyH.cons rfl (fun K l=>?_) (AllReadyH.cons rfl (fun K l=>?_) AllReadyH.nil)
  ·go_simp;refine qM (EL.o _) fun E r=>?_;refine xK l (zR r e) fun e=>?_;clear l K;refine wpAnyH_ready (rs:=[3,5]) kM sM ?_;refine AllReadyH.cons rfl (fun K l=>?_) (AllReadyH.cons rfl (fun K l=>?_) AllReadyH.nil)
   ·rw [if_pos (by rfl)];have zq:w4.heap.size≤E.heap.size:=e.2.size;refine dy (k:=.i32) (base:=w4.heap.size) (n:=N) (.tmp 27) (.tmp 27) rfl iM .i64 .i64 rfl rfl oM mL zq dM ?_;intro wm f O;have I:=zH (show Own (ab .i32) wm (fun _=>False) w4.heap.size 21 (.slice (some ⟨E.heap.size,0,none⟩) (N) (N)) (N) (List.replicate (N) 0) by first|exact f|simpa [World.size_alloc] using f);refine l.out _ _ ⟨Blk.grown0 e.1 O,e.2.grown O zq sM⟩ (fun e=>?_);clear l K f O;try simp only [pX]
    refine kH' 4 e ?_;refine rH 5 rfl (fun K l=>?_);go_simp;have Q:w4.heap.size≤wm.heap.size:=e.2.size;obtain ⟨r,R⟩:=zB wm (tN 0 0 0 none 0 0) 255;have bd:E.heap.size < wm.heap.size:=(I.o.lt _ rfl).2;replace I:=zH (I.o.below r (lR _) (fun _ h=>h.elim));refine xK l (zR r e) fun e=>?_;clear l K;refine rH 6 rfl (fun K l=>?_);rw [if_pos (by rfl)];refine oG (tN (Ho:Int) (Wo:Int) (C:Int) (some ⟨E.heap.size,0,none⟩) (N) (N)) R.o ?_;intro wc BX Y;have D:E.heap.size ≠ wm.heap.size:=by have:=bd;omega
    replace I:=zH (I.o.flat Y (.inr (by first|(simp [Value.ownBlock];done)|(simp [Value.ownBlock];exact D))) (fun _ h=>h));refine l.out _ _ ⟨e.1.away Y (by have:=(show U.heap.size < w4.heap.size by omega);have:=Q;simp only [World.size_drew] at *;omega),e.2.grown Y e.2.size (fun k h=>by have:=sI h;have:=Q;simp only [World.size_drew] at *;omega)⟩ (fun e=>?_);clear l K;try simp only [pX]
    refine wpAnyH_done kM ?_ _;have FZ:=e.2;go_wp2_with fail;go_meet
    case rel=>exact ⟨_,_,rfl,BX,I.o,D,Q,FZ⟩
   ·go_simp;have Q:w4.heap.size≤E.heap.size:=e.2.size;obtain ⟨r,R⟩:=zB E (tN 0 0 0 none 0 0) 255;refine xK l (zR r e) fun e=>?_;clear l K;refine rH 3 rfl (fun K l=>?_);rw [if_pos (by rfl)];have zq:w4.heap.size≤(E.alloc (.cells (tN 0 0 0 none 0 0) 255)).heap.size:=e.2.size;refine dy (k:=.i32) (base:=w4.heap.size) (n:=N) (.tmp 27) (.tmp 27) rfl iM .i64 .i64 rfl rfl oM mL zq dM ?_;intro wm f O;have I:=zH (show Own (ab .i32) wm (fun _=>False) w4.heap.size 21 (.slice (some ⟨(E.heap.size+1),0,none⟩) (N) (N)) (N) (List.replicate (N) 0) by first|exact f|simpa [World.size_alloc] using f);replace R:=zH (R.o.grown0 O);refine l.out _ _ ⟨Blk.grown0 e.1 O,e.2.grown O zq sM⟩ (fun e=>?_);clear l K f O;try simp only [pX]
    refine kH' 4 e ?_;refine rH 6 rfl (fun K l=>?_);rw [if_pos (by rfl)];refine oG #[.int .i64 (Ho:Int),.int .i64 (Wo:Int),.int .i64 (C:Int),.slice (some ⟨(E.heap.size+1),0,none⟩) (N) (N)] R.o ?_;intro wc BX Y;have D:(E.heap.size+1) ≠ E.heap.size:=oM;replace I:=zH (I.o.flat Y (.inr (by first|(simp [Value.ownBlock];done)|(simp [Value.ownBlock];exact D))) (fun _ h=>h));refine l.out _ _ ⟨e.1.away Y (by have:=(show U.heap.size < w4.heap.size by omega);have:=Q;simp only [World.size_drew] at *;omega),e.2.grown Y e.2.size (fun k h=>by have:=sI h;have:=Q;simp only [World.size_drew] at *;omega)⟩ (fun e=>?_);clear l K;try simp only [pX]
    refine wpAnyH_done kM ?_ _;have FZ:=e.2;go_wp2_with fail;go_meet
    case rel=>exact ⟨_,_,rfl,BX,I.o,D,Q,FZ⟩
  ·go_simp;have Q:w4.heap.size≤w4.heap.size:=e.2.size;have r:Below w4.drew.heap.size w4.drew (w4.drew.alloc (.cells (tN 0 0 0 none 0 0) 255)):=(qB _ _).alloc (lR _) _;have R:=zH (Blk.now w4.drew w4.heap.size 255 (tN 0 0 0 none 0 0) rfl);refine xK l (zR r e) fun e=>?_;clear l K;refine rH 2 rfl (fun K l=>?_);go_simp;refine qM (EL.o _) fun E r=>?_;replace R:=zH (R.o.later r);have bl:=R.o.lt;refine xK l (zR r e) fun e=>?_;clear l K;refine rH 3 rfl (fun K l=>?_);rw [if_pos (by rfl)];have zq:w4.heap.size≤E.heap.size:=e.2.size;refine dy (k:=.i32) (base:=w4.heap.size) (n:=N) (.tmp 27) (.tmp 27) rfl iM .i64 .i64 rfl rfl oM mL zq dM ?_;intro wm f O;have I:=zH (show Own (ab .i32) wm (fun _=>False) w4.heap.size 21 (.slice (some ⟨E.heap.size,0,none⟩) (N) (N)) (N) (List.replicate (N) 0) by first|exact f|simpa [World.size_alloc] using f);replace R:=zH (R.o.grown0 O);refine l.out _ _ ⟨Blk.grown0 e.1 O,e.2.grown O zq sM⟩ (fun e=>?_);clear l K f O;try simp only [pX]
   refine kH' 4 e ?_;refine rH 6 rfl (fun K l=>?_);rw [if_pos (by rfl)];refine oG (tN (Ho:Int) (Wo:Int) (C:Int) (some ⟨E.heap.size,0,none⟩) (N) (N)) R.o ?_;intro wc BX Y;have D:E.heap.size ≠ w4.heap.size:=by have:=bl;omega
   replace I:=zH (I.o.flat Y (.inr (by first|(simp [Value.ownBlock];done)|(simp [Value.ownBlock];exact D))) (fun _ h=>h));refine l.out _ _ ⟨e.1.away Y (by have:=(show U.heap.size < w4.heap.size by omega);have:=Q;simp only [World.size_drew] at *;omega),e.2.grown Y e.2.size (fun k h=>by have:=sI h;have:=Q;simp only [World.size_drew] at *;omega)⟩ (fun e=>?_);clear l K;try simp only [pX]
   refine wpAnyH_done kM ?_ _;have FZ:=e.2;go_wp2_with fail;go_meet
   case rel=>exact ⟨_,_,rfl,BX,I.o,D,Q,FZ⟩
 case rest =>
  obtain ⟨g,q,rfl,bg,f,bt,Q,b4⟩:=hcut;obtain ⟨w5,rfl⟩:∃ x,x=wc:=⟨_,rfl⟩;have BG:=zH bg;have bh:=b4.size;have lq:w4.heap.size≤q∧q < w5.heap.size:=f.lt _ rfl;have br:=bg.lt;obtain ⟨T,M,F,G,X⟩:=uz5 b4 T M F G X;clear b4;rw [← fD 0 (jA t d Wo C) N] at f;obtain ⟨ON,NQ⟩:=zh2 f (show q ≠ g∧w4.heap.size≤q∧q < w5.heap.size∧w4.heap.size≤g∧g < w5.heap.size∧U.heap.size < w4.heap.size∧w.heap.size+1+1 < U.heap.size by refine ⟨bt,?_,?_,?_,?_,?_,?_⟩ <;> omega);have bn:=BG.o.cell 3;clear bg f bt Q bh lq br;go_wp2_with fail;clear bn;go_loopw [33] (fun ii wr=>∃ k:Nat,k≤N∧ii=.int .i64 k∧Far w wr∧Blk wr w.heap.size 29 (tN t.h t.v t.c A n z)∧Blk wr (w.heap.size+1) 84 (nD d W nw cw B nb cb)∧Blk wr (w.heap.size+1+1) 255 (tN 0 0 0 none 0 0)∧Blk wr U.heap.size 23 (sN (Ho:Int) (Wo:Int) (C:Int))∧Blk wr g 255 (tN (Ho:Int) (Wo:Int) (C:Int) (some ⟨q,0,none⟩) N N)∧Own (ab .i32) wr (fun _=>False) w4.heap.size 21 (.slice (some ⟨q,0,none⟩) N N) N (du 0 (jA t d Wo C) N (k))) (fun ii _=>N - (intOf ii).toNat)
  case atStart=>exact ⟨0,zl _,rfl,T.o,M.o,F.o,G.o,X.o,BG.o,ON.o⟩
  case round =>
   obtain ⟨k,hk,rfl,f0,f1,f2,f3,f4,f5,f6⟩:=hrel;clear T M F G X BG ON;obtain ⟨T,M,F,G,X,BG,ON⟩:=zh7 f0 f1 f2 f3 f4 f5 f6;clear f0 f1 f2 f3 f4 f5 f6;by_cases ay:k < N
   ·have p1:(k:Int) < (N:Int):=oM;go_wp2_with fail;obtain ⟨v1,v2,v3⟩:=wD (i:=k) (Ho:=Ho) (Wo:=Wo) (Co:=C) (by rw [NE.o];exact ay);have FK:=zH (FV.o k);obtain ⟨kc,ah⟩:∃ m,k % C=m:=⟨_,rfl⟩;obtain ⟨kq,Z⟩:∃ m,k / C=m:=⟨_,rfl⟩;rw [ah,Z] at FK;rw [Z] at v2 v3;rw [ah] at v1;obtain ⟨ky,al⟩:∃ m,kq / Wo=m:=⟨_,rfl⟩;obtain ⟨kx,ad⟩:∃ m,kq % Wo=m:=⟨_,rfl⟩;rw [al,ad] at FK;rw [al] at v2;rw [ad] at v3;have d1:(k:Int).tdiv (C:Int)=(kq:Int):=by rw [← Z,Int.tdiv_eq_ediv_of_nonneg oM];simp
    have d2:(k:Int).tmod (C:Int)=(kc:Int):=by rw [← ah,Int.tmod_eq_emod_of_nonneg oM];simp
    have d3:(kq:Int).tdiv (Wo:Int)=(ky:Int):=by rw [← al,Int.tdiv_eq_ediv_of_nonneg oM];simp
    have d4:(kq:Int).tmod (Wo:Int)=(kx:Int):=by rw [← ad,Int.tmod_eq_emod_of_nonneg oM];simp
    have bs:kq≤1024:=by rw [← Z];exact lT (Nat.div_le_self _ _) oM
    have g1:IntKind.i64.wrap (kq:Int)=(kq:Int):=wJ;have g2:IntKind.i64.wrap (kc:Int)=(kc:Int):=wJ;have g3:IntKind.i64.wrap (ky:Int)=(ky:Int):=wJ;have g4:IntKind.i64.wrap (kx:Int)=(kx:Int):=wJ;obtain ⟨ax,L⟩:∃ m,wrap32 (d.bias.getD kc 0+lO H V C t.data d.za d.w K S P kc ky kx)=m:=⟨_,rfl⟩;rw [L] at FK;have ac:=zH (fun wq (r:Below w w wq)=>DS.o ky kx kc oM oM v1 wq ((Old.now HA.o).fut r).all ((Old.now HW.o).fut r).all ((Old.now HB.o).fut r).all);rw [L] at ac;obtain ⟨RE,KB⟩:=zh2 (show InK .i32 ax by rw [cE,← L];exact eT _) (show k < N from ay);have fd:Below w w wr.drew:=T.u.drew;clear ah Z al ad L v1 v2 v3 bs;refine aP (fun w'=>w'.cell? ⟨U.heap.size,1,none⟩=some (.int .i64 (Wo:Int))∧w'.cell? ⟨U.heap.size,2,none⟩=some (.int .i64 (C:Int))∧w'.cell? ⟨g,3,none⟩=some (.slice (some ⟨q,0,none⟩) N N)∧Blk w' w.heap.size 29 (tN t.h t.v t.c A n z)∧Blk w' (w.heap.size+1) 84 (nD d W nw cw B nb cb)∧Below wr.drew.heap.size wr.drew w') 24 kM ?_ (fun e=>?_)
    ·exact ⟨X.o.drew.cell 1,X.o.drew.cell 2,BG.o.drew.cell 3,M.o.drew,F.o.drew,qB _ _⟩
    refine kT' 0 e ?_;refine kT' 1 e ?_;refine kT' 2 e ?_;refine tkT 3 rfl (yP (tN t.h t.v t.c A n z) (fun w hs=>hs.2.2.2.1)) e ?_;try simp only [pX]
    refine tkT 4 rfl (yP (nD d W nw cw B nb cb) (fun w hs=>hs.2.2.2.2.1)) e ?_;try simp only [pX]
    refine kT' 5 e ?_;refine kT' 6 e ?_;refine kT' 7 e ?_;refine kT' 8 e ?_;refine kT' 9 e ?_;refine kT' 10 e ?_;refine kT' 11 e ?_;refine kT' 12 e ?_;refine kT' 13 e ?_;refine kT' 14 e ?_;refine kT' 15 e ?_;refine kT' 16 e ?_;refine kT' 17 e ?_;refine kT' 18 e ?_;refine kT' 19 e ?_;refine kT' 20 e ?_;refine kT' 21 e ?_;refine kT' 22 e ?_;refine rT 23 (fun K l=>?_);go_simp
    (refine qM (ac.o _ fd) fun wm r=>?_)
    refine xK l (zR r e) fun e=>?_;clear l K;refine wpAnyT_tail _ _ rfl rfl kM ?_;have kd:=(show Below wr wr wr.drew from (qB _ _).drew).trans r;replace ON:=zH (ON.o.below kd (lR _) (fun _ h=>h.elim));obtain ⟨T,M,F,G,X,BG⟩:=uz6 kd T M F G X BG;clear e r kd fd;obtain ⟨x1,u1,-,-,c5,c6,c7,-⟩:=ON.o.cell rfl k ay;go_wp2_with fail;obtain ⟨o3,g3⟩:=ON.o.set1 rfl k (.int .i32 ax) ax ⟨rfl,RE.o⟩ (fun _ h=>h.elim);have FS:=fv 0 (jA t d Wo C) N k KB.o;rw [FK.o] at FS;rw [FS] at o3;obtain ⟨bx,bz,bD,bH,bM,bN,bO⟩:=NQ.o;exact ⟨⟨k+1,by omega,by go_num,T.o.away g3 oM,M.o.away g3 (.inl oM),F.o.away g3 (.inl oM),G.o.away g3 (.inl oM),X.o.away g3 (.inl oM),BG.o.away g3 oM,o3⟩,by simp [intOf];omega⟩
   ·obtain rfl:k=N:=oM
    go_wp2_with (first|(refine lB 255 (.tmp 8) g BG.o underlying255 ?_)|(refine sB 255 (.tmp 4) (.tmp 62) (w.heap.size+1+1) (tN (Ho:Int) (Wo:Int) (C:Int) (some ⟨q,0,none⟩) k k) G.o ?_;intro w9 B9 g9))
    have e1:=ON.o;rw [fZ] at e1;have e2:=e1.flat g9 (.inr (by have:=NQ.o;simp [Value.ownBlock];omega)) (fun _ h=>h);refine rG B9 ?_;have FE:=T.o.away g9 oM;obtain ⟨A2,c2,hv,s⟩:=e2.sl (S':=bin w.heap.size _) dM (fun b h1 h2=>⟨by omega,h2⟩) (fun b h=>h.elim);injection hv with hv1 hv2 hv3
    subst hv1 hv3;exact ⟨_,_,_,rfl,s,FE.out⟩
open Fx
theorem np {P:Program} {i:Func} {R:Ending → World → Prop} {a:Act} {w:World} {g:Nat} {e t o:TypeId} {n:Nat} {cs:Array Value} {p u:Tmp} (h:i.results=#[.cell p t,.tmp u]) (r:Blk w g e cs) (l:a.tmps.getD p undef=.pointer (some ⟨g,0,none⟩)) (c:P.underlying t=some (.array n o)) (hi:(P.info? t).map (·.size)=some cs.size) (d:a.defers=[])
  (s:R (.returned (.tuple #[.agg cs,a.tmps.getD u undef])) w):bodyPost P i R .ret a w:=by
 refine bodyPost_ret (v:=.tuple #[.agg cs,a.tmps.getD u undef]) ?_ d s;rw [results_cell_tmp h,l,df,Result.andThen_ok,run_loadVar_row w g e t cs (0,0) (.array n o) r.heap c rfl hi,Result.andThen_ok]
def bV (f:Nat → Int) (k:Nat):Array Value:=(Array.range 256).map fun i=>.int .i8 (if i < k then f i else 0)
theorem bQ (f:Nat → Int) (k:Nat):(bV f k).size=256:=by simp [bV]
theorem jw (f:Nat → Int) (k i:Nat) (h:i < 256):(bV f k)[i]?=some (.int .i8 (if i < k then f i else 0)):=by
 unfold bV;rw [Array.getElem?_map,Array.getElem?_range,if_pos h];rfl
theorem j7 (f:Nat → Int):Tryz.zeroCells249=bV f 0:=by
 have e:bV f 0=bV (fun _=>0) 0:=by
  unfold bV;congr 1
 rw [e];show Tryz.zeroCells249=bV (fun _=>0) 0
 kernel_rfl
theorem Cq (f:Nat → Int) (k:Nat) (h:k < 256):(bV f (k+1)).toList=(bV f k).toList.take k ++ [.int .i8 (f k)] ++ (bV f k).toList.drop (k+1):=by
 apply List.ext_getElem?;intro i;rw [List.append_assoc];by_cases e:i < k
 ·rw [List.getElem?_append_left (by simp [bQ];omega),List.getElem?_take,if_pos e,Array.getElem?_toList,Array.getElem?_toList,jw _ _ _ oM,jw _ _ _ oM,if_pos oM,if_pos e]
 ·rw [List.getElem?_append_right (by simp [bQ];omega)];simp only [List.length_take,Array.length_toList,bQ];rw [Nat.min_eq_left oM];by_cases a:i=k
  ·subst a;rw [Nat.sub_self,Array.getElem?_toList,jw _ _ _ h,if_pos oM];rfl
  ·obtain ⟨j,o⟩:∃ j,i - k=j+1:=⟨i - k - 1,by omega⟩;rw [o];show _=([] ++ (bV f k).toList.drop (k+1))[j]?;rw [List.nil_append,List.getElem?_drop,Array.getElem?_toList,Array.getElem?_toList,show k+1+j=i by omega];by_cases t:i < 256
   ·rw [jw _ _ _ t,jw _ _ _ t,if_neg oM,if_neg oM]
   ·rw [Array.getElem?_eq_none (by rw [bQ];omega),Array.getElem?_eq_none (by rw [bQ];omega)]
theorem lD (f:Nat → Int) (k:Nat):(bV f k).all (·.oneCell')=true:=by
 unfold bV;rw [Array.all_eq_true];intro i hi;simp [Value.oneCell']
def cT (d:af) (i:Nat):Int:=fU d ((i:Int) - 128)
theorem sW (d:af) (W:QA) (nw z:Nat) (B:QA) (nb cb:Nat) (w:World) (F:aQ d) :
  Calls prog 155 #[.agg (nD d W nw z B nb cb)] w fun e w'=>(∃ k:Nat,e=.returned (.tuple #[.agg (bV (cT d) k),.int .i64 (if aD d.qm d.qs=true then 0 else 7)])∧(aD d.qm d.qs=true → k=256))∧Below w w w':=by
 obtain ⟨C,N⟩:=zh2 (fun w=>dO d.qm d.qs d.qz w) F;have t:=zW w;obtain ⟨c,j,a,t⟩:=nF t (nD d W nw z B nb cb) 84;obtain ⟨s,h⟩:∃ x,c.alloc (.cells Tryz.zeroCells249 249)=x:=⟨_,rfl⟩;have k2:Below c c s:=by rw [← h];exact (qB _ _).alloc (lR _) _
 have i:=zH (show Blk s c.heap.size 249 (bV (cT d) 0) by rw [← h,j7 (cT d)];exact Blk.now _ _ _ _ rfl);obtain ⟨t,a⟩:=uz2 k2 t a;obtain ⟨K,m⟩:∃ x,s.alloc (.cells Tryz.zeroCells249 249)=x:=⟨_,rfl⟩;have J:Below s s K:=by rw [← m];exact (qB _ _).alloc (lR _) _
 have n:=zH (show Blk K s.heap.size 249 (bV (cT d) 0) by rw [← m,j7 (cT d)];exact Blk.now _ _ _ _ rfl);obtain ⟨t,a,i⟩:=uz3 J t a i;have R:=zL j;have S:=zL h;obtain ⟨q,H⟩:∃ q,aD d.qm d.qs=q:=⟨_,rfl⟩;rw [H] at C ⊢;clear F H k2 J;cases q with
 | false =>
  go_in
  go_wp2_with (first|(refine lP 82 #[.int .i32 d.qm,.int .i64 d.qs,.int .i8 d.qz] a.o ?_)|(go_at_call 138;refine qM (C.o _) fun M r=>?_;obtain ⟨t,n,i⟩:=uz3 r t n i;clear r)|(refine wpList_load_blk rfl 249 (.tmp 4) rfl s.heap.size 0 rfl _ (bV (cT d) 0) (bV (cT d) 0) _ n.o underlying249 rfl (by rw [bQ];kernel_rfl) (by rw [List.drop_zero,List.take_of_length_le sM]) ?_)|(refine wpList_store_all rfl 249 (.tmp 2) (.tmp 10) rfl c.heap.size (bV (cT d) 0) rfl rfl _ (bV (cT d) 0) i.o (by simp [bQ]) (by rw [bQ];kernel_rfl) (lD _ _) ?_;intro L f l))
  refine np rfl f rfl underlying249 (by rw [bQ];kernel_rfl) rfl ?_;exact ⟨⟨0,rfl⟩,(t.o.away l oM).out⟩
 | true =>
  go_in
  go_wp2_with (first|(refine lP 82 #[.int .i32 d.qm,.int .i64 d.qs,.int .i8 d.qz] a.o ?_)|(go_at_call 138;refine qM (C.o _) fun M r=>?_;obtain ⟨t,a,n,i⟩:=uz4 r t a n i;clear r))
  clear j h m;go_loopw [11] (fun D wr=>∃ k:Nat,k≤256∧D=.int .i64 k∧Far w wr∧Blk wr w.heap.size 84 (nD d W nw z B nb cb)∧Blk wr c.heap.size 249 (bV (cT d) 0)∧Blk wr s.heap.size 249 (bV (cT d) k)) (fun D _=>256 - (intOf D).toNat)
  case atStart=>exact ⟨0,zl _,rfl,t.o,a.o,i.o,n.o⟩
  case round =>
   obtain ⟨k,Q,rfl,G,y,p,b⟩:=hrel;clear t a i n;obtain ⟨t,a,i,n⟩:=zh4 G y p b;clear G y p b;by_cases g:k < 256
   ·have T:(k:Int) < 256:=oM;have P:IntKind.i8.wrap ((k:Int) - 128)=(k:Int) - 128:=by have:=xW ((k:Int) - 128);unfold w8 at this;rw [this];omega
    obtain ⟨A,O⟩:=zh2 (fun w=>kL ((k:Int) - 128) d W nw z B nb cb w (by rw [bj];omega) N.o) (show fU d ((k:Int) - 128)=cT d k from rfl);rw [O.o] at A;have E:=zH (Cq (cT d) k g);obtain ⟨v,I⟩:∃ v,cT d k=v:=⟨_,rfl⟩;rw [I] at A E;clear I
    go_wp2_with (first|(refine lG a.o ?_)|(go_at_call 188;refine qM (A.o _) fun M r=>?_;obtain ⟨t,a,n,i⟩:=uz4 r t a n i;clear r)|(refine wpList_store_one rfl 80 (.tmp 20) (.tmp 19) rfl s.heap.size k (.int .i8 v) rfl rfl rfl rfl _ (bV (cT d) k) (bV (cT d) (k+1)) n.o (by rw [bQ];exact g) kM E.o ?_;intro L f l))
    exact ⟨⟨k+1,by omega,by go_num,t.o.away l oM,a.o.away l (.inl oM),i.o.away l (.inl oM),f⟩,by simp [intOf];omega⟩
   ·obtain rfl:k=256:=oM
    go_wp2_with (first|(refine wpList_load_blk rfl 249 (.tmp 4) rfl s.heap.size 0 rfl _ (bV (cT d) 256) (bV (cT d) 256) _ n.o underlying249 rfl (by rw [bQ];kernel_rfl) (by rw [List.drop_zero,List.take_of_length_le sM]) ?_)|(refine wpList_store_all rfl 249 (.tmp 2) (.tmp 22) rfl c.heap.size (bV (cT d) 256) rfl rfl _ (bV (cT d) 0) i.o (by simp [bQ]) (by rw [bQ];kernel_rfl) (lD _ _) ?_;intro L f l))
    refine np rfl f rfl underlying249 (by rw [bQ];kernel_rfl) rfl ?_;exact ⟨rfl,(t.o.away l oM).out⟩
end Go.Proofs.YtbecbfpoahhpnaaGreat
