/-
  Sums of channels (layer 17): the walk of depth.Of where all is right.
  The numbers of a window, one by one (layer 19: the function of pool.window).
-/
import Derived.Test.YtmihnoagagbgaaaGreatJ21
import Derived.RangeFuncNested
import Derived.RangeFuncBound
import Derived.OwnWalkIn
import Derived.TacticsInMore
import Derived.LoopNIn
import Derived.LoopIn
set_option linter.unusedVariables false
set_option linter.unusedSimpArgs false
set_option maxRecDepth 100000
set_option maxHeartbeats 16000000
namespace Go.Proofs.YtmihnoagagbgaaaGreat
open Go.RowKit Go.ChangeShapes Go.WideShapes Tryz
set_option maxRecDepth 100000
set_option maxHeartbeats 16000000
theorem lO (t:ae) (A:QA) (n cap:Nat) (d:af) (W:QA) (nw cw:Nat) (B:QA) (nb cb:Nat) (w:World) (ht:ak t) (hd:aE d)
  (ha:xA w A n cap t.data) (hw:xA w W nw cw d.w) (hb:xB w B nb cb d.bias) (mw:nw≤2000∧nb≤200) (c1:t.ok=true) (c2:(aM t.h t.v t.c d).2=0) :
  Calls prog 131 #[.agg (tN t.h t.v t.c A n cap),.agg (nD d W nw cw B nb cb)] w (ar .i32 (aY t d).1 (aY t d).2 w):=by
 have HT:=zH ht
 have HD:=zH hd
 have HA:=zH ha
 have HW:=zH hw
 have HB:=zH hb
 have m1:n≤9223372036854775807:=lT ha.cap_le ha.max_le
 have m2:nw≤9223372036854775807:=lT hw.cap_le hw.max_le
 have m3:nb≤9223372036854775807:=lT hb.cap_le hb.max_le
 clear ht hd ha hw hb
 have SZ:=zH (show nw≤1048576∧nb≤1048576 by omega)
 obtain ⟨H,V,C,K,S,P,Ho,Wo,TK,WK,hx,lw,lb,el,ev⟩:=f7 c1 c2
 rw [ev]
 have HX:=zH hx
 have TK:=zH TK
 have WK:=zH WK
 have EN:=zH (show n=H*V*C by have:=TK.o.n_eq;rw [HA.o.n_eq] at this;exact this)
 have LW:=zH (show nw=C*K*K by rw [← HW.o.n_eq];exact lw)
 have LB:=zH (show nb=C by rw [← HB.o.n_eq];exact lb)
 have EL:=zH (fun w=>bQ (Ho:Int) (C:Int) (Wo:Int) w (by have:=WK.o.ho1;rw [ah];omega) (by have:=WK.o.wo1;rw [ah];omega) (by have:=WK.o.co1;rw [ah];omega))
 rw [el] at EL
 have hN:=WK.o.no
 obtain ⟨N,hNe⟩:∃ N,Ho*Wo*C=N:=⟨_,rfl⟩
 rw [hNe] at EL hN
 have NE:=zH hNe
 rw [hNe]
 have DS:=zH (fun (y x c:Nat) (hy:y≤1000) (hx:x≤1000) (hc:c < C) (wq:World) (ha:xA wq A n cap t.data) (hw:xA wq W nw cw d.w) (hb:xB wq B nb cb d.bias) =>
  uA H V C A n cap t.data d W nw cw B nb cb K S P y x c wq ha hw hb EN.o (by have:=TK.o.n_le;have:=HA.o.n_eq;omega) TK.o.h1 TK.o.v1 TK.o.c1 (dw TK.o) WK.o.k WK.o.s WK.o.p WK.o.k1 WK.o.s1 WK.o.p1.1 HD.o.za hy hx hc (by rw [LB.o];exact hc) LW.o)
 rw [← TK.o.h,← TK.o.v,← TK.o.c] at DS
 have FV:=zH (show ∀ i,db t d Wo C i=wrap32 (d.bias.getD (i % C) 0+eG H V C t.data d.za d.w K S P (i % C) (i / C / Wo) (i / C % Wo)) from fun i=>by
  unfold db
  rw [TK.o.h,TK.o.v,TK.o.c,WK.o.k,WK.o.s,WK.o.p]
  simp only [Int.toNat_natCast])
 have ub1:(Ho:Int)≤16:=by have:=WK.o.ho1;omega
 have ub2:(Wo:Int)≤16:=by have:=WK.o.wo1;omega
 have ub3:(C:Int)≤1024:=by have:=WK.o.co1;omega
 have ub4:(C:Int) ≠ 0:=by have:=WK.o.co1;omega
 have ub6:¬ C=0:=by have:=WK.o.co1;omega
 have ub7:¬ Wo=0:=by have:=WK.o.wo1;omega
 have ub5:(Wo:Int) ≠ 0:=by have:=WK.o.wo1;omega
 clear c2 hx el ev lw lb hNe
 have c1':decide (0 < ab t.h t.v t.c∧ab t.h t.v t.c=n)=true:=by rw [← HA.o.n_eq];simpa [ae.ok] using c1
 have C1:=zH c1'
 clear c1 c1'
 go_in
 go_wp2_with fail
 refine qM (av t.h t.v t.c A n cap _ HT.o.h HT.o.v HT.o.c (lT HA.o.cap_le HA.o.max_le)) fun w1 hb=>?_
 rw [C1.o]
 have g1:=ai (B:=w.heap.size) (a:=w) (by go_grown) hb (by simp;omega)
 have bA:=((Blk.now _ w.heap.size _ _ rfl).past _ |>.past _).later hb
 have bB:=((Blk.now _ (w.heap.size+1) _ _ sM).past _).later hb
 have bC:=(Blk.now _ (w.heap.size+1+1) _ _ sM).later hb
 have BA:=zH bA
 have BB:=zH bB
 have BC:=zH bC
 have cA:=fun i=>bA.cell i
 clear bA bB bC hb
 go_wp2_with (refine lGJ19 BB.o ?_)
 refine qM (eU t.h t.v t.c d W nw cw B nb cb _ HT.o.h HT.o.v HT.o.c HD.o.out HW.o.n_eq.symm HB.o.n_eq.symm SZ.o.1 SZ.o.2) fun w2 hb=>?_
 have g2:=ai g1 hb g1.size
 have lt1:=BC.o.lt
 have lt2:=hb.size
 have BA:=zH (BA.o.later hb)
 have BB:=zH (BB.o.later hb)
 have BC:=zH (BC.o.later hb)
 clear hb cA
 rw [HX.o]
 simp only [aL]
 have FR:=zH (show Far w w2 from ⟨g2⟩)
 have ltA:w.heap.size < w2.heap.size:=oM
 obtain ⟨w4,yw4,BD,yk4⟩:=nB w2 (sN (Ho:Int) (Wo:Int) (C:Int)) 24
 obtain ⟨FR,BA,BB,BC⟩:=uz4 yk4 FR BA BB BC
 clear yk4
 have l24:=zL yw4
 go_wp2_with fail
 clear yw4
 go_cut [8] (fun b wx=>∃ g q,b=.pointer (some ⟨g,0,none⟩)∧Blk wx g 80 (tN (Ho:Int) (Wo:Int) (C:Int) (some ⟨q,0,none⟩) (N) (N))∧Own (aa .i32) wx (fun _=>False) w4.heap.size 21 (.slice (some ⟨q,0,none⟩) (N) (N)) (N) (List.replicate (N) 0)∧q ≠ g∧w4.heap.size≤g∧Below w4 w4 wx)
 case first =>
  refine wp_region_held_drew (S:=fun w'=>Blk w' (w2.heap.size) 24 (sN (Ho:Int) (Wo:Int) (C:Int))∧Below w4 w4 w') kM ?_ (fun hS=>?_)
  ·exact ⟨BD.o.drew,(qB _ _).drew⟩
  refine tkH 0 rfl (yP (sN (Ho:Int) (Wo:Int) (C:Int)) (fun w hs=>hs.1)) hS ?_
  try simp only [pX]
  refine tkH 1 rfl (yP (sN (Ho:Int) (Wo:Int) (C:Int)) (fun w hs=>hs.1)) hS ?_
  try simp only [pX]
  refine wpAnyH_ready (rs:=[2,5]) kM sM ?_
  refine AllReadyH.cons rfl (fun K hK=>?_) (AllReadyH.cons rfl (fun K hK=>?_) AllReadyH.nil)
  ·go_simp
   refine qM (EL.o _) fun wa hb=>?_
   refine xK hK (zR hb hS) fun hS=>?_
   clear hK K
   refine wpAnyH_ready (rs:=[3,5]) kM sM ?_
   refine AllReadyH.cons rfl (fun K hK=>?_) (AllReadyH.cons rfl (fun K hK=>?_) AllReadyH.nil)
   ·rw [if_pos (by rfl)]
    have zq:w4.heap.size≤wa.heap.size:=hS.2.size
    refine cE (k:=.i32) (base:=w4.heap.size) (n:=N) (.tmp 27) (.tmp 27) rfl dK .i64 .i64 rfl rfl oM (by unfold maxLen;omega) zq dM ?_
    intro wm own gm
    have OW:=zH (show Own (aa .i32) wm (fun _=>False) w4.heap.size 21 (.slice (some ⟨wa.heap.size,0,none⟩) (N) (N)) (N) (List.replicate (N) 0) by first|exact own|simpa [World.size_alloc] using own)
    refine hK.out _ _ ⟨Blk.grown0 hS.1 gm,hS.2.grown gm zq sM⟩ (fun hS=>?_)
    clear hK K own gm
    try simp only [pX]
    refine kH' 4 hS ?_
    refine rH 5 rfl (fun K hK=>?_)
    go_simp
    have zg:w4.heap.size≤wm.heap.size:=hS.2.size
    obtain ⟨hb,BZ⟩:=zB wm (tN 0 0 0 none 0 0) 80
    have ltq:wa.heap.size < wm.heap.size:=(OW.o.lt _ rfl).2
    replace OW:=zH (OW.o.below hb (lR _) (fun _ h=>h.elim))
    refine xK hK (zR hb hS) fun hS=>?_
    clear hK K
    refine rH 6 rfl (fun K hK=>?_)
    rw [if_pos (by rfl)]
    refine oG (tN (Ho:Int) (Wo:Int) (C:Int) (some ⟨wa.heap.size,0,none⟩) (N) (N)) BZ.o ?_
    intro wc BX gc
    have hne:wa.heap.size ≠ wm.heap.size:=by have:=ltq;omega
    replace OW:=zH (OW.o.flat gc (.inr (by first|(simp [Value.ownBlock];done)|(simp [Value.ownBlock];exact hne))) (fun _ h=>h))
    refine hK.out _ _ ⟨hS.1.away gc (by have:=(show w2.heap.size < w4.heap.size by omega);have:=zg;simp only [World.size_drew] at *;omega),hS.2.grown gc hS.2.size (fun k h=>by have:=sI h;have:=zg;simp only [World.size_drew] at *;omega)⟩ (fun hS=>?_)
    clear hK K
    try simp only [pX]
    refine wpAnyH_done kM ?_ _
    have FZ:=hS.2
    go_wp2_with fail
    go_meet
    case rel=>exact ⟨_,_,rfl,BX,OW.o,hne,zg,FZ⟩
   ·go_simp
    have zg:w4.heap.size≤wa.heap.size:=hS.2.size
    obtain ⟨hb,BZ⟩:=zB wa (tN 0 0 0 none 0 0) 80
    refine xK hK (zR hb hS) fun hS=>?_
    clear hK K
    refine rH 3 rfl (fun K hK=>?_)
    rw [if_pos (by rfl)]
    have zq:w4.heap.size≤(wa.alloc (.cells (tN 0 0 0 none 0 0) 80)).heap.size:=hS.2.size
    refine cE (k:=.i32) (base:=w4.heap.size) (n:=N) (.tmp 27) (.tmp 27) rfl dK .i64 .i64 rfl rfl oM (by unfold maxLen;omega) zq dM ?_
    intro wm own gm
    have OW:=zH (show Own (aa .i32) wm (fun _=>False) w4.heap.size 21 (.slice (some ⟨(wa.heap.size+1),0,none⟩) (N) (N)) (N) (List.replicate (N) 0) by first|exact own|simpa [World.size_alloc] using own)
    replace BZ:=zH (BZ.o.grown0 gm)
    refine hK.out _ _ ⟨Blk.grown0 hS.1 gm,hS.2.grown gm zq sM⟩ (fun hS=>?_)
    clear hK K own gm
    try simp only [pX]
    refine kH' 4 hS ?_
    refine rH 6 rfl (fun K hK=>?_)
    rw [if_pos (by rfl)]
    refine oG #[.int .i64 (Ho:Int),.int .i64 (Wo:Int),.int .i64 (C:Int),.slice (some ⟨(wa.heap.size+1),0,none⟩) (N) (N)] BZ.o ?_
    intro wc BX gc
    have hne:(wa.heap.size+1) ≠ wa.heap.size:=oM
    replace OW:=zH (OW.o.flat gc (.inr (by first|(simp [Value.ownBlock];done)|(simp [Value.ownBlock];exact hne))) (fun _ h=>h))
    refine hK.out _ _ ⟨hS.1.away gc (by have:=(show w2.heap.size < w4.heap.size by omega);have:=zg;simp only [World.size_drew] at *;omega),hS.2.grown gc hS.2.size (fun k h=>by have:=sI h;have:=zg;simp only [World.size_drew] at *;omega)⟩ (fun hS=>?_)
    clear hK K
    try simp only [pX]
    refine wpAnyH_done kM ?_ _
    have FZ:=hS.2
    go_wp2_with fail
    go_meet
    case rel=>exact ⟨_,_,rfl,BX,OW.o,hne,zg,FZ⟩
  ·go_simp
   have zg:w4.heap.size≤w4.heap.size:=hS.2.size
   have hb:Below w4.drew.heap.size w4.drew (w4.drew.alloc (.cells (tN 0 0 0 none 0 0) 80)):=(qB _ _).alloc (lR _) _
   have BZ:=zH (Blk.now w4.drew w4.heap.size 80 (tN 0 0 0 none 0 0) rfl)
   refine xK hK (zR hb hS) fun hS=>?_
   clear hK K
   refine rH 2 rfl (fun K hK=>?_)
   go_simp
   refine qM (EL.o _) fun wa hb=>?_
   replace BZ:=zH (BZ.o.later hb)
   have zwa:=BZ.o.lt
   refine xK hK (zR hb hS) fun hS=>?_
   clear hK K
   refine rH 3 rfl (fun K hK=>?_)
   rw [if_pos (by rfl)]
   have zq:w4.heap.size≤wa.heap.size:=hS.2.size
   refine cE (k:=.i32) (base:=w4.heap.size) (n:=N) (.tmp 27) (.tmp 27) rfl dK .i64 .i64 rfl rfl oM (by unfold maxLen;omega) zq dM ?_
   intro wm own gm
   have OW:=zH (show Own (aa .i32) wm (fun _=>False) w4.heap.size 21 (.slice (some ⟨wa.heap.size,0,none⟩) (N) (N)) (N) (List.replicate (N) 0) by first|exact own|simpa [World.size_alloc] using own)
   replace BZ:=zH (BZ.o.grown0 gm)
   refine hK.out _ _ ⟨Blk.grown0 hS.1 gm,hS.2.grown gm zq sM⟩ (fun hS=>?_)
   clear hK K own gm
   try simp only [pX]
   refine kH' 4 hS ?_
   refine rH 6 rfl (fun K hK=>?_)
   rw [if_pos (by rfl)]
   refine oG (tN (Ho:Int) (Wo:Int) (C:Int) (some ⟨wa.heap.size,0,none⟩) (N) (N)) BZ.o ?_
   intro wc BX gc
   have hne:wa.heap.size ≠ w4.heap.size:=by have:=zwa;omega
   replace OW:=zH (OW.o.flat gc (.inr (by first|(simp [Value.ownBlock];done)|(simp [Value.ownBlock];exact hne))) (fun _ h=>h))
   refine hK.out _ _ ⟨hS.1.away gc (by have:=(show w2.heap.size < w4.heap.size by omega);have:=zg;simp only [World.size_drew] at *;omega),hS.2.grown gc hS.2.size (fun k h=>by have:=sI h;have:=zg;simp only [World.size_drew] at *;omega)⟩ (fun hS=>?_)
   clear hK K
   try simp only [pX]
   refine wpAnyH_done kM ?_ _
   have FZ:=hS.2
   go_wp2_with fail
   go_meet
   case rel=>exact ⟨_,_,rfl,BX,OW.o,hne,zg,FZ⟩
 case rest =>
  obtain ⟨g,q,rfl,bg,own,hqg,zg,b4⟩:=hcut
  obtain ⟨w5,rfl⟩:∃ x,x=wc:=⟨_,rfl⟩
  have BG:=zH bg
  have l45:=b4.size
  have lq:w4.heap.size≤q∧q < w5.heap.size:=own.lt _ rfl
  have lg5:=bg.lt
  obtain ⟨FR,BA,BB,BC,BD⟩:=uz5 b4 FR BA BB BC BD
  clear b4
  rw [← cM 0 (db t d Wo C) N] at own
  have ON:=zH own
  have NQ:=zH (show q ≠ g∧w4.heap.size≤q∧q < w5.heap.size∧w4.heap.size≤g∧g < w5.heap.size∧w2.heap.size < w4.heap.size∧w.heap.size+1+1 < w2.heap.size by refine ⟨hqg,?_,?_,?_,?_,?_,?_⟩ <;> omega)
  have bg3:=BG.o.cell 3
  clear bg own hqg zg l45 lq lg5
  go_wp2_with fail
  clear bg3
  go_loopw [33] (fun ii wr=>∃ k:Nat,k≤N∧ii=.int .i64 k∧Far w wr∧Blk wr w.heap.size 27 (tN t.h t.v t.c A n cap)∧Blk wr (w.heap.size+1) 42 (nD d W nw cw B nb cb)∧Blk wr (w.heap.size+1+1) 80 (tN 0 0 0 none 0 0)∧Blk wr w2.heap.size 24 (sN (Ho:Int) (Wo:Int) (C:Int))∧Blk wr g 80 (tN (Ho:Int) (Wo:Int) (C:Int) (some ⟨q,0,none⟩) N N)∧Own (aa .i32) wr (fun _=>False) w4.heap.size 21 (.slice (some ⟨q,0,none⟩) N N) N (cg 0 (db t d Wo C) N (k))) (fun ii _=>N - (intOf ii).toNat)
  case atStart=>exact ⟨0,zl _,rfl,FR.o,BA.o,BB.o,BC.o,BD.o,BG.o,ON.o⟩
  case round =>
   obtain ⟨k,hk,rfl,f0,f1,f2,f3,f4,f5,f6⟩:=hrel
   clear FR BA BB BC BD BG ON
   have FR:=zH f0
   have BA:=zH f1
   have BB:=zH f2
   have BC:=zH f3
   have BD:=zH f4
   have BG:=zH f5
   have ON:=zH f6
   clear f0 f1 f2 f3 f4 f5 f6
   by_cases hlt:k < N
   ·have p1:(k:Int) < (N:Int):=oM
    go_wp2_with fail
    obtain ⟨v1,v2,v3⟩:=pf (i:=k) (Ho:=Ho) (Wo:=Wo) (Co:=C) (by rw [NE.o];exact hlt)
    have FK:=zH (FV.o k)
    obtain ⟨kc,hkc⟩:∃ m,k % C=m:=⟨_,rfl⟩
    obtain ⟨kq,hkq⟩:∃ m,k / C=m:=⟨_,rfl⟩
    rw [hkc,hkq] at FK
    rw [hkq] at v2 v3
    rw [hkc] at v1
    obtain ⟨ky,hky⟩:∃ m,kq / Wo=m:=⟨_,rfl⟩
    obtain ⟨kx,hkx⟩:∃ m,kq % Wo=m:=⟨_,rfl⟩
    rw [hky,hkx] at FK
    rw [hky] at v2
    rw [hkx] at v3
    have d1:(k:Int).tdiv (C:Int)=(kq:Int):=by rw [← hkq,Int.tdiv_eq_ediv_of_nonneg oM];simp
    have d2:(k:Int).tmod (C:Int)=(kc:Int):=by rw [← hkc,Int.tmod_eq_emod_of_nonneg oM];simp
    have d3:(kq:Int).tdiv (Wo:Int)=(ky:Int):=by rw [← hky,Int.tdiv_eq_ediv_of_nonneg oM];simp
    have d4:(kq:Int).tmod (Wo:Int)=(kx:Int):=by rw [← hkx,Int.tmod_eq_emod_of_nonneg oM];simp
    have kqb:kq≤1024:=by rw [← hkq];exact lT (Nat.div_le_self _ _) oM
    have g1:IntKind.i64.wrap (kq:Int)=(kq:Int):=wJ
    have g2:IntKind.i64.wrap (kc:Int)=(kc:Int):=wJ
    have g3:IntKind.i64.wrap (ky:Int)=(ky:Int):=wJ
    have g4:IntKind.i64.wrap (kx:Int)=(kx:Int):=wJ
    obtain ⟨res,hres⟩:∃ m,wrap32 (d.bias.getD kc 0+eG H V C t.data d.za d.w K S P kc ky kx)=m:=⟨_,rfl⟩
    rw [hres] at FK
    have CALL:=zH (fun wq (hb:Below w w wq)=>DS.o ky kx kc oM oM v1 wq ((Old.now HA.o).fut hb).all ((Old.now HW.o).fut hb).all ((Old.now HB.o).fut hb).all)
    rw [hres] at CALL
    have RE:=zH (show InK .i32 res by rw [bE,← hres];exact cV _)
    have KB:=zH (show k < N from hlt)
    have fd:Below w w wr.drew:=FR.u.drew
    clear hkc hkq hky hkx hres v1 v2 v3 kqb
    refine aJ (fun w'=>w'.cell? ⟨w2.heap.size,1,none⟩=some (.int .i64 (Wo:Int))∧w'.cell? ⟨w2.heap.size,2,none⟩=some (.int .i64 (C:Int))∧w'.cell? ⟨g,3,none⟩=some (.slice (some ⟨q,0,none⟩) N N)∧Blk w' w.heap.size 27 (tN t.h t.v t.c A n cap)∧Blk w' (w.heap.size+1) 42 (nD d W nw cw B nb cb)∧Below wr.drew.heap.size wr.drew w') 24 kM ?_ (fun hS=>?_)
    ·exact ⟨BD.o.drew.cell 1,BD.o.drew.cell 2,BG.o.drew.cell 3,BA.o.drew,BB.o.drew,qB _ _⟩
    refine kT' 0 hS ?_
    refine kT' 1 hS ?_
    refine kT' 2 hS ?_
    refine tkT 3 rfl (yP (tN t.h t.v t.c A n cap) (fun w hs=>hs.2.2.2.1)) hS ?_
    try simp only [pX]
    refine tkT 4 rfl (yP (nD d W nw cw B nb cb) (fun w hs=>hs.2.2.2.2.1)) hS ?_
    try simp only [pX]
    refine kT' 5 hS ?_
    refine kT' 6 hS ?_
    refine kT' 7 hS ?_
    refine kT' 8 hS ?_
    refine kT' 9 hS ?_
    refine kT' 10 hS ?_
    refine kT' 11 hS ?_
    refine kT' 12 hS ?_
    refine kT' 13 hS ?_
    refine kT' 14 hS ?_
    refine kT' 15 hS ?_
    refine kT' 16 hS ?_
    refine kT' 17 hS ?_
    refine kT' 18 hS ?_
    refine kT' 19 hS ?_
    refine kT' 20 hS ?_
    refine kT' 21 hS ?_
    refine kT' 22 hS ?_
    refine rT 23 (fun K hK=>?_)
    go_simp
    (refine qM (CALL.o _ fd) fun wm hb=>?_)
    refine xK hK (zR hb hS) fun hS=>?_
    clear hK K
    refine wpAnyT_tail _ _ rfl rfl kM ?_
    have kd:=(show Below wr wr wr.drew from (qB _ _).drew).trans hb
    replace ON:=zH (ON.o.below kd (lR _) (fun _ h=>h.elim))
    obtain ⟨FR,BA,BB,BC,BD,BG⟩:=uz6 kd FR BA BB BC BD BG
    clear hS hb kd fd
    obtain ⟨x1,u1,-,-,c5,c6,c7,-⟩:=ON.o.cell rfl k hlt
    go_wp2_with fail
    obtain ⟨o3,g3⟩:=ON.o.set1 rfl k (.int .i32 res) res ⟨rfl,RE.o⟩ (fun _ h=>h.elim)
    have FS:=dD 0 (db t d Wo C) N k KB.o
    rw [FK.o] at FS
    rw [FS] at o3
    obtain ⟨nq1,nq2,nq3,nq4,nq5,nq6,nq7⟩:=NQ.o
    exact ⟨⟨k+1,by omega,by go_num,FR.o.away g3 oM,BA.o.away g3 (.inl oM),BB.o.away g3 (.inl oM),BC.o.away g3 (.inl oM),BD.o.away g3 (.inl oM),BG.o.away g3 oM,o3⟩,by simp [intOf];omega⟩
   ·obtain rfl:k=N:=oM
    go_wp2_with (first|(refine lB 80 (.tmp 8) g BG.o underlying80 ?_)|(refine sB 80 (.tmp 4) (.tmp 62) (w.heap.size+1+1) (tN (Ho:Int) (Wo:Int) (C:Int) (some ⟨q,0,none⟩) k k) BC.o ?_;intro w9 B9 g9))
    have e1:=ON.o
    rw [dZ] at e1
    have e2:=e1.flat g9 (.inr (by have:=NQ.o;simp [Value.ownBlock];omega)) (fun _ h=>h)
    refine rG B9 ?_
    have FE:=FR.o.away g9 oM
    obtain ⟨A2,c2,hv,s⟩:=e2.sl (S':=bin w.heap.size _) dM (fun b h1 h2=>⟨by omega,h2⟩) (fun b h=>h.elim)
    injection hv with hv1 hv2 hv3
    subst hv1 hv3
    exact ⟨_,_,_,rfl,s,FE.out⟩
end Go.Proofs.YtmihnoagagbgaaaGreat
namespace Go.Proofs.YtmihnoagagbgaaaGreat
open Go.RowKit Go.ChangeShapes Go.WideShapes Fx Tryz
set_option maxRecDepth 100000
set_option maxHeartbeats 16000000
abbrev I8:={ x:Int // InK .i8 x }
def e8 (x:I8):Array Value:=#[Value.int .i8 x.1]
def iA (H V C:Nat) (l:List Int) (hl:∀ i,InK .i8 (l.getD i 0)) (K S P:Nat) (c y x:Nat):Nat → List I8
 | 0=>[]
 | q+1=>if aK H V ((y*S+q / K:Nat) - (P:Int)) ((x*S+q % K:Nat) - (P:Int)) then iA H V C l hl K S P c y x q ++ [⟨l.getD (cH V C ((y*S+q / K:Nat) - (P:Int)) ((x*S+q % K:Nat) - (P:Int)) c) 0,hl _⟩] else iA H V C l hl K S P c y x q
theorem jf (H V C:Nat) (l:List Int) (hl:∀ i,InK .i8 (l.getD i 0)) (K S P:Nat) (c y x:Nat):∀ q,(iA H V C l hl K S P c y x q).map (fun v=>v.1)=dc H V C l K S P c y x q
 | 0=>rfl
 | q+1=>by
  have ih:=jf H V C l hl K S P c y x q
  unfold iA dc
  split
  ·rw [List.map_append,ih];rfl
  ·exact ih
theorem sY (H V C:Nat) (l:List Int) (hl:∀ i,InK .i8 (l.getD i 0)) (K S P:Nat) (c y x q:Nat):(iA H V C l hl K S P c y x q).length≤q:=by
 rw [← List.length_map (f:=fun v:I8=>v.1),jf]
 exact fW H V C l K S P c y x q
theorem jj {w w':World} (hb:Below w w w'):w.grownBy w' none:=⟨hb.os,hb.tape,hb.output,hb.size,fun k hk _=>hb.block k hk⟩
theorem Blk.under {w w':World} {n₀ g:Nat} {e:TypeId} {cs:Array Value} (h:Blk w g e cs) (hb:Below n₀ w w') (hg:g < n₀):Blk w' g e cs:=⟨(hb.block g hg).trans h.heap⟩
theorem ql (H V C:Nat) (A:QA) (n cap:Nat) (l:List Int) (d:af) (W:QA) (nw cw:Nat) (B:QA) (nb cb:Nat) (K S P y x c:Nat) (bN bT bH bW bC n₀ m:Nat) (w:World)
  (hl:Sl (aa .i8) w (blo n₀) A n cap l) (hn:n=H*V*C) (hn2:n≤1024) (h1:1≤H∧H≤16) (v1:1≤V∧V≤16) (c1:1≤C∧C≤1024) (he:decide (0 < ab H V C)=true)
  (hk:d.k=K) (hs:d.s=S) (hp:d.p=P) (k1:1≤K∧K≤5) (s1:1≤S∧S≤4) (p1:P≤4) (hy:y≤1000) (hx:x≤1000) (hc:c < C)
  (BN:Blk w bN 42 (nN d.kind d.a d.b d.k d.s d.p d.out d.za d.zb W nw cw B nb cb d.qm d.qs d.qz d.rm d.rs d.rz d.lo d.hi)) (BT:Blk w bT 27 (tN H V C A n cap))
  (BH:Blk w bH 3 #[.int .i64 y]) (BW:Blk w bW 3 #[.int .i64 x]) (BC:Blk w bC 3 #[.int .i64 c]) (hb:bN < n₀∧bT < n₀∧bH < n₀∧bW < n₀∧bC < n₀) (hn₀:n₀≤w.heap.size) (hm:1≤m) :
  SeqStopsK Fence.wide m prog 148 #[.pointer (some ⟨bN,0,none⟩),.pointer (some ⟨bT,0,none⟩),.pointer (some ⟨bH,0,none⟩),.pointer (some ⟨bW,0,none⟩),.pointer (some ⟨bC,0,none⟩)] e8 (Below n₀) (fun ys=>ys=iA H V C l hl.allK K S P c y x (K*K)) (fun _=>True) (K*K) w:=by
 intro lo J Jx W0 hW hJ hJx hY h0
 have h8:∀ i,InK .i8 (l.getD i 0):=hl.allK
 obtain ⟨XS,hXS⟩:∃ f,iA H V C l hl.allK K S P c y x=f:=⟨_,rfl⟩
 have XL:∀ q,(XS q).length≤q:=fun q=>by rw [← hXS];exact sY _ _ _ _ _ _ _ _ _ _ _ _
 have XZ:XS 0=[]:=by rw [← hXS];rfl
 have XS1:∀ q,XS (q+1)=if aK H V ((y*S+q / K:Nat) - (P:Int)) ((x*S+q % K:Nat) - (P:Int)) then XS q ++ [⟨l.getD (cH V C ((y*S+q / K:Nat) - (P:Int)) ((x*S+q % K:Nat) - (P:Int)) c) 0,h8 _⟩] else XS q:=fun q=>by rw [← hXS];rfl
 rw [hXS]
 have hWb:Below n₀ w W0:=hW.mono hn₀
 have HL:=zH (hl.below hWb (fun b h=>h))
 have GB:=zH hb
 have GB2:=zH (show n₀≤W0.heap.size from lT hn₀ hW.size)
 have BN:=zH (BN.under hWb hb.1)
 have BT:=zH (BT.under hWb hb.2.1)
 have BH:=zH (BH.under hWb hb.2.2.1)
 have BW:=zH (BW.under hWb hb.2.2.2.1)
 have BC:=zH (BC.under hWb hb.2.2.2.2)
 have IX:=zH (fun (yy xx:Int) (w:World)=>dt H V C yy xx c w h1 v1 c1 he hc)
 have HN:=zH hn
 have HK:=zH hk
 have HS:=zH hs
 have HP:=zH hp
 have XS1:=zH XS1
 have XL:=zH XL
 have HJ:=zH (And.intro hJ hJx)
 have HY:=zH hY
 have n3:=BN.o.cell 3
 simp only [gX] at n3
 rw [hk] at n3
 obtain ⟨KK,hKK⟩:∃ m,K*K=m:=⟨_,rfl⟩
 have hKi:(K:Int)*(K:Int)=(KK:Int):=by rw [← hKK];simp
 have KK1:KK≤25:=by rw [← hKK];exact Nat.mul_le_mul k1.2 k1.2
 rw [hKK] at HY ⊢
 have gKK:IntKind.i64.wrap ((K:Int)*(K:Int))=(KK:Int):=by rw [hKi];exact wJ
 obtain ⟨k1a,k1b⟩:=k1
 clear hl hn hk hs hp he hKK hXS hW hWb hJ hJx hY hb hn₀ hKi
 rw [callsIn_wide]
 simp only [List.append_toArray,List.cons_append,List.nil_append]
 go_in
 go_wp2
 go_loopw [15] (fun ii wr=>∃ q:Nat,q≤KK∧ii=.int .i64 q∧J (XS q) wr∧Below n₀ W0 wr∧W0.heap.size≤wr.heap.size) (fun ii _=>KK - (intOf ii).toNat)
 case atStart=>exact ⟨0,zl _,rfl,by rw [XZ];exact h0,qB _ _,lR _⟩
 case round =>
  obtain ⟨q,hq,rfl,hj,hbw,hsz⟩:=hrel
  have BT:=zH (BT.o.under hbw GB.o.2.1)
  have BN:=zH (BN.o.under hbw GB.o.1)
  have BH:=zH (BH.o.under hbw GB.o.2.2.1)
  have BW:=zH (BW.o.under hbw GB.o.2.2.2.1)
  have BC:=zH (BC.o.under hbw GB.o.2.2.2.2)
  have HL:=zH (HL.o.below hbw (fun b h=>h))
  have HJS:=zH hj
  have HB:=zH (And.intro hbw hsz)
  clear hj hbw hsz
  by_cases hlt:q < KK
  ·have p1':(q:Int) < (KK:Int):=oM
   go_wp2_with fail
   obtain ⟨ki,hki⟩:∃ m,q / K=m:=⟨_,rfl⟩
   obtain ⟨kj,hkj⟩:∃ m,q % K=m:=⟨_,rfl⟩
   have bki:ki≤25:=by rw [← hki];exact lT (Nat.div_le_self _ _) oM
   have bkj:kj≤5:=by rw [← hkj];exact lT (Nat.le_of_lt (Nat.mod_lt _ oM)) k1b
   have hK0:(K:Int) ≠ 0:=oM
   have d1:(q:Int).tdiv (K:Int)=(ki:Int):=by rw [← hki,Int.tdiv_eq_ediv_of_nonneg oM];simp
   have d2:(q:Int).tmod (K:Int)=(kj:Int):=by rw [← hkj,Int.tmod_eq_emod_of_nonneg oM];simp
   obtain ⟨ys,hys⟩:∃ m,y*S=m:=⟨_,rfl⟩
   have ysi:(y:Int)*(S:Int)=(ys:Int):=by rw [← hys];simp
   have ysb:ys≤4000:=by rw [← hys];exact Nat.mul_le_mul hy s1.2
   obtain ⟨xs,hxs⟩:∃ m,x*S=m:=⟨_,rfl⟩
   have xsi:(x:Int)*(S:Int)=(xs:Int):=by rw [← hxs];simp
   have xsb:xs≤4000:=by rw [← hxs];exact Nat.mul_le_mul hx s1.2
   obtain ⟨yy,hyy⟩:∃ m:Int,((y*S+q / K:Nat):Int) - P=m:=⟨_,rfl⟩
   obtain ⟨xx,hxx⟩:∃ m:Int,((x*S+q % K:Nat):Int) - P=m:=⟨_,rfl⟩
   have hyy2:(ys:Int)+(ki:Int) - (P:Int)=yy:=by rw [← hyy,hys,hki];simp
   have hxx2:(xs:Int)+(kj:Int) - (P:Int)=xx:=by rw [← hxx,hxs,hkj];simp
   have g1:IntKind.i64.wrap ((y:Int)*(S:Int))=(ys:Int):=by rw [ysi];exact wJ
   have g2:IntKind.i64.wrap ((x:Int)*(S:Int))=(xs:Int):=by rw [xsi];exact wJ
   have g3:IntKind.i64.wrap ((ys:Int)+(ki:Int))=(ys:Int)+(ki:Int):=wJ
   have g4:IntKind.i64.wrap ((xs:Int)+(kj:Int))=(xs:Int)+(kj:Int):=wJ
   have g5:IntKind.i64.wrap ((ys:Int)+(ki:Int) - (P:Int))=yy:=by rw [hyy2];exact wJ
   have g6:IntKind.i64.wrap ((xs:Int)+(kj:Int) - (P:Int))=xx:=by rw [hxx2];exact wJ
   have g7:IntKind.i64.wrap (ki:Int)=(ki:Int):=wJ
   have g8:IntKind.i64.wrap (kj:Int)=(kj:Int):=wJ
   have t0:∀ q:Ext wr,q.1.cell? ⟨bT,0,none⟩=some (.int .i64 H):=fun q=>(BT.o.ext q).cell 0
   have t1:∀ q:Ext wr,q.1.cell? ⟨bT,1,none⟩=some (.int .i64 V):=fun q=>(BT.o.ext q).cell 1
   have t2:∀ q:Ext wr,q.1.cell? ⟨bT,2,none⟩=some (.int .i64 C):=fun q=>(BT.o.ext q).cell 2
   have n3:∀ q:Ext wr,q.1.cell? ⟨bN,3,none⟩=some (.int .i64 K):=fun q=>by rw [← HK.o];exact (BN.o.ext q).cell 3
   have n4:∀ q:Ext wr,q.1.cell? ⟨bN,4,none⟩=some (.int .i64 S):=fun q=>by rw [← HS.o];exact (BN.o.ext q).cell 4
   have n5:∀ q:Ext wr,q.1.cell? ⟨bN,5,none⟩=some (.int .i64 P):=fun q=>by rw [← HP.o];exact (BN.o.ext q).cell 5
   have u0:∀ q:Ext wr,q.1.cell? ⟨bH,0,none⟩=some (.int .i64 y):=fun q=>(BH.o.ext q).cell 0
   have u1:∀ q:Ext wr,q.1.cell? ⟨bW,0,none⟩=some (.int .i64 x):=fun q=>(BW.o.ext q).cell 0
   have u2:∀ q:Ext wr,q.1.cell? ⟨bC,0,none⟩=some (.int .i64 c):=fun q=>(BC.o.ext q).cell 0
   have RG:=zH (fun q:Ext wr=>aR q (IX.o yy xx q.1))
   have XQ:=XS1.o q
   rw [hyy,hxx] at XQ
   have XLq:=XL.o q
   by_cases hin:aK H V yy xx
   ·have hin2:=hin
    unfold aK at hin2
    have E1:=RG.o
    simp only [if_pos hin,qT hin] at E1
    rw [if_pos hin] at XQ
    obtain ⟨ix,hix⟩:∃ m,cH V C yy xx c=m:=⟨_,rfl⟩
    rw [hix] at E1
    simp only [hix] at XQ
    have hixn:ix < n:=by
     rw [← hix,HN.o]
     exact dO yy.toNat xx.toNat c H V C oM oM hc
    replace E1:=zH E1
    obtain ⟨v8,hv8⟩:∃ v:I8,(⟨l.getD ix 0,h8 ix⟩:I8)=v:=⟨_,rfl⟩
    rw [hv8] at XQ
    have hv9:l.getD ix 0=v8.1:=by rw [← hv8]
    have HV:=zH hv9
    have XQ:=zH XQ
    clear hv8 hv9
    refine aB wr kM kM (qB _ _) ?_
    repeat (go_big_quiet_step ((exact E1.o _)))
    refine wpQuiet_nil ?_
    rintro wz ⟨⟨w3,hB⟩,ewz⟩
    obtain rfl:wz=w3:=by first|exact ewz|exact ewz.symm
    have j3:J (XS q) wz:=HJ.o.1 _ _ _ none HJS.o (jj hB) (fun r e=>by cases e)
    have b3:Below n₀ W0 wz:=HB.o.1.trans (hB.mono (lT GB2.o HB.o.2))
    have s3:=hB.size
    obtain ⟨b,o,rfl,hbb,-,cx,-⟩:=(HL.o.below (hB.mono (lT GB2.o HB.o.2)) (fun b h=>h)).int_at ix hixn
    have tt:=(BT.o.fut hB).cell 3
    simp only [gX] at tt
    clear t0 t1 t2 n3 n4 n5 u0 u1 u2 g1 g2 g3 g4 g5 g6 g7 g8 d1 d2
    have XQ2:=XQ.o
    obtain ⟨fn,tmps,assign,body,hy,hR⟩:=HY.o (XS q) v8 wz j3 oM
    rw [HV.o] at cx
    simp only [e8] at hy
    go_step
    go_step
    rw [← wpIn_wide (n:=m)]
    gi_wp2
    refine hR.mono ?_
    rintro e w4 (⟨rfl,hJ4,hk4⟩|⟨rfl,hJx4⟩)
    ·gi_wp2
     go_wp2_with fail
     have b4:=b3.trans hk4
     have s4:=hk4.size
     rw [← XQ2] at hJ4
     exact ⟨⟨q+1,by omega,by go_num,hJ4,b4,by have:=HB.o.2;omega⟩,by simp [intOf];omega⟩
    ·gi_wp2
     refine bodyPost_ret (results_none rfl _ _ _) rfl ?_
     exact ⟨⟨_,rfl⟩,.inr ⟨_,trivial,hJx4⟩⟩
   ·have E1:=RG.o
    simp only [if_neg hin,dF hin] at E1
    rw [if_neg hin] at XQ
    replace E1:=zH E1
    have XQ:=zH XQ
    refine aB wr kM kM (qB _ _) ?_
    repeat (go_big_quiet_step ((exact E1.o _)))
    refine wpQuiet_nil ?_
    rintro wz ⟨⟨w3,hB⟩,ewz⟩
    obtain rfl:wz=w3:=by first|exact ewz|exact ewz.symm
    have j3:J (XS q) wz:=HJ.o.1 _ _ _ none HJS.o (jj hB) (fun r e=>by cases e)
    have b3:Below n₀ W0 wz:=HB.o.1.trans (hB.mono (lT GB2.o HB.o.2))
    have s3:=hB.size
    clear t0 t1 t2 n3 n4 n5 u0 u1 u2 g1 g2 g3 g4 g5 g6 g7 g8 d1 d2
    have XQ2:=XQ.o
    go_wp2_with fail
    rw [← XQ2] at j3
    exact ⟨⟨q+1,by omega,by go_num,j3,b3,by have:=HB.o.2;omega⟩,by simp [intOf];omega⟩
  ·obtain rfl:q=KK:=oM
   go_wp2_with fail
   refine bodyPost_end (results_none rfl _ _ _) rfl ?_
   exact ⟨⟨_,rfl⟩,.inl ⟨_,rfl,HJS.o⟩⟩
end Go.Proofs.YtmihnoagagbgaaaGreat
