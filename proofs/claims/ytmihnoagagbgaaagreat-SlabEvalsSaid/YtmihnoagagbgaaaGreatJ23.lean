/-
  Sums by rows that are slid over (layer 16): the walk of lane.Of where all is right.
-/
import Derived.Test.YtmihnoagagbgaaaGreatJ21
import Derived.Test.YtmihnoagagbgaaaGreatJ22
set_option linter.unusedVariables false
set_option linter.unusedSimpArgs false
set_option maxRecDepth 100000
set_option maxHeartbeats 16000000
namespace Go.Proofs.YtmihnoagagbgaaaGreat
open Go.RowKit Go.ChangeShapes Go.WideShapes Tryz
set_option maxRecDepth 100000
set_option maxHeartbeats 16000000
theorem ut (t:ae) (A:QA) (n cap:Nat) (d:af) (W:QA) (nw cw:Nat) (B:QA) (nb cb:Nat) (w:World) (ht:ak t) (hd:aE d)
  (ha:xA w A n cap t.data) (hw:xA w W nw cw d.w) (hb:xB w B nb cb d.bias) (mw:nw≤2000∧nb≤200) (c1:t.ok=true) (c2:(aN t.h t.v t.c d).2=0) (hk3:d.k=3) (hs1:d.s=1) :
  Calls prog 129 #[.agg (tN t.h t.v t.c A n cap),.agg (nD d W nw cw B nb cb)] w (ar .i32 (aS t d).1 (aS t d).2 w):=by
 have HT:=zH ht
 have HD:=zH hd
 have HA:=zH ha
 have HW:=zH hw
 have HB:=zH hb
 have m1:n≤9223372036854775807:=lT ha.cap_le ha.max_le
 have m2:nw≤9223372036854775807:=lT hw.cap_le hw.max_le
 have m3:nb≤9223372036854775807:=lT hb.cap_le hb.max_le
 clear ht hd ha hw hb
 have SZ:=zH (show nw≤1048576∧nb≤1048576 by omega)
 obtain ⟨H,V,C,K,S,P,Ho,Wo,Co,TK,WK,hx,lw,lb,ho,el,ev⟩:=fO c1 c2
 rw [ev]
 have HX:=zH hx
 have TK:=zH TK
 have WK:=zH WK
 obtain rfl:K=3:=by have:=WK.o.k;omega
 obtain rfl:S=1:=by have:=WK.o.s;omega
 have HF:=zH (show decide (d.k=3∧d.s=1)=true by simp [hk3,hs1])
 have EN:=zH (show n=H*V*C by have:=TK.o.n_eq;rw [HA.o.n_eq] at this;exact this)
 have LW:=zH (show nw=Co*3*3*C by rw [← HW.o.n_eq];exact lw)
 have LB:=zH (show nb=Co by rw [← HB.o.n_eq];exact lb)
 have EL:=zH (fun w=>bQ (Ho:Int) (Co:Int) (Wo:Int) w (by have:=WK.o.ho1;rw [ah];omega) (by have:=WK.o.wo1;rw [ah];omega) (by have:=WK.o.co1;rw [ah];omega))
 rw [el] at EL
 have hN:=WK.o.no
 obtain ⟨N,hNe⟩:∃ N,Ho*Wo*Co=N:=⟨_,rfl⟩
 rw [hNe] at EL hN
 have NE:=zH hNe
 rw [hNe]
 have hC:C≤222∧1≤Co:=by
  have e:=LW.o
  have:=TK.o.c1
  have c:=WK.o.co1
  refine ⟨?_,c.1⟩
  have:1*3*3*C≤Co*3*3*C:=Nat.mul_le_mul_right C oM
  omega
 have hm2:V+2*P - 2=Wo:=by have:=WK.o.wo;have:=WK.o.vk;omega
 obtain ⟨LV,hLV⟩:∃ f:Nat → Nat → List Int,∀ h o,iG (ly H V C t.data d.za P h) (lA d.w C o) (V+2*P) (3*C)=f h o:=⟨fun h o=>_,fun h o=>rfl⟩
 have LN:=zH (fun (h o:Nat) (hh:h < Ho) (ho:o < Co) (wq:World) (ha:xA wq A n cap t.data) (hw:xA wq W nw cw d.w) =>
  ur H V C P A n cap t.data d W nw cw B nb cb h o wq ha hw EN.o (by have:=TK.o.n_le;have:=HA.o.n_eq;omega) (by have:=TK.o.v1;omega) (by have:=TK.o.c1;omega) oM WK.o.p (by have:=WK.o.p1;omega) HD.o.za (by have:=WK.o.ho1;omega) (by have:=TK.o.h1;omega) (by have:=WK.o.co1;omega)
   (by rw [LW.o,Nat.mul_assoc Co,Nat.mul_assoc Co];exact Nat.mul_le_mul_right _ ho) (by have:=TK.o.v1;have:=WK.o.p1;omega))
 rw [← TK.o.h,← TK.o.v,← TK.o.c] at LN
 simp only [hLV] at LN
 have LM:=zH (show ∀ h o,(LV h o).length=Wo from fun h o=>by rw [← hLV];simp [iG];exact hm2)
 have HLV:=zH (fun h o=>(hLV h o).symm)
 have HM2:=zH hm2
 have ub1:(Ho:Int)≤16:=by have:=WK.o.ho1;omega
 have ub2:(Wo:Int)≤16:=by have:=WK.o.wo1;omega
 have ub3:(Co:Int)≤1024:=by have:=WK.o.co1;omega
 clear c2 hx hk3 hs1 ho el ev lw lb hNe hC hm2 hLV
 have c1':decide (0 < ab t.h t.v t.c∧ab t.h t.v t.c=n)=true:=by rw [← HA.o.n_eq];simpa [ae.ok] using c1
 have C1:=zH c1'
 clear c1 c1'
 go_in
 go_wp2_with fail
 refine qM (av t.h t.v t.c A n cap _ HT.o.h HT.o.v HT.o.c (lT HA.o.cap_le HA.o.max_le)) fun w1 hb=>?_
 rw [C1.o]
 have g1:=ai (B:=w.heap.size) (a:=w) (by go_grown) hb (by simp;omega)
 have bA:=((Blk.now _ w.heap.size _ _ rfl).past _ |>.past _).later hb
 have bB:=((Blk.now _ (w.heap.size+1) _ _ sM).past _).later hb
 have bC:=(Blk.now _ (w.heap.size+1+1) _ _ sM).later hb
 have BA:=zH bA
 have BB:=zH bB
 have BC:=zH bC
 have cA:=fun i=>bA.cell i
 clear bA bB bC hb
 go_wp2_with (refine lGJ19 BB.o ?_)
 refine qM (dB t.h t.v t.c d W nw cw B nb cb _ HT.o.h HT.o.v HT.o.c HD.o.out HW.o.n_eq.symm HB.o.n_eq.symm SZ.o.1 SZ.o.2) fun w2 hb=>?_
 have g2:=ai g1 hb g1.size
 have lt1:=BC.o.lt
 have lt2:=hb.size
 have BA:=zH (BA.o.later hb)
 have BB:=zH (BB.o.later hb)
 have BC:=zH (BC.o.later hb)
 clear hb cA
 rw [HX.o]
 simp only [aL]
 have FR:=zH (show Far w w2 from ⟨g2⟩)
 have ltA:w.heap.size < w2.heap.size:=oM
 obtain ⟨w3,yw3,BD,yk3⟩:=nB w2 (sN (Ho:Int) (Wo:Int) (Co:Int)) 24
 obtain ⟨FR,BA,BB,BC⟩:=uz4 yk3 FR BA BB BC
 clear yk3
 have l23:=zL yw3
 go_wp2_with (refine lGJ19 BB.o ?_)
 refine qM (lW d W nw cw B nb cb w3) fun w4 hb=>?_
 rw [HF.o]
 have l34:=hb.size
 obtain ⟨FR,BA,BB,BC,BD⟩:=uz5 hb FR BA BB BC BD
 clear hb
 clear yw3
 go_wp2_with fail
 go_cut [8] (fun b wx=>∃ g q,b=.pointer (some ⟨g,0,none⟩)∧Blk wx g 80 (tN (Ho:Int) (Wo:Int) (Co:Int) (some ⟨q,0,none⟩) (N) (N))∧Own (aa .i32) wx (fun _=>False) w4.heap.size 21 (.slice (some ⟨q,0,none⟩) (N) (N)) (N) (List.replicate (N) 0)∧q ≠ g∧w4.heap.size≤g∧Below w4 w4 wx)
 case first =>
  refine wp_region_held_drew (S:=fun w'=>Blk w' (w2.heap.size) 24 (sN (Ho:Int) (Wo:Int) (Co:Int))∧Below w4 w4 w') kM ?_ (fun hS=>?_)
  ·exact ⟨BD.o.drew,(qB _ _).drew⟩
  refine tkH 0 rfl (yP (sN (Ho:Int) (Wo:Int) (Co:Int)) (fun w hs=>hs.1)) hS ?_
  try simp only [pX]
  refine tkH 1 rfl (yP (sN (Ho:Int) (Wo:Int) (Co:Int)) (fun w hs=>hs.1)) hS ?_
  try simp only [pX]
  refine wpAnyH_ready (rs:=[2,5]) kM sM ?_
  refine AllReadyH.cons rfl (fun K hK=>?_) (AllReadyH.cons rfl (fun K hK=>?_) AllReadyH.nil)
  ·go_simp
   refine qM (EL.o _) fun wa hb=>?_
   refine xK hK (zR hb hS) fun hS=>?_
   clear hK K
   refine wpAnyH_ready (rs:=[3,5]) kM sM ?_
   refine AllReadyH.cons rfl (fun K hK=>?_) (AllReadyH.cons rfl (fun K hK=>?_) AllReadyH.nil)
   ·rw [if_pos (by rfl)]
    have zq:w4.heap.size≤wa.heap.size:=hS.2.size
    refine cE (k:=.i32) (base:=w4.heap.size) (n:=N) (.tmp 35) (.tmp 35) rfl dK .i64 .i64 rfl rfl oM (by unfold maxLen;omega) zq dM ?_
    intro wm own gm
    have OW:=zH (show Own (aa .i32) wm (fun _=>False) w4.heap.size 21 (.slice (some ⟨wa.heap.size,0,none⟩) (N) (N)) (N) (List.replicate (N) 0) by first|exact own|simpa [World.size_alloc] using own)
    refine hK.out _ _ ⟨Blk.grown0 hS.1 gm,hS.2.grown gm zq sM⟩ (fun hS=>?_)
    clear hK K own gm
    try simp only [pX]
    refine kH' 4 hS ?_
    refine rH 5 rfl (fun K hK=>?_)
    go_simp
    have zg:w4.heap.size≤wm.heap.size:=hS.2.size
    obtain ⟨hb,BZ⟩:=zB wm (tN 0 0 0 none 0 0) 80
    have ltq:wa.heap.size < wm.heap.size:=(OW.o.lt _ rfl).2
    replace OW:=zH (OW.o.below hb (lR _) (fun _ h=>h.elim))
    refine xK hK (zR hb hS) fun hS=>?_
    clear hK K
    refine rH 6 rfl (fun K hK=>?_)
    rw [if_pos (by rfl)]
    refine oG (tN (Ho:Int) (Wo:Int) (Co:Int) (some ⟨wa.heap.size,0,none⟩) (N) (N)) BZ.o ?_
    intro wc BX gc
    have hne:wa.heap.size ≠ wm.heap.size:=by have:=ltq;omega
    replace OW:=zH (OW.o.flat gc (.inr (by first|(simp [Value.ownBlock];done)|(simp [Value.ownBlock];exact hne))) (fun _ h=>h))
    refine hK.out _ _ ⟨hS.1.away gc (by have:=(show w2.heap.size < w4.heap.size by omega);have:=zg;simp only [World.size_drew] at *;omega),hS.2.grown gc hS.2.size (fun k h=>by have:=sI h;have:=zg;simp only [World.size_drew] at *;omega)⟩ (fun hS=>?_)
    clear hK K
    try simp only [pX]
    refine wpAnyH_done kM ?_ _
    have FZ:=hS.2
    go_wp2_with fail
    go_meet
    case rel=>exact ⟨_,_,rfl,BX,OW.o,hne,zg,FZ⟩
   ·go_simp
    have zg:w4.heap.size≤wa.heap.size:=hS.2.size
    obtain ⟨hb,BZ⟩:=zB wa (tN 0 0 0 none 0 0) 80
    refine xK hK (zR hb hS) fun hS=>?_
    clear hK K
    refine rH 3 rfl (fun K hK=>?_)
    rw [if_pos (by rfl)]
    have zq:w4.heap.size≤(wa.alloc (.cells (tN 0 0 0 none 0 0) 80)).heap.size:=hS.2.size
    refine cE (k:=.i32) (base:=w4.heap.size) (n:=N) (.tmp 35) (.tmp 35) rfl dK .i64 .i64 rfl rfl oM (by unfold maxLen;omega) zq dM ?_
    intro wm own gm
    have OW:=zH (show Own (aa .i32) wm (fun _=>False) w4.heap.size 21 (.slice (some ⟨(wa.heap.size+1),0,none⟩) (N) (N)) (N) (List.replicate (N) 0) by first|exact own|simpa [World.size_alloc] using own)
    replace BZ:=zH (BZ.o.grown0 gm)
    refine hK.out _ _ ⟨Blk.grown0 hS.1 gm,hS.2.grown gm zq sM⟩ (fun hS=>?_)
    clear hK K own gm
    try simp only [pX]
    refine kH' 4 hS ?_
    refine rH 6 rfl (fun K hK=>?_)
    rw [if_pos (by rfl)]
    refine oG #[.int .i64 (Ho:Int),.int .i64 (Wo:Int),.int .i64 (Co:Int),.slice (some ⟨(wa.heap.size+1),0,none⟩) (N) (N)] BZ.o ?_
    intro wc BX gc
    have hne:(wa.heap.size+1) ≠ wa.heap.size:=oM
    replace OW:=zH (OW.o.flat gc (.inr (by first|(simp [Value.ownBlock];done)|(simp [Value.ownBlock];exact hne))) (fun _ h=>h))
    refine hK.out _ _ ⟨hS.1.away gc (by have:=(show w2.heap.size < w4.heap.size by omega);have:=zg;simp only [World.size_drew] at *;omega),hS.2.grown gc hS.2.size (fun k h=>by have:=sI h;have:=zg;simp only [World.size_drew] at *;omega)⟩ (fun hS=>?_)
    clear hK K
    try simp only [pX]
    refine wpAnyH_done kM ?_ _
    have FZ:=hS.2
    go_wp2_with fail
    go_meet
    case rel=>exact ⟨_,_,rfl,BX,OW.o,hne,zg,FZ⟩
  ·go_simp
   have zg:w4.heap.size≤w4.heap.size:=hS.2.size
   have hb:Below w4.drew.heap.size w4.drew (w4.drew.alloc (.cells (tN 0 0 0 none 0 0) 80)):=(qB _ _).alloc (lR _) _
   have BZ:=zH (Blk.now w4.drew w4.heap.size 80 (tN 0 0 0 none 0 0) rfl)
   refine xK hK (zR hb hS) fun hS=>?_
   clear hK K
   refine rH 2 rfl (fun K hK=>?_)
   go_simp
   refine qM (EL.o _) fun wa hb=>?_
   replace BZ:=zH (BZ.o.later hb)
   have zwa:=BZ.o.lt
   refine xK hK (zR hb hS) fun hS=>?_
   clear hK K
   refine rH 3 rfl (fun K hK=>?_)
   rw [if_pos (by rfl)]
   have zq:w4.heap.size≤wa.heap.size:=hS.2.size
   refine cE (k:=.i32) (base:=w4.heap.size) (n:=N) (.tmp 35) (.tmp 35) rfl dK .i64 .i64 rfl rfl oM (by unfold maxLen;omega) zq dM ?_
   intro wm own gm
   have OW:=zH (show Own (aa .i32) wm (fun _=>False) w4.heap.size 21 (.slice (some ⟨wa.heap.size,0,none⟩) (N) (N)) (N) (List.replicate (N) 0) by first|exact own|simpa [World.size_alloc] using own)
   replace BZ:=zH (BZ.o.grown0 gm)
   refine hK.out _ _ ⟨Blk.grown0 hS.1 gm,hS.2.grown gm zq sM⟩ (fun hS=>?_)
   clear hK K own gm
   try simp only [pX]
   refine kH' 4 hS ?_
   refine rH 6 rfl (fun K hK=>?_)
   rw [if_pos (by rfl)]
   refine oG (tN (Ho:Int) (Wo:Int) (Co:Int) (some ⟨wa.heap.size,0,none⟩) (N) (N)) BZ.o ?_
   intro wc BX gc
   have hne:wa.heap.size ≠ w4.heap.size:=by have:=zwa;omega
   replace OW:=zH (OW.o.flat gc (.inr (by first|(simp [Value.ownBlock];done)|(simp [Value.ownBlock];exact hne))) (fun _ h=>h))
   refine hK.out _ _ ⟨hS.1.away gc (by have:=(show w2.heap.size < w4.heap.size by omega);have:=zg;simp only [World.size_drew] at *;omega),hS.2.grown gc hS.2.size (fun k h=>by have:=sI h;have:=zg;simp only [World.size_drew] at *;omega)⟩ (fun hS=>?_)
   clear hK K
   try simp only [pX]
   refine wpAnyH_done kM ?_ _
   have FZ:=hS.2
   go_wp2_with fail
   go_meet
   case rel=>exact ⟨_,_,rfl,BX,OW.o,hne,zg,FZ⟩
 case rest =>
  obtain ⟨g,q,rfl,bg,own,hqg,zg,b4⟩:=hcut
  obtain ⟨w5,rfl⟩:∃ x,x=wc:=⟨_,rfl⟩
  have BG:=zH bg
  have ON:=zH own
  have l45:=b4.size
  have lq:w4.heap.size≤q∧q < w5.heap.size:=own.lt _ rfl
  have lg5:=bg.lt
  obtain ⟨FR,BA,BB,BC,BD⟩:=uz5 b4 FR BA BB BC BD
  clear b4
  obtain ⟨w6,yw6⟩:∃ x,w5.alloc (.cells #[.int .i64 0,.int .i64 0,.int .i64 0,.slice none 0 0,.int .i64 0,.int .i64 0,.int .i64 0,.int .i64 0,.int .i64 0,.int .i64 0,.int .i64 0,.int .i8 0,.int .i8 0,.slice none 0 0,.slice none 0 0,.int .i32 0,.int .i64 0,.int .i8 0,.int .i32 0,.int .i64 0,.int .i8 0,.int .i8 0,.int .i8 0] 192)=x:=⟨_,rfl⟩
  have k6:Below w5 w5 w6:=by rw [← yw6];exact (qB _ _).alloc (lR _) _
  have BX:=zH (show Blk w6 w5.heap.size 192 #[.int .i64 0,.int .i64 0,.int .i64 0,.slice none 0 0,.int .i64 0,.int .i64 0,.int .i64 0,.int .i64 0,.int .i64 0,.int .i64 0,.int .i64 0,.int .i8 0,.int .i8 0,.slice none 0 0,.slice none 0 0,.int .i32 0,.int .i64 0,.int .i8 0,.int .i32 0,.int .i64 0,.int .i8 0,.int .i8 0,.int .i8 0] by rw [← yw6];exact Blk.now _ _ _ _ rfl)
  replace ON:=zH (ON.o.below k6 (lR _) (fun _ h=>h.elim))
  clear bg own
  have BA5:=zH BA.o
  have BB5:=zH BB.o
  obtain ⟨FR,BA,BB,BC,BD,BG⟩:=uz6 k6 FR BA BB BC BD BG
  clear k6
  go_wp2_with (first|(refine lGJ19 BB5.o ?_)|(refine lGJ19 BA5.o ?_)|(refine sGJ19 #[.int .i64 t.h,.int .i64 t.v,.int .i64 t.c,.slice A n cap,.int .i64 d.kind,.int .i64 d.a,.int .i64 d.b,.int .i64 d.k,.int .i64 d.s,.int .i64 d.p,.int .i64 d.out,.int .i8 d.za,.int .i8 d.zb,.slice W nw cw,.slice B nb cb,.int .i32 d.qm,.int .i64 d.qs,.int .i8 d.qz,.int .i32 d.rm,.int .i64 d.rs,.int .i8 d.rz,.int .i8 d.lo,.int .i8 d.hi] BX.o ?_;intro w7 B7 g7;have d7:=BD.o.away g7 (.inl oM);have d0:=d7.cell 0))
  replace FR:=zA g7 FR
  replace BB:=zA g7 BB
  replace BC:=zA g7 BC
  replace BD:=zH d7
  replace BG:=zA g7 BG
  replace BX:=zH B7
  replace ON:=zH (ON.o.flat g7 (.inr (by simp [Value.ownBlock];omega)) (fun _ h=>h))
  have NQ:=zH (show q ≠ g∧w4.heap.size≤q∧q < w5.heap.size∧w4.heap.size≤g∧g < w5.heap.size∧w2.heap.size < w4.heap.size∧w.heap.size+1+1 < w2.heap.size by refine ⟨hqg,?_,?_,?_,?_,?_,?_⟩ <;> omega)
  clear yw6 BA5 BB5 hqg zg l45 lq lg5 d7 B7 g7 BA d0
  rw [← mQ (cN t d Wo Co) (cF Wo Co 0 0 0) N (fun j _=>pg _ _ _)] at ON
  go_loopw [43] (fun ii wr=>∃ h:Nat,h≤Ho∧ii=.int .i64 h∧Far w wr∧Blk wr (w.heap.size+1) 42 (nD d W nw cw B nb cb)∧Blk wr (w.heap.size+1+1) 80 (tN 0 0 0 none 0 0)∧Blk wr w2.heap.size 24 (sN (Ho:Int) (Wo:Int) (Co:Int))∧Blk wr g 80 (tN (Ho:Int) (Wo:Int) (Co:Int) (some ⟨q,0,none⟩) N N)∧Blk wr w5.heap.size 192 #[.int .i64 t.h,.int .i64 t.v,.int .i64 t.c,.slice A n cap,.int .i64 d.kind,.int .i64 d.a,.int .i64 d.b,.int .i64 d.k,.int .i64 d.s,.int .i64 d.p,.int .i64 d.out,.int .i8 d.za,.int .i8 d.zb,.slice W nw cw,.slice B nb cb,.int .i32 d.qm,.int .i64 d.qs,.int .i8 d.qz,.int .i32 d.rm,.int .i64 d.rs,.int .i8 d.rz,.int .i8 d.lo,.int .i8 d.hi]∧Own (aa .i32) wr (fun _=>False) w4.heap.size 21 (.slice (some ⟨q,0,none⟩) N N) N (stF (cN t d Wo Co) (cF Wo Co h 0 0) N)) (fun ii _=>Ho - (intOf ii).toNat)
  case atStart=>exact ⟨0,zl _,rfl,FR.o,BB.o,BC.o,BD.o,BG.o,BX.o,ON.o⟩
  case round =>
   obtain ⟨h,hh,rfl,f0,f1,f2,f3,f4,f5,f6⟩:=hrel
   clear FR BB BC BD BG BX ON
   have FR:=zH f0
   have BB:=zH f1
   have BC:=zH f2
   have BD:=zH f3
   have BG:=zH f4
   have BX:=zH f5
   have ON:=zH f6
   clear f0 f1 f2 f3 f4 f5 f6
   by_cases hlt:h < Ho
   ·have p1:(h:Int) < (Ho:Int):=oM
    have d2:=BD.o.cell 2
    go_wp2_with fail
    clear d2
    go_loopw [48] (fun ii wr=>∃ o:Nat,o≤Co∧ii=.int .i64 o∧Far w wr∧Blk wr (w.heap.size+1) 42 (nD d W nw cw B nb cb)∧Blk wr (w.heap.size+1+1) 80 (tN 0 0 0 none 0 0)∧Blk wr w2.heap.size 24 (sN (Ho:Int) (Wo:Int) (Co:Int))∧Blk wr g 80 (tN (Ho:Int) (Wo:Int) (Co:Int) (some ⟨q,0,none⟩) N N)∧Blk wr w5.heap.size 192 #[.int .i64 t.h,.int .i64 t.v,.int .i64 t.c,.slice A n cap,.int .i64 d.kind,.int .i64 d.a,.int .i64 d.b,.int .i64 d.k,.int .i64 d.s,.int .i64 d.p,.int .i64 d.out,.int .i8 d.za,.int .i8 d.zb,.slice W nw cw,.slice B nb cb,.int .i32 d.qm,.int .i64 d.qs,.int .i8 d.qz,.int .i32 d.rm,.int .i64 d.rs,.int .i8 d.rz,.int .i8 d.lo,.int .i8 d.hi]∧Own (aa .i32) wr (fun _=>False) w4.heap.size 21 (.slice (some ⟨q,0,none⟩) N N) N (stF (cN t d Wo Co) (cF Wo Co h o 0) N)) (fun ii _=>Co - (intOf ii).toNat)
    case atStart=>exact ⟨0,zl _,rfl,FR.o,BB.o,BC.o,BD.o,BG.o,BX.o,ON.o⟩
    case round =>
     obtain ⟨o,hoo,rfl,f0,f1,f2,f3,f4,f5,f6⟩:=hrel
     clear FR BB BC BD BG BX ON
     have FR:=zH f0
     have BB:=zH f1
     have BC:=zH f2
     have BD:=zH f3
     have BG:=zH f4
     have BX:=zH f5
     have ON:=zH f6
     clear f0 f1 f2 f3 f4 f5 f6
     by_cases hlo:o < Co
     ·have p2:(o:Int) < (Co:Int):=oM
      go_wp2_with (refine lGJ19 BX.o ?_)
      refine (LN.o h o hlt hlo wr (zO HA FR) (zO HW FR)).mono ?_
      rintro e w8 ⟨RA,rn,rc,rfl,rs,hb⟩
      obtain rfl:Wo=rn:=by rw [← rs.n_eq];exact (LM.o h o).symm
      have RW:=zH (show New wr (aa .i64) w8 RA Wo rc (LV h o) from ⟨rs⟩)
      replace ON:=zH (ON.o.below hb (lR _) (fun _ h=>h.elim))
      have lr:=zH (show w5.heap.size < wr.heap.size from BX.o.lt)
      clear rs
      obtain ⟨FR,BB,BC,BD,BG,BX⟩:=uz6 hb FR BB BC BD BG BX
      clear hb
      go_wp2
      go_loopw [56] (fun ii wz=>∃ x:Nat,x≤Wo∧ii=.int .i64 x∧New wr (aa .i64) wz RA Wo rc (LV h o)∧Far w wz∧Blk wz (w.heap.size+1) 42 (nD d W nw cw B nb cb)∧Blk wz (w.heap.size+1+1) 80 (tN 0 0 0 none 0 0)∧Blk wz w2.heap.size 24 (sN (Ho:Int) (Wo:Int) (Co:Int))∧Blk wz g 80 (tN (Ho:Int) (Wo:Int) (Co:Int) (some ⟨q,0,none⟩) N N)∧Blk wz w5.heap.size 192 #[.int .i64 t.h,.int .i64 t.v,.int .i64 t.c,.slice A n cap,.int .i64 d.kind,.int .i64 d.a,.int .i64 d.b,.int .i64 d.k,.int .i64 d.s,.int .i64 d.p,.int .i64 d.out,.int .i8 d.za,.int .i8 d.zb,.slice W nw cw,.slice B nb cb,.int .i32 d.qm,.int .i64 d.qs,.int .i8 d.qz,.int .i32 d.rm,.int .i64 d.rs,.int .i8 d.rz,.int .i8 d.lo,.int .i8 d.hi]∧Own (aa .i32) wz (fun _=>False) w4.heap.size 21 (.slice (some ⟨q,0,none⟩) N N) N (stF (cN t d Wo Co) (cF Wo Co h o x) N)) (fun ii _=>Wo - (intOf ii).toNat)
      case atStart=>exact ⟨0,zl _,rfl,RW.o,FR.o,BB.o,BC.o,BD.o,BG.o,BX.o,ON.o⟩
      case round =>
       obtain ⟨x,hx,rfl,hrw,f0,f1,f2,f3,f4,f5,f6⟩:=hrel
       clear RW
       have RW:=zH hrw
       clear hrw
       clear FR BB BC BD BG BX ON
       have FR:=zH f0
       have BB:=zH f1
       have BC:=zH f2
       have BD:=zH f3
       have BG:=zH f4
       have BX:=zH f5
       have ON:=zH f6
       clear f0 f1 f2 f3 f4 f5 f6
       by_cases hlx:x < Wo
       ·have p3:(x:Int) < (Wo:Int):=oM
        obtain ⟨idx,hidx⟩:∃ m,(h*Wo+x)*Co+o=m:=⟨_,rfl⟩
        have hlt':idx < N:=by rw [← hidx,← NE.o];exact dO h x o Ho Wo Co hlt hlx hlo
        have hob:o < nb:=by rw [LB.o];exact hlo
        obtain ⟨bb,ob,rfl,-,-,cb,ib⟩:=(zO HB FR).int_at o (by rw [LB.o];exact hlo)
        obtain ⟨br,obr,rfl,-,-,cr,ir⟩:=RW.o.old.int_at x hlx
        obtain ⟨x0,u0,-,-,c5,c6,c7,-⟩:=ON.o.cell rfl idx hlt'
        have FV:=zH (show cN t d Wo Co idx=wrap32 (d.bias.getD o 0+(LV h o).getD x 0) by
         obtain ⟨n1,n2,n3⟩:=eY h x Wo Co o hlx hlo
         unfold cN
         rw [← hidx,n1,n2,n3,HLV.o,TK.o.h,TK.o.v,TK.o.c,WK.o.k,WK.o.s,WK.o.p]
         simp only [Int.toNat_natCast]
         unfold iG
         rw [fy _ _ _ _ (by have:=HM2.o;omega),ux _ _ _ _ _ _ _ _ _ _ (by have:=HM2.o;have:=WK.o.vk;omega)])
        obtain ⟨bd1,bd2⟩:=uc2 BD 1 2
        have bg3:=BG.o.cell 3
        have bb10:=BB.o.cell 10
        have SS:=zH (oU (cN t d Wo Co) (cF Wo Co h o x) N idx)
        have SE:=zH (iL (f:=cN t d Wo Co) (n:=N) (p:=fun j=>cF Wo Co h o x j || j == idx) (q:=cF Wo Co h o (x+1)) (fun j _=>by rw [← hidx];exact ph _ _ _ _ _ _ hlx hlo))
        obtain ⟨bo,hbo⟩:∃ m,d.bias.getD o 0=m:=⟨_,rfl⟩
        obtain ⟨rv,hrv⟩:∃ m,(LV h o).getD x 0=m:=⟨_,rfl⟩
        rw [hbo] at cb ib FV
        rw [hrv] at cr ir FV
        clear hbo hrv
        obtain ⟨a1,h1⟩:∃ m,h*Wo=m:=⟨_,rfl⟩
        have j1:(h:Int)*(Wo:Int)=(a1:Int):=by rw [← h1];simp
        rw [h1] at hidx
        obtain ⟨a2,h2⟩:∃ m,a1+x=m:=⟨_,rfl⟩
        rw [h2] at hidx
        obtain ⟨a3,h3⟩:∃ m,a2*Co=m:=⟨_,rfl⟩
        have j3:(a2:Int)*(Co:Int)=(a3:Int):=by rw [← h3];simp
        rw [h3] at hidx
        have m1:a2≤a3:=by rw [← h3];exact Nat.le_mul_of_pos_right _ oM
        have e1:IntKind.i64.wrap ((h:Int)*(Wo:Int))=(a1:Int):=by rw [j1];exact wJ
        have e2:IntKind.i64.wrap ((a1:Int)+(x:Int))=(a2:Int):=(wJ).trans oM
        have e3:IntKind.i64.wrap ((a2:Int)*(Co:Int))=(a3:Int):=by rw [j3];exact wJ
        have e4:IntKind.i64.wrap ((a3:Int)+(o:Int))=(idx:Int):=(wJ).trans oM
        obtain ⟨rw32,hr32⟩:∃ m,wrap32 rv=m:=⟨_,rfl⟩
        have e5:IntKind.i32.wrap rv=rw32:=by rw [IntKind.wrap_i32,← hr32];unfold wrap32;rfl
        obtain ⟨res,hres⟩:∃ m,wrap32 (bo+rw32)=m:=⟨_,rfl⟩
        have e6:IntKind.i32.wrap (bo+rw32)=res:=by rw [IntKind.wrap_i32,← hres];unfold wrap32;rfl
        have RE:=zH (show res=cN t d Wo Co idx∧InK .i32 res from ⟨by rw [FV.o,← hres,← hr32,fm],by rw [bE,← hres];exact cV _⟩)
        clear h1 h2 h3 j1 j3 hidx hr32 hres m1 FV
        go_wp2_with fail
        go_still_tail 21,kM
        change wpList _ _ _ _ _ wr.drew
        have kd:Below wr wr wr.drew:=(qB _ _).drew
        replace ON:=zH (ON.o.below kd (lR _) (fun _ h=>h.elim))
        obtain ⟨RW,FR,BB,BC,BD,BG,BX⟩:=uz7 kd RW FR BB BC BD BG BX
        clear kd bd1 bd2 bg3 bb10 cb cr c5 c6 c7
        generalize wr.drew=wy at *
        obtain ⟨x1,u1,-,-,c5,c6,c7,-⟩:=ON.o.cell rfl idx hlt'
        go_wp2_with fail
        obtain ⟨o3,g3⟩:=ON.o.set1 rfl idx (.int .i32 res) res ⟨rfl,RE.o.2⟩ (fun _ h=>h.elim)
        rw [RE.o.1,SS.o,SE.o] at o3
        obtain ⟨nq1,nq2,nq3,nq4,nq5,nq6,nq7⟩:=NQ.o
        rw [← RE.o.1] at o3
        exact ⟨⟨x+1,by omega,by go_num,RW.o.away g3 (by have:=lr.out;omega),FR.o.away g3 oM,BB.o.away g3 (.inl oM),BC.o.away g3 (.inl oM),BD.o.away g3 (.inl oM),BG.o.away g3 oM,BX.o.away g3 (.inr oM),o3⟩,by simp [intOf];omega⟩
       ·obtain rfl:x=Wo:=oM
        go_wp2_with fail
        have e1:=ON.o
        rw [iL (q:=cF x Co h (o+1) 0) (fun j _=>qH _ _ _ _ _ WK.o.wo1.1)] at e1
        exact ⟨⟨o+1,by omega,by go_num,FR.o,BB.o,BC.o,BD.o,BG.o,BX.o,e1⟩,by simp [intOf];omega⟩
     ·obtain rfl:o=Co:=oM
      go_wp2_with fail
      have e1:=ON.o
      rw [iL (q:=cF Wo o (h+1) 0 0) (fun j _=>qG _ _ _ _ WK.o.co1.1)] at e1
      exact ⟨⟨h+1,by omega,by go_num,FR.o,BB.o,BC.o,BD.o,BG.o,BX.o,e1⟩,by simp [intOf];omega⟩
   ·obtain rfl:h=Ho:=oM
    go_wp2_with (first|(refine lB 80 (.tmp 8) g BG.o underlying80 ?_)|(refine sB 80 (.tmp 4) (.tmp 86) (w.heap.size+1+1) (tN (h:Int) (Wo:Int) (Co:Int) (some ⟨q,0,none⟩) N N) BC.o ?_;intro w9 B9 g9))
    have e1:=ON.o
    rw [oT _ _ _ (fun j hj=>qF h Wo Co j (by rw [NE.o];exact hj))] at e1
    have e2:=e1.flat g9 (.inr (by have:=NQ.o;simp [Value.ownBlock];omega)) (fun _ h=>h)
    refine rG B9 ?_
    have FE:=FR.o.away g9 oM
    obtain ⟨A2,c2,hv,s⟩:=e2.sl (S':=bin w.heap.size _) dM (fun b h1 h2=>⟨by omega,h2⟩) (fun b h=>h.elim)
    injection hv with hv1 hv2 hv3
    subst hv1 hv3
    exact ⟨_,_,_,rfl,s,FE.out⟩
end Go.Proofs.YtmihnoagagbgaaaGreat
