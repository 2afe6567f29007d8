/-
  Sums of channels (layer 17): the walk of depth.Of where all is right.
-/
import Derived.Deep.DeepCutAuto
import Derived.Deep.CutBlock
import Derived.Test.YtjkmjpjknmghlaaGreatJ18
set_option linter.unusedVariables false
set_option linter.unusedSimpArgs false
namespace Go.Proofs.YtjkmjpjknmghlaaGreat
open Go.RowKit Go.ChangeShapes Go.WideShapes
set_option maxRecDepth 100000
set_option maxHeartbeats 8000000 in
theorem depthOf_good (t:Tensor) (A:Option Addr) (n cap:Nat) (d:Node) (W:Option Addr) (nw cw:Nat) (B:Option Addr) (nb cb:Nat) (w:World) (ht:TensorIn t) (hd:NodeIn d)
  (ha:Sl (tInt .i8) w (blo w.heap.size) A n cap t.data) (hw:Sl (tInt .i8) w (blo w.heap.size) W nw cw d.w) (hb:Sl (tInt .i32) w (blo w.heap.size) B nb cb d.bias) (mw:nw≤2000∧nb≤200) (c1:t.ok=true) (c2:(depthV t.h t.v t.c d).2=0) :
  Calls Tryz.prog 122 #[.agg (tN t.h t.v t.c A n cap),.agg (nN d.kind d.a d.b d.k d.s d.p d.out d.za d.zb W nw cw B nb cb d.qm d.qs d.qz d.rm d.rs d.rz d.lo d.hi)] w (RetT .i32 (depthOf t d).1 (depthOf t d).2 w):=by
 have HT:=zH ht
 have HD:=zH hd
 have HA:=zH ha
 have HW:=zH hw
 have HB:=zH hb
 have m1:n≤9223372036854775807:=Nat.le_trans ha.cap_le ha.max_le
 have m2:nw≤9223372036854775807:=Nat.le_trans hw.cap_le hw.max_le
 have m3:nb≤9223372036854775807:=Nat.le_trans hb.cap_le hb.max_le
 clear ht hd ha hw hb
 have SZ:=zH (show nw≤1048576∧nb≤1048576 by omega)
 obtain ⟨H,V,C,K,S,P,Ho,Wo,TK,WK,hx,lw,lb,el,ev⟩:=depth_nat c1 c2
 rw [ev]
 have HX:=zH hx
 have TK:=zH TK
 have WK:=zH WK
 have EN:=zH (show n=H*V*C by have:=TK.out.n_eq;rw [HA.out.n_eq] at this;exact this)
 have LW:=zH (show nw=C*K*K by rw [← HW.out.n_eq];exact lw)
 have LB:=zH (show nb=C by rw [← HB.out.n_eq];exact lb)
 have EL:=zH (fun w=>elems_any (Ho:Int) (C:Int) (Wo:Int) w (by have:=WK.out.ho1;rw [inK_i64];omega) (by have:=WK.out.wo1;rw [inK_i64];omega) (by have:=WK.out.co1;rw [inK_i64];omega))
 rw [el] at EL
 have hN:=WK.out.no
 obtain ⟨N,hNe⟩:∃ N,Ho*Wo*C=N:=⟨_,rfl⟩
 rw [hNe] at EL hN
 have NE:=zH hNe
 rw [hNe]
 have DS:=zH (fun (y x c:Nat) (hy:y≤1000) (hx:x≤1000) (hc:c < C) (wq:World) (ha:Sl (tInt .i8) wq (blo wq.heap.size) A n cap t.data) (hw:Sl (tInt .i8) wq (blo wq.heap.size) W nw cw d.w) (hb:Sl (tInt .i32) wq (blo wq.heap.size) B nb cb d.bias) =>
  depthSum_any H V C A n cap t.data d W nw cw B nb cb K S P y x c wq ha hw hb EN.out (by have:=TK.out.n_le;have:=HA.out.n_eq;omega) TK.out.h1 TK.out.v1 TK.out.c1 (tok_elems TK.out) WK.out.k WK.out.s WK.out.p WK.out.k1 WK.out.s1 WK.out.p1.1 HD.out.za hy hx hc (by rw [LB.out];exact hc) LW.out)
 rw [← TK.out.h,← TK.out.v,← TK.out.c] at DS
 have FV:=zH (show ∀ i,depthF t d Wo C i=wrap32 (d.bias.getD (i % C) 0+depthN H V C t.data d.za d.w K S P (i % C) (i / C / Wo) (i / C % Wo)) from fun i=>by
  unfold depthF
  rw [TK.out.h,TK.out.v,TK.out.c,WK.out.k,WK.out.s,WK.out.p]
  simp only [Int.toNat_natCast])
 have ub1:(Ho:Int)≤16:=by have:=WK.out.ho1;omega
 have ub2:(Wo:Int)≤16:=by have:=WK.out.wo1;omega
 have ub3:(C:Int)≤1024:=by have:=WK.out.co1;omega
 have ub4:(C:Int) ≠ 0:=by have:=WK.out.co1;omega
 have ub6:¬ C=0:=by have:=WK.out.co1;omega
 have ub7:¬ Wo=0:=by have:=WK.out.wo1;omega
 have ub5:(Wo:Int) ≠ 0:=by have:=WK.out.wo1;omega
 clear c2 hx el ev lw lb hNe
 have c1':decide (0 < elems t.h t.v t.c∧elems t.h t.v t.c=n)=true:=by rw [← HA.out.n_eq];simpa [Tensor.ok] using c1
 have C1:=zH c1'
 clear c1 c1'
 go_enter Tryz.func122,Tryz.ntmps122
 go_wp2_with fail
 refine (tensorRight_any t.h t.v t.c A n cap _ HT.out.h HT.out.v HT.out.c (Nat.le_trans HA.out.cap_le HA.out.max_le)).mono ?_
 rintro e w1 ⟨rfl,hb⟩
 rw [C1.out]
 have g1:=below_call (B:=w.heap.size) (a:=w) (by go_grown) hb (by simp;omega)
 have bA:=((Blk.now _ w.heap.size _ _ rfl).past _ |>.past _).later hb
 have bB:=((Blk.now _ (w.heap.size+1) _ _ (by simp)).past _).later hb
 have bC:=(Blk.now _ (w.heap.size+1+1) _ _ (by simp)).later hb
 have BA:=zH bA
 have BB:=zH bB
 have BC:=zH bC
 have cA:=fun i=>bA.cell i
 clear bA bB bC hb
 go_wp2_with (refine lB 44 (.tmp 3) (w.heap.size+1) BB.out Tryz.underlying44 ?_)
 refine (depthShape_any t.h t.v t.c d W nw cw B nb cb _ HT.out.h HT.out.v HT.out.c HD.out.out HW.out.n_eq.symm HB.out.n_eq.symm SZ.out.1 SZ.out.2).mono ?_
 rintro e w2 ⟨rfl,hb⟩
 have g2:=below_call g1 hb g1.size
 have lt1:=BC.out.lt
 have lt2:=hb.size
 have BA:=zH (BA.out.later hb)
 have BB:=zH (BB.out.later hb)
 have BC:=zH (BC.out.later hb)
 clear hb cA
 rw [HX.out]
 simp only [retS]
 have FR:=zH (show Far w w2 from ⟨g2⟩)
 have ltA:w.heap.size < w2.heap.size:=by omega
 obtain ⟨w4,hw_w4,BD,k_w4⟩:=nB w2 (sN (Ho:Int) (Wo:Int) (C:Int)) 24
 replace FR:=zH (FR.out.fut k_w4)
 replace BA:=zH (BA.out.fut k_w4)
 replace BB:=zH (BB.out.fut k_w4)
 replace BC:=zH (BC.out.fut k_w4)
 clear k_w4
 have l24:w2.heap.size < w4.heap.size:=by rw [← hw_w4];simp
 go_wp2_with fail
 clear hw_w4
 go_cut [8] (fun b wx=>∃ g q,b=.pointer (some ⟨g,0,none⟩)∧Blk wx g 78 (tN (Ho:Int) (Wo:Int) (C:Int) (some ⟨q,0,none⟩) (N) (N))∧Own (tInt .i32) wx (fun _=>False) w4.heap.size 21 (.slice (some ⟨q,0,none⟩) (N) (N)) (N) (List.replicate (N) 0)∧q ≠ g∧w4.heap.size≤g∧Below w4.heap.size w4 wx)
 case first =>
  refine wp_region_held_drew (S:=fun w'=>Blk w' (w2.heap.size) 24 (sN (Ho:Int) (Wo:Int) (C:Int))∧Below w4.heap.size w4 w') (by kernel_rfl) ?_ (fun hS=>?_)
  ·exact ⟨BD.out.drew,(Below.refl _ _).drew⟩
  refine tkH 0 rfl (yieldsIf_load_blk (by rfl) 24 (.tmp 6) rfl w2.heap.size 0 rfl _ _ (sN (Ho:Int) (Wo:Int) (C:Int)) _ (fun w hs=>hs.1) Tryz.underlying24 rfl (by kernel_rfl) rfl) hS ?_
  try simp only [pX]
  refine tkH 1 rfl (yieldsIf_load_blk (by rfl) 24 (.tmp 6) rfl w2.heap.size 0 rfl _ _ (sN (Ho:Int) (Wo:Int) (C:Int)) _ (fun w hs=>hs.1) Tryz.underlying24 rfl (by kernel_rfl) rfl) hS ?_
  try simp only [pX]
  refine wpAnyH_ready (rs:=[2,5]) (by kernel_rfl) (by simp) ?_
  refine AllReadyH.cons rfl (fun K hK=>?_) (AllReadyH.cons rfl (fun K hK=>?_) AllReadyH.nil)
  ·go_simp
   refine (EL.out _).mono ?_
   rintro e wa ⟨rfl,hb⟩
   refine hK.out _ _ ?_ (fun hS=>?_)
   ·exact ⟨Blk.later hS.1 hb,below_later hb hS.2⟩
   clear hK K
   try simp only [pX]
   refine wpAnyH_ready (rs:=[3,5]) (by kernel_rfl) (by simp) ?_
   refine AllReadyH.cons rfl (fun K hK=>?_) (AllReadyH.cons rfl (fun K hK=>?_) AllReadyH.nil)
   ·rw [if_pos (by rfl)]
    have zq:w4.heap.size≤wa.heap.size:=hS.2.size
    refine oper_make (k:=.i32) (base:=w4.heap.size) (n:=N) (.tmp 27) (.tmp 27) rfl ei_i32 .i64 .i64 rfl rfl (by omega) (by unfold maxLen;omega) zq (by decide) ?_
    intro wm own gm
    have OW:=zH (show Own (tInt .i32) wm (fun _=>False) w4.heap.size 21 (.slice (some ⟨wa.heap.size,0,none⟩) (N) (N)) (N) (List.replicate (N) 0) by first|exact own|simpa [World.size_alloc] using own)
    refine hK.out _ _ ⟨Blk.grown0 hS.1 gm,hS.2.grown gm zq (by simp)⟩ (fun hS=>?_)
    clear hK K own gm
    try simp only [pX]
    refine kH 4 rfl hS ?_
    try simp only [pX]
    refine rH 5 rfl (fun K hK=>?_)
    go_simp
    have zg:w4.heap.size≤wm.heap.size:=hS.2.size
    have hb:Below wm.heap.size wm (wm.alloc (.cells (tN 0 0 0 none 0 0) 78)):=(Below.refl _ _).alloc (Nat.le_refl _) _
    have BZ:=zH (Blk.now wm wm.heap.size 78 (tN 0 0 0 none 0 0) rfl)
    have ltq:wa.heap.size < wm.heap.size:=(OW.out.lt _ rfl).2
    replace OW:=zH (OW.out.below hb (Nat.le_refl _) (fun _ h=>h.elim))
    refine hK.out _ _ ?_ (fun hS=>?_)
    ·exact ⟨Blk.later hS.1 hb,below_later hb hS.2⟩
    clear hK K
    try simp only [pX]
    refine rH 6 rfl (fun K hK=>?_)
    rw [if_pos (by rfl)]
    refine oper_store_blk 78 (.tmp 8) (.tmp 29) rfl wm.heap.size 0 (tN (Ho:Int) (Wo:Int) (C:Int) (some ⟨wa.heap.size,0,none⟩) (N) (N)) rfl rfl _ (tN 0 0 0 none 0 0) (tN (Ho:Int) (Wo:Int) (C:Int) (some ⟨wa.heap.size,0,none⟩) (N) (N)) BZ.out (by simp) (by kernel_rfl) (by simp [Value.oneCell']) rfl ?_
    intro wc BX gc
    have hne:wa.heap.size ≠ wm.heap.size:=by have:=ltq;omega
    replace OW:=zH (OW.out.flat gc (.inr (by first|(simp [Value.ownBlock];done)|(simp [Value.ownBlock];exact hne))) (fun _ h=>h))
    refine hK.out _ _ ⟨hS.1.away gc (by have:=(show w2.heap.size < w4.heap.size by omega);have:=zg;simp only [World.size_drew] at *;omega),hS.2.grown gc hS.2.size (fun k h=>by have:=Option.some.inj h;have:=zg;simp only [World.size_drew] at *;omega)⟩ (fun hS=>?_)
    clear hK K
    try simp only [pX]
    refine wpAnyH_done (by kernel_rfl) ?_ _
    have FZ:=hS.2
    go_wp2_with fail
    go_meet
    case rel=>exact ⟨_,_,rfl,BX,OW.out,hne,zg,FZ⟩
   ·go_simp
    have zg:w4.heap.size≤wa.heap.size:=hS.2.size
    have hb:Below wa.heap.size wa (wa.alloc (.cells (tN 0 0 0 none 0 0) 78)):=(Below.refl _ _).alloc (Nat.le_refl _) _
    have BZ:=zH (Blk.now wa wa.heap.size 78 (tN 0 0 0 none 0 0) rfl)
    refine hK.out _ _ ?_ (fun hS=>?_)
    ·exact ⟨Blk.later hS.1 hb,below_later hb hS.2⟩
    clear hK K
    try simp only [pX]
    refine rH 3 rfl (fun K hK=>?_)
    rw [if_pos (by rfl)]
    have zq:w4.heap.size≤(wa.alloc (.cells (tN 0 0 0 none 0 0) 78)).heap.size:=hS.2.size
    refine oper_make (k:=.i32) (base:=w4.heap.size) (n:=N) (.tmp 27) (.tmp 27) rfl ei_i32 .i64 .i64 rfl rfl (by omega) (by unfold maxLen;omega) zq (by decide) ?_
    intro wm own gm
    have OW:=zH (show Own (tInt .i32) wm (fun _=>False) w4.heap.size 21 (.slice (some ⟨(wa.heap.size+1),0,none⟩) (N) (N)) (N) (List.replicate (N) 0) by first|exact own|simpa [World.size_alloc] using own)
    replace BZ:=zH (BZ.out.grown0 gm)
    refine hK.out _ _ ⟨Blk.grown0 hS.1 gm,hS.2.grown gm zq (by simp)⟩ (fun hS=>?_)
    clear hK K own gm
    try simp only [pX]
    refine kH 4 rfl hS ?_
    try simp only [pX]
    refine rH 6 rfl (fun K hK=>?_)
    rw [if_pos (by rfl)]
    refine oper_store_blk 78 (.tmp 8) (.tmp 29) rfl wa.heap.size 0 #[.int .i64 (Ho:Int),.int .i64 (Wo:Int),.int .i64 (C:Int),.slice (some ⟨(wa.heap.size+1),0,none⟩) (N) (N)] rfl rfl _ (tN 0 0 0 none 0 0) #[.int .i64 (Ho:Int),.int .i64 (Wo:Int),.int .i64 (C:Int),.slice (some ⟨(wa.heap.size+1),0,none⟩) (N) (N)] BZ.out (by simp) (by kernel_rfl) (by simp [Value.oneCell']) rfl ?_
    intro wc BX gc
    have hne:(wa.heap.size+1) ≠ wa.heap.size:=by omega
    replace OW:=zH (OW.out.flat gc (.inr (by first|(simp [Value.ownBlock];done)|(simp [Value.ownBlock];exact hne))) (fun _ h=>h))
    refine hK.out _ _ ⟨hS.1.away gc (by have:=(show w2.heap.size < w4.heap.size by omega);have:=zg;simp only [World.size_drew] at *;omega),hS.2.grown gc hS.2.size (fun k h=>by have:=Option.some.inj h;have:=zg;simp only [World.size_drew] at *;omega)⟩ (fun hS=>?_)
    clear hK K
    try simp only [pX]
    refine wpAnyH_done (by kernel_rfl) ?_ _
    have FZ:=hS.2
    go_wp2_with fail
    go_meet
    case rel=>exact ⟨_,_,rfl,BX,OW.out,hne,zg,FZ⟩
  ·go_simp
   have zg:w4.heap.size≤w4.heap.size:=hS.2.size
   have hb:Below w4.drew.heap.size w4.drew (w4.drew.alloc (.cells (tN 0 0 0 none 0 0) 78)):=(Below.refl _ _).alloc (Nat.le_refl _) _
   have BZ:=zH (Blk.now w4.drew w4.heap.size 78 (tN 0 0 0 none 0 0) rfl)
   refine hK.out _ _ ?_ (fun hS=>?_)
   ·exact ⟨Blk.later hS.1 hb,below_later hb hS.2⟩
   clear hK K
   try simp only [pX]
   refine rH 2 rfl (fun K hK=>?_)
   go_simp
   refine (EL.out _).mono ?_
   rintro e wa ⟨rfl,hb⟩
   replace BZ:=zH (BZ.out.later hb)
   have zwa:=BZ.out.lt
   refine hK.out _ _ ?_ (fun hS=>?_)
   ·exact ⟨Blk.later hS.1 hb,below_later hb hS.2⟩
   clear hK K
   try simp only [pX]
   refine rH 3 rfl (fun K hK=>?_)
   rw [if_pos (by rfl)]
   have zq:w4.heap.size≤wa.heap.size:=hS.2.size
   refine oper_make (k:=.i32) (base:=w4.heap.size) (n:=N) (.tmp 27) (.tmp 27) rfl ei_i32 .i64 .i64 rfl rfl (by omega) (by unfold maxLen;omega) zq (by decide) ?_
   intro wm own gm
   have OW:=zH (show Own (tInt .i32) wm (fun _=>False) w4.heap.size 21 (.slice (some ⟨wa.heap.size,0,none⟩) (N) (N)) (N) (List.replicate (N) 0) by first|exact own|simpa [World.size_alloc] using own)
   replace BZ:=zH (BZ.out.grown0 gm)
   refine hK.out _ _ ⟨Blk.grown0 hS.1 gm,hS.2.grown gm zq (by simp)⟩ (fun hS=>?_)
   clear hK K own gm
   try simp only [pX]
   refine kH 4 rfl hS ?_
   try simp only [pX]
   refine rH 6 rfl (fun K hK=>?_)
   rw [if_pos (by rfl)]
   refine oper_store_blk 78 (.tmp 8) (.tmp 29) rfl w4.heap.size 0 (tN (Ho:Int) (Wo:Int) (C:Int) (some ⟨wa.heap.size,0,none⟩) (N) (N)) rfl rfl _ (tN 0 0 0 none 0 0) (tN (Ho:Int) (Wo:Int) (C:Int) (some ⟨wa.heap.size,0,none⟩) (N) (N)) BZ.out (by simp) (by kernel_rfl) (by simp [Value.oneCell']) rfl ?_
   intro wc BX gc
   have hne:wa.heap.size ≠ w4.heap.size:=by have:=zwa;omega
   replace OW:=zH (OW.out.flat gc (.inr (by first|(simp [Value.ownBlock];done)|(simp [Value.ownBlock];exact hne))) (fun _ h=>h))
   refine hK.out _ _ ⟨hS.1.away gc (by have:=(show w2.heap.size < w4.heap.size by omega);have:=zg;simp only [World.size_drew] at *;omega),hS.2.grown gc hS.2.size (fun k h=>by have:=Option.some.inj h;have:=zg;simp only [World.size_drew] at *;omega)⟩ (fun hS=>?_)
   clear hK K
   try simp only [pX]
   refine wpAnyH_done (by kernel_rfl) ?_ _
   have FZ:=hS.2
   go_wp2_with fail
   go_meet
   case rel=>exact ⟨_,_,rfl,BX,OW.out,hne,zg,FZ⟩
 case rest =>
  obtain ⟨g,q,rfl,bg,own,hqg,zg,b4⟩:=hcut
  obtain ⟨w5,rfl⟩:∃ x,x=wc:=⟨_,rfl⟩
  have BG:=zH bg
  have l45:=b4.size
  have lq:w4.heap.size≤q∧q < w5.heap.size:=own.lt _ rfl
  have lg5:=bg.lt
  replace FR:=zH (FR.out.fut b4)
  replace BA:=zH (BA.out.fut b4)
  replace BB:=zH (BB.out.fut b4)
  replace BC:=zH (BC.out.fut b4)
  replace BD:=zH (BD.out.fut b4)
  clear b4
  rw [← filling_zero 0 (depthF t d Wo C) N] at own
  have ON:=zH own
  have NQ:=zH (show q ≠ g∧w4.heap.size≤q∧q < w5.heap.size∧w4.heap.size≤g∧g < w5.heap.size∧w2.heap.size < w4.heap.size∧w.heap.size+1+1 < w2.heap.size by refine ⟨hqg,?_,?_,?_,?_,?_,?_⟩ <;> omega)
  have bg3:=BG.out.cell 3
  clear bg own hqg zg l45 lq lg5
  go_wp2_with fail
  clear bg3
  go_loopw [33] (fun ii wr=>∃ k:Nat,k≤N∧ii=.int .i64 k∧Far w wr∧Blk wr w.heap.size 27 (tN t.h t.v t.c A n cap)∧Blk wr (w.heap.size+1) 44 (nN d.kind d.a d.b d.k d.s d.p d.out d.za d.zb W nw cw B nb cb d.qm d.qs d.qz d.rm d.rs d.rz d.lo d.hi)∧Blk wr (w.heap.size+1+1) 78 (tN 0 0 0 none 0 0)∧Blk wr w2.heap.size 24 (sN (Ho:Int) (Wo:Int) (C:Int))∧Blk wr g 78 (tN (Ho:Int) (Wo:Int) (C:Int) (some ⟨q,0,none⟩) N N)∧Own (tInt .i32) wr (fun _=>False) w4.heap.size 21 (.slice (some ⟨q,0,none⟩) N N) N (filling 0 (depthF t d Wo C) N (k))) (fun ii _=>N - (intOf ii).toNat)
  case atStart=>exact ⟨0,Nat.zero_le _,rfl,FR.out,BA.out,BB.out,BC.out,BD.out,BG.out,ON.out⟩
  case round =>
   obtain ⟨k,hk,rfl,f0,f1,f2,f3,f4,f5,f6⟩:=hrel
   clear FR BA BB BC BD BG ON
   have FR:=zH f0
   have BA:=zH f1
   have BB:=zH f2
   have BC:=zH f3
   have BD:=zH f4
   have BG:=zH f5
   have ON:=zH f6
   clear f0 f1 f2 f3 f4 f5 f6
   by_cases hlt:k < N
   ·have p1:(k:Int) < (N:Int):=by omega
    go_wp2_with fail
    obtain ⟨v1,v2,v3⟩:=div_bounds (i:=k) (Ho:=Ho) (Wo:=Wo) (Co:=C) (by rw [NE.out];exact hlt)
    have FK:=zH (FV.out k)
    obtain ⟨kc,hkc⟩:∃ m,k % C=m:=⟨_,rfl⟩
    obtain ⟨kq,hkq⟩:∃ m,k / C=m:=⟨_,rfl⟩
    rw [hkc,hkq] at FK
    rw [hkq] at v2 v3
    rw [hkc] at v1
    obtain ⟨ky,hky⟩:∃ m,kq / Wo=m:=⟨_,rfl⟩
    obtain ⟨kx,hkx⟩:∃ m,kq % Wo=m:=⟨_,rfl⟩
    rw [hky,hkx] at FK
    rw [hky] at v2
    rw [hkx] at v3
    have d1:(k:Int).tdiv (C:Int)=(kq:Int):=by rw [← hkq,Int.tdiv_eq_ediv_of_nonneg (by omega)];simp
    have d2:(k:Int).tmod (C:Int)=(kc:Int):=by rw [← hkc,Int.tmod_eq_emod_of_nonneg (by omega)];simp
    have d3:(kq:Int).tdiv (Wo:Int)=(ky:Int):=by rw [← hky,Int.tdiv_eq_ediv_of_nonneg (by omega)];simp
    have d4:(kq:Int).tmod (Wo:Int)=(kx:Int):=by rw [← hkx,Int.tmod_eq_emod_of_nonneg (by omega)];simp
    have kqb:kq≤1024:=by rw [← hkq];exact Nat.le_trans (Nat.div_le_self _ _) (by omega)
    have g1:IntKind.i64.wrap (kq:Int)=(kq:Int):=IntWalk.i64_in _ (by omega)
    have g2:IntKind.i64.wrap (kc:Int)=(kc:Int):=IntWalk.i64_in _ (by omega)
    have g3:IntKind.i64.wrap (ky:Int)=(ky:Int):=IntWalk.i64_in _ (by omega)
    have g4:IntKind.i64.wrap (kx:Int)=(kx:Int):=IntWalk.i64_in _ (by omega)
    obtain ⟨res,hres⟩:∃ m,wrap32 (d.bias.getD kc 0+depthN H V C t.data d.za d.w K S P kc ky kx)=m:=⟨_,rfl⟩
    rw [hres] at FK
    have CALL:=zH (fun wq (hb:Below w.heap.size w wq)=>DS.out ky kx kc (by omega) (by omega) v1 wq ((Old.now HA.out).fut hb).all ((Old.now HW.out).fut hb).all ((Old.now HB.out).fut hb).all)
    rw [hres] at CALL
    have RE:=zH (show InK .i32 res by rw [inK_i32,← hres];exact wrap32_in _)
    have KB:=zH (show k < N from hlt)
    have fd:Below w.heap.size w wr.drew:=FR.out.out.drew
    clear hkc hkq hky hkx hres v1 v2 v3 kqb
    refine wp_region_T (fun w'=>w'.cell? ⟨w2.heap.size,1,none⟩=some (.int .i64 (Wo:Int))∧w'.cell? ⟨w2.heap.size,2,none⟩=some (.int .i64 (C:Int))∧w'.cell? ⟨g,3,none⟩=some (.slice (some ⟨q,0,none⟩) N N)∧Blk w' w.heap.size 27 (tN t.h t.v t.c A n cap)∧Blk w' (w.heap.size+1) 44 (nN d.kind d.a d.b d.k d.s d.p d.out d.za d.zb W nw cw B nb cb d.qm d.qs d.qz d.rm d.rs d.rz d.lo d.hi)∧Below wr.drew.heap.size wr.drew w') 24 (by kernel_rfl) ?_ (fun hS=>?_)
    ·exact ⟨BD.out.drew.cell 1,BD.out.drew.cell 2,BG.out.drew.cell 3,BA.out.drew,BB.out.drew,Below.refl _ _⟩
    refine kT 0 rfl hS ?_
    try simp only [pX]
    refine kT 1 rfl hS ?_
    try simp only [pX]
    refine kT 2 rfl hS ?_
    try simp only [pX]
    refine tkT 3 rfl (yieldsIf_load_blk (by rfl) 27 (.tmp 2) rfl w.heap.size 0 rfl _ _ (tN t.h t.v t.c A n cap) _ (fun w hs=>hs.2.2.2.1) Tryz.underlying27 rfl (by kernel_rfl) rfl) hS ?_
    try simp only [pX]
    refine tkT 4 rfl (yieldsIf_load_blk (by rfl) 44 (.tmp 3) rfl (w.heap.size+1) 0 rfl _ _ (nN d.kind d.a d.b d.k d.s d.p d.out d.za d.zb W nw cw B nb cb d.qm d.qs d.qz d.rm d.rs d.rz d.lo d.hi) _ (fun w hs=>hs.2.2.2.2.1) Tryz.underlying44 rfl (by kernel_rfl) rfl) hS ?_
    try simp only [pX]
    refine kT 5 rfl hS ?_
    try simp only [pX]
    refine kT 6 rfl hS ?_
    try simp only [pX]
    refine kT 7 rfl hS ?_
    try simp only [pX]
    refine kT 8 rfl hS ?_
    try simp only [pX]
    refine kT 9 rfl hS ?_
    try simp only [pX]
    refine kT 10 rfl hS ?_
    try simp only [pX]
    refine kT 11 rfl hS ?_
    try simp only [pX]
    refine kT 12 rfl hS ?_
    try simp only [pX]
    refine kT 13 rfl hS ?_
    try simp only [pX]
    refine kT 14 rfl hS ?_
    try simp only [pX]
    refine kT 15 rfl hS ?_
    try simp only [pX]
    refine kT 16 rfl hS ?_
    try simp only [pX]
    refine kT 17 rfl hS ?_
    try simp only [pX]
    refine kT 18 rfl hS ?_
    try simp only [pX]
    refine kT 19 rfl hS ?_
    try simp only [pX]
    refine kT 20 rfl hS ?_
    try simp only [pX]
    refine kT 21 rfl hS ?_
    try simp only [pX]
    refine kT 22 rfl hS ?_
    try simp only [pX]
    refine wpAnyT_one (i:=23) (by kernel_rfl) rfl rfl (fun K hK=>?_)
    go_simp
    (refine (CALL.out _ fd).mono ?_;rintro e wm ⟨rfl,hb⟩)
    refine hK.out _ _ ?_ (fun hS=>?_)
    ·exact ⟨(by first|exact cell_later hb hS.1|exact Blk.later hS.1 hb),(by first|exact cell_later hb hS.2.1|exact Blk.later hS.2.1 hb),(by first|exact cell_later hb hS.2.2.1|exact Blk.later hS.2.2.1 hb),(by first|exact cell_later hb hS.2.2.2.1|exact Blk.later hS.2.2.2.1 hb),(by first|exact cell_later hb hS.2.2.2.2.1|exact Blk.later hS.2.2.2.2.1 hb),(by first|exact below_later hb hS.2.2.2.2.2|exact grown_below hS.2.2.2.2.2 hb)⟩
    clear hK K
    try simp only [pX]
    refine wpAnyT_tail _ _ rfl rfl (by kernel_rfl) ?_
    have kd:=(show Below wr.heap.size wr wr.drew from (Below.refl _ _).drew).trans hb
    replace ON:=zH (ON.out.below kd (Nat.le_refl _) (fun _ h=>h.elim))
    replace FR:=zH (FR.out.fut kd)
    replace BA:=zH (BA.out.fut kd)
    replace BB:=zH (BB.out.fut kd)
    replace BC:=zH (BC.out.fut kd)
    replace BD:=zH (BD.out.fut kd)
    replace BG:=zH (BG.out.fut kd)
    clear hS hb kd fd
    obtain ⟨x1,u1,-,-,c5,c6,c7,-⟩:=ON.out.cell rfl k hlt
    go_wp2_with fail
    obtain ⟨o3,g3⟩:=ON.out.set1 rfl k (.int .i32 res) res ⟨rfl,RE.out⟩ (fun _ h=>h.elim)
    have FS:=filling_set 0 (depthF t d Wo C) N k KB.out
    rw [FK.out] at FS
    rw [FS] at o3
    obtain ⟨nq1,nq2,nq3,nq4,nq5,nq6,nq7⟩:=NQ.out
    exact ⟨⟨k+1,by omega,by go_num,FR.out.away g3 (by omega),BA.out.away g3 (.inl (by omega)),BB.out.away g3 (.inl (by omega)),BC.out.away g3 (.inl (by omega)),BD.out.away g3 (.inl (by omega)),BG.out.away g3 (by omega),o3⟩,by simp [intOf];omega⟩
   ·obtain rfl:k=N:=by omega
    go_wp2_with (first|(refine lB 78 (.tmp 8) g BG.out Tryz.underlying78 ?_)|(refine sB 78 (.tmp 4) (.tmp 62) (w.heap.size+1+1) (tN (Ho:Int) (Wo:Int) (C:Int) (some ⟨q,0,none⟩) k k) BC.out ?_;intro w9 B9 g9))
    have e1:=ON.out
    rw [filling_all] at e1
    have e2:=e1.flat g9 (.inr (by have:=NQ.out;simp [Value.ownBlock];omega)) (fun _ h=>h)
    refine rC B9 Tryz.underlying78 ?_
    have FE:=FR.out.away g9 (by omega)
    obtain ⟨A2,c2,hv,s⟩:=e2.sl (S':=bin w.heap.size _) (by decide) (fun b h1 h2=>⟨by omega,h2⟩) (fun b h=>h.elim)
    injection hv with hv1 hv2 hv3
    subst hv1 hv3
    exact ⟨_,_,_,rfl,s,FE.out⟩
end Go.Proofs.YtjkmjpjknmghlaaGreat
