/-
  Sums by rows that are slid over (layer 16): the walk of lane.Of where all is right.
-/
import Derived.Deep.DeepCutAuto
import Derived.Deep.CutBlock
import Derived.Test.YtjkmjpjknmghlaaGreatJ18
import Derived.Test.YtjkmjpjknmghlaaGreatJ16
set_option linter.unusedVariables false
set_option linter.unusedSimpArgs false
namespace Go.Proofs.YtjkmjpjknmghlaaGreat
open Go.RowKit Go.ChangeShapes Go.WideShapes
set_option maxRecDepth 100000
set_option maxHeartbeats 8000000 in
theorem laneOf_good (t:Tensor) (A:Option Addr) (n cap:Nat) (d:Node) (W:Option Addr) (nw cw:Nat) (B:Option Addr) (nb cb:Nat) (w:World) (ht:TensorIn t) (hd:NodeIn d)
  (ha:Sl (tInt .i8) w (blo w.heap.size) A n cap t.data) (hw:Sl (tInt .i8) w (blo w.heap.size) W nw cw d.w) (hb:Sl (tInt .i32) w (blo w.heap.size) B nb cb d.bias) (mw:nw≤2000∧nb≤200) (c1:t.ok=true) (c2:(convV t.h t.v t.c d).2=0) (hk3:d.k=3) (hs1:d.s=1) :
  Calls Tryz.prog 120 #[.agg (tN t.h t.v t.c A n cap),.agg (nN d.kind d.a d.b d.k d.s d.p d.out d.za d.zb W nw cw B nb cb d.qm d.qs d.qz d.rm d.rs d.rz d.lo d.hi)] w (RetT .i32 (convOf t d).1 (convOf t d).2 w):=by
 have HT:=zH ht
 have HD:=zH hd
 have HA:=zH ha
 have HW:=zH hw
 have HB:=zH hb
 have m1:n≤9223372036854775807:=Nat.le_trans ha.cap_le ha.max_le
 have m2:nw≤9223372036854775807:=Nat.le_trans hw.cap_le hw.max_le
 have m3:nb≤9223372036854775807:=Nat.le_trans hb.cap_le hb.max_le
 clear ht hd ha hw hb
 have SZ:=zH (show nw≤1048576∧nb≤1048576 by omega)
 obtain ⟨H,V,C,K,S,P,Ho,Wo,Co,TK,WK,hx,lw,lb,ho,el,ev⟩:=conv_nat c1 c2
 rw [ev]
 have HX:=zH hx
 have TK:=zH TK
 have WK:=zH WK
 obtain rfl:K=3:=by have:=WK.out.k;omega
 obtain rfl:S=1:=by have:=WK.out.s;omega
 have HF:=zH (show decide (d.k=3∧d.s=1)=true by simp [hk3,hs1])
 have EN:=zH (show n=H*V*C by have:=TK.out.n_eq;rw [HA.out.n_eq] at this;exact this)
 have LW:=zH (show nw=Co*3*3*C by rw [← HW.out.n_eq];exact lw)
 have LB:=zH (show nb=Co by rw [← HB.out.n_eq];exact lb)
 have EL:=zH (fun w=>elems_any (Ho:Int) (Co:Int) (Wo:Int) w (by have:=WK.out.ho1;rw [inK_i64];omega) (by have:=WK.out.wo1;rw [inK_i64];omega) (by have:=WK.out.co1;rw [inK_i64];omega))
 rw [el] at EL
 have hN:=WK.out.no
 obtain ⟨N,hNe⟩:∃ N,Ho*Wo*Co=N:=⟨_,rfl⟩
 rw [hNe] at EL hN
 have NE:=zH hNe
 rw [hNe]
 have hC:C≤222∧1≤Co:=by
  have e:=LW.out
  have:=TK.out.c1
  have c:=WK.out.co1
  refine ⟨?_,c.1⟩
  have:1*3*3*C≤Co*3*3*C:=Nat.mul_le_mul_right C (by omega)
  omega
 have hm2:V+2*P - 2=Wo:=by have:=WK.out.wo;have:=WK.out.vk;omega
 obtain ⟨LV,hLV⟩:∃ f:Nat → Nat → List Int,∀ h o,manyV (rowsV H V C t.data d.za P h) (tapsV d.w C o) (V+2*P) (3*C)=f h o:=⟨fun h o=>_,fun h o=>rfl⟩
 have LN:=zH (fun (h o:Nat) (hh:h < Ho) (ho:o < Co) (wq:World) (ha:Sl (tInt .i8) wq (blo wq.heap.size) A n cap t.data) (hw:Sl (tInt .i8) wq (blo wq.heap.size) W nw cw d.w) =>
  lanesLine_any H V C P A n cap t.data d W nw cw B nb cb h o wq ha hw EN.out (by have:=TK.out.n_le;have:=HA.out.n_eq;omega) (by have:=TK.out.v1;omega) (by have:=TK.out.c1;omega) (by omega) WK.out.p (by have:=WK.out.p1;omega) HD.out.za (by have:=WK.out.ho1;omega) (by have:=TK.out.h1;omega) (by have:=WK.out.co1;omega)
   (by rw [LW.out,Nat.mul_assoc Co,Nat.mul_assoc Co];exact Nat.mul_le_mul_right _ ho) (by have:=TK.out.v1;have:=WK.out.p1;omega))
 rw [← TK.out.h,← TK.out.v,← TK.out.c] at LN
 simp only [hLV] at LN
 have LM:=zH (show ∀ h o,(LV h o).length=Wo from fun h o=>by rw [← hLV];simp [manyV];exact hm2)
 have HLV:=zH (fun h o=>(hLV h o).symm)
 have HM2:=zH hm2
 have ub1:(Ho:Int)≤16:=by have:=WK.out.ho1;omega
 have ub2:(Wo:Int)≤16:=by have:=WK.out.wo1;omega
 have ub3:(Co:Int)≤1024:=by have:=WK.out.co1;omega
 clear c2 hx hk3 hs1 ho el ev lw lb hNe hC hm2 hLV
 have c1':decide (0 < elems t.h t.v t.c∧elems t.h t.v t.c=n)=true:=by rw [← HA.out.n_eq];simpa [Tensor.ok] using c1
 have C1:=zH c1'
 clear c1 c1'
 go_enter Tryz.func120,Tryz.ntmps120
 go_wp2_with fail
 refine (tensorRight_any t.h t.v t.c A n cap _ HT.out.h HT.out.v HT.out.c (Nat.le_trans HA.out.cap_le HA.out.max_le)).mono ?_
 rintro e w1 ⟨rfl,hb⟩
 rw [C1.out]
 have g1:=below_call (B:=w.heap.size) (a:=w) (by go_grown) hb (by simp;omega)
 have bA:=((Blk.now _ w.heap.size _ _ rfl).past _ |>.past _).later hb
 have bB:=((Blk.now _ (w.heap.size+1) _ _ (by simp)).past _).later hb
 have bC:=(Blk.now _ (w.heap.size+1+1) _ _ (by simp)).later hb
 have BA:=zH bA
 have BB:=zH bB
 have BC:=zH bC
 have cA:=fun i=>bA.cell i
 clear bA bB bC hb
 go_wp2_with (refine lB 44 (.tmp 3) (w.heap.size+1) BB.out Tryz.underlying44 ?_)
 refine (convShape_any t.h t.v t.c d W nw cw B nb cb _ HT.out.h HT.out.v HT.out.c HD.out.out HW.out.n_eq.symm HB.out.n_eq.symm SZ.out.1 SZ.out.2).mono ?_
 rintro e w2 ⟨rfl,hb⟩
 have g2:=below_call g1 hb g1.size
 have lt1:=BC.out.lt
 have lt2:=hb.size
 have BA:=zH (BA.out.later hb)
 have BB:=zH (BB.out.later hb)
 have BC:=zH (BC.out.later hb)
 clear hb cA
 rw [HX.out]
 simp only [retS]
 have FR:=zH (show Far w w2 from ⟨g2⟩)
 have ltA:w.heap.size < w2.heap.size:=by omega
 obtain ⟨w3,hw_w3,BD,k_w3⟩:=nB w2 (sN (Ho:Int) (Wo:Int) (Co:Int)) 24
 replace FR:=zH (FR.out.fut k_w3)
 replace BA:=zH (BA.out.fut k_w3)
 replace BB:=zH (BB.out.fut k_w3)
 replace BC:=zH (BC.out.fut k_w3)
 clear k_w3
 have l23:w2.heap.size < w3.heap.size:=by rw [← hw_w3];simp
 go_wp2_with (refine lB 44 (.tmp 3) (w.heap.size+1) BB.out Tryz.underlying44 ?_)
 refine (fits_any d W nw cw B nb cb w3).mono ?_
 rintro e w4 ⟨rfl,hb⟩
 rw [HF.out]
 have l34:=hb.size
 replace FR:=zH (FR.out.fut hb)
 replace BA:=zH (BA.out.fut hb)
 replace BB:=zH (BB.out.fut hb)
 replace BC:=zH (BC.out.fut hb)
 replace BD:=zH (BD.out.fut hb)
 clear hb
 clear hw_w3
 go_wp2_with fail
 go_cut [8] (fun b wx=>∃ g q,b=.pointer (some ⟨g,0,none⟩)∧Blk wx g 78 (tN (Ho:Int) (Wo:Int) (Co:Int) (some ⟨q,0,none⟩) (N) (N))∧Own (tInt .i32) wx (fun _=>False) w4.heap.size 21 (.slice (some ⟨q,0,none⟩) (N) (N)) (N) (List.replicate (N) 0)∧q ≠ g∧w4.heap.size≤g∧Below w4.heap.size w4 wx)
 case first =>
  refine wp_region_held_drew (S:=fun w'=>Blk w' (w2.heap.size) 24 (sN (Ho:Int) (Wo:Int) (Co:Int))∧Below w4.heap.size w4 w') (by kernel_rfl) ?_ (fun hS=>?_)
  ·exact ⟨BD.out.drew,(Below.refl _ _).drew⟩
  refine tkH 0 rfl (yieldsIf_load_blk (by rfl) 24 (.tmp 6) rfl w2.heap.size 0 rfl _ _ (sN (Ho:Int) (Wo:Int) (Co:Int)) _ (fun w hs=>hs.1) Tryz.underlying24 rfl (by kernel_rfl) rfl) hS ?_
  try simp only [pX]
  refine tkH 1 rfl (yieldsIf_load_blk (by rfl) 24 (.tmp 6) rfl w2.heap.size 0 rfl _ _ (sN (Ho:Int) (Wo:Int) (Co:Int)) _ (fun w hs=>hs.1) Tryz.underlying24 rfl (by kernel_rfl) rfl) hS ?_
  try simp only [pX]
  refine wpAnyH_ready (rs:=[2,5]) (by kernel_rfl) (by simp) ?_
  refine AllReadyH.cons rfl (fun K hK=>?_) (AllReadyH.cons rfl (fun K hK=>?_) AllReadyH.nil)
  ·go_simp
   refine (EL.out _).mono ?_
   rintro e wa ⟨rfl,hb⟩
   refine hK.out _ _ ?_ (fun hS=>?_)
   ·exact ⟨Blk.later hS.1 hb,below_later hb hS.2⟩
   clear hK K
   try simp only [pX]
   refine wpAnyH_ready (rs:=[3,5]) (by kernel_rfl) (by simp) ?_
   refine AllReadyH.cons rfl (fun K hK=>?_) (AllReadyH.cons rfl (fun K hK=>?_) AllReadyH.nil)
   ·rw [if_pos (by rfl)]
    have zq:w4.heap.size≤wa.heap.size:=hS.2.size
    refine oper_make (k:=.i32) (base:=w4.heap.size) (n:=N) (.tmp 35) (.tmp 35) rfl ei_i32 .i64 .i64 rfl rfl (by omega) (by unfold maxLen;omega) zq (by decide) ?_
    intro wm own gm
    have OW:=zH (show Own (tInt .i32) wm (fun _=>False) w4.heap.size 21 (.slice (some ⟨wa.heap.size,0,none⟩) (N) (N)) (N) (List.replicate (N) 0) by first|exact own|simpa [World.size_alloc] using own)
    refine hK.out _ _ ⟨Blk.grown0 hS.1 gm,hS.2.grown gm zq (by simp)⟩ (fun hS=>?_)
    clear hK K own gm
    try simp only [pX]
    refine kH 4 rfl hS ?_
    try simp only [pX]
    refine rH 5 rfl (fun K hK=>?_)
    go_simp
    have zg:w4.heap.size≤wm.heap.size:=hS.2.size
    have hb:Below wm.heap.size wm (wm.alloc (.cells (tN 0 0 0 none 0 0) 78)):=(Below.refl _ _).alloc (Nat.le_refl _) _
    have BZ:=zH (Blk.now wm wm.heap.size 78 (tN 0 0 0 none 0 0) rfl)
    have ltq:wa.heap.size < wm.heap.size:=(OW.out.lt _ rfl).2
    replace OW:=zH (OW.out.below hb (Nat.le_refl _) (fun _ h=>h.elim))
    refine hK.out _ _ ?_ (fun hS=>?_)
    ·exact ⟨Blk.later hS.1 hb,below_later hb hS.2⟩
    clear hK K
    try simp only [pX]
    refine rH 6 rfl (fun K hK=>?_)
    rw [if_pos (by rfl)]
    refine oper_store_blk 78 (.tmp 8) (.tmp 37) rfl wm.heap.size 0 (tN (Ho:Int) (Wo:Int) (Co:Int) (some ⟨wa.heap.size,0,none⟩) (N) (N)) rfl rfl _ (tN 0 0 0 none 0 0) (tN (Ho:Int) (Wo:Int) (Co:Int) (some ⟨wa.heap.size,0,none⟩) (N) (N)) BZ.out (by simp) (by kernel_rfl) (by simp [Value.oneCell']) rfl ?_
    intro wc BX gc
    have hne:wa.heap.size ≠ wm.heap.size:=by have:=ltq;omega
    replace OW:=zH (OW.out.flat gc (.inr (by first|(simp [Value.ownBlock];done)|(simp [Value.ownBlock];exact hne))) (fun _ h=>h))
    refine hK.out _ _ ⟨hS.1.away gc (by have:=(show w2.heap.size < w4.heap.size by omega);have:=zg;simp only [World.size_drew] at *;omega),hS.2.grown gc hS.2.size (fun k h=>by have:=Option.some.inj h;have:=zg;simp only [World.size_drew] at *;omega)⟩ (fun hS=>?_)
    clear hK K
    try simp only [pX]
    refine wpAnyH_done (by kernel_rfl) ?_ _
    have FZ:=hS.2
    go_wp2_with fail
    go_meet
    case rel=>exact ⟨_,_,rfl,BX,OW.out,hne,zg,FZ⟩
   ·go_simp
    have zg:w4.heap.size≤wa.heap.size:=hS.2.size
    have hb:Below wa.heap.size wa (wa.alloc (.cells (tN 0 0 0 none 0 0) 78)):=(Below.refl _ _).alloc (Nat.le_refl _) _
    have BZ:=zH (Blk.now wa wa.heap.size 78 (tN 0 0 0 none 0 0) rfl)
    refine hK.out _ _ ?_ (fun hS=>?_)
    ·exact ⟨Blk.later hS.1 hb,below_later hb hS.2⟩
    clear hK K
    try simp only [pX]
    refine rH 3 rfl (fun K hK=>?_)
    rw [if_pos (by rfl)]
    have zq:w4.heap.size≤(wa.alloc (.cells (tN 0 0 0 none 0 0) 78)).heap.size:=hS.2.size
    refine oper_make (k:=.i32) (base:=w4.heap.size) (n:=N) (.tmp 35) (.tmp 35) rfl ei_i32 .i64 .i64 rfl rfl (by omega) (by unfold maxLen;omega) zq (by decide) ?_
    intro wm own gm
    have OW:=zH (show Own (tInt .i32) wm (fun _=>False) w4.heap.size 21 (.slice (some ⟨(wa.heap.size+1),0,none⟩) (N) (N)) (N) (List.replicate (N) 0) by first|exact own|simpa [World.size_alloc] using own)
    replace BZ:=zH (BZ.out.grown0 gm)
    refine hK.out _ _ ⟨Blk.grown0 hS.1 gm,hS.2.grown gm zq (by simp)⟩ (fun hS=>?_)
    clear hK K own gm
    try simp only [pX]
    refine kH 4 rfl hS ?_
    try simp only [pX]
    refine rH 6 rfl (fun K hK=>?_)
    rw [if_pos (by rfl)]
    refine oper_store_blk 78 (.tmp 8) (.tmp 37) rfl wa.heap.size 0 #[.int .i64 (Ho:Int),.int .i64 (Wo:Int),.int .i64 (Co:Int),.slice (some ⟨(wa.heap.size+1),0,none⟩) (N) (N)] rfl rfl _ (tN 0 0 0 none 0 0) #[.int .i64 (Ho:Int),.int .i64 (Wo:Int),.int .i64 (Co:Int),.slice (some ⟨(wa.heap.size+1),0,none⟩) (N) (N)] BZ.out (by simp) (by kernel_rfl) (by simp [Value.oneCell']) rfl ?_
    intro wc BX gc
    have hne:(wa.heap.size+1) ≠ wa.heap.size:=by omega
    replace OW:=zH (OW.out.flat gc (.inr (by first|(simp [Value.ownBlock];done)|(simp [Value.ownBlock];exact hne))) (fun _ h=>h))
    refine hK.out _ _ ⟨hS.1.away gc (by have:=(show w2.heap.size < w4.heap.size by omega);have:=zg;simp only [World.size_drew] at *;omega),hS.2.grown gc hS.2.size (fun k h=>by have:=Option.some.inj h;have:=zg;simp only [World.size_drew] at *;omega)⟩ (fun hS=>?_)
    clear hK K
    try simp only [pX]
    refine wpAnyH_done (by kernel_rfl) ?_ _
    have FZ:=hS.2
    go_wp2_with fail
    go_meet
    case rel=>exact ⟨_,_,rfl,BX,OW.out,hne,zg,FZ⟩
  ·go_simp
   have zg:w4.heap.size≤w4.heap.size:=hS.2.size
   have hb:Below w4.drew.heap.size w4.drew (w4.drew.alloc (.cells (tN 0 0 0 none 0 0) 78)):=(Below.refl _ _).alloc (Nat.le_refl _) _
   have BZ:=zH (Blk.now w4.drew w4.heap.size 78 (tN 0 0 0 none 0 0) rfl)
   refine hK.out _ _ ?_ (fun hS=>?_)
   ·exact ⟨Blk.later hS.1 hb,below_later hb hS.2⟩
   clear hK K
   try simp only [pX]
   refine rH 2 rfl (fun K hK=>?_)
   go_simp
   refine (EL.out _).mono ?_
   rintro e wa ⟨rfl,hb⟩
   replace BZ:=zH (BZ.out.later hb)
   have zwa:=BZ.out.lt
   refine hK.out _ _ ?_ (fun hS=>?_)
   ·exact ⟨Blk.later hS.1 hb,below_later hb hS.2⟩
   clear hK K
   try simp only [pX]
   refine rH 3 rfl (fun K hK=>?_)
   rw [if_pos (by rfl)]
   have zq:w4.heap.size≤wa.heap.size:=hS.2.size
   refine oper_make (k:=.i32) (base:=w4.heap.size) (n:=N) (.tmp 35) (.tmp 35) rfl ei_i32 .i64 .i64 rfl rfl (by omega) (by unfold maxLen;omega) zq (by decide) ?_
   intro wm own gm
   have OW:=zH (show Own (tInt .i32) wm (fun _=>False) w4.heap.size 21 (.slice (some ⟨wa.heap.size,0,none⟩) (N) (N)) (N) (List.replicate (N) 0) by first|exact own|simpa [World.size_alloc] using own)
   replace BZ:=zH (BZ.out.grown0 gm)
   refine hK.out _ _ ⟨Blk.grown0 hS.1 gm,hS.2.grown gm zq (by simp)⟩ (fun hS=>?_)
   clear hK K own gm
   try simp only [pX]
   refine kH 4 rfl hS ?_
   try simp only [pX]
   refine rH 6 rfl (fun K hK=>?_)
   rw [if_pos (by rfl)]
   refine oper_store_blk 78 (.tmp 8) (.tmp 37) rfl w4.heap.size 0 (tN (Ho:Int) (Wo:Int) (Co:Int) (some ⟨wa.heap.size,0,none⟩) (N) (N)) rfl rfl _ (tN 0 0 0 none 0 0) (tN (Ho:Int) (Wo:Int) (Co:Int) (some ⟨wa.heap.size,0,none⟩) (N) (N)) BZ.out (by simp) (by kernel_rfl) (by simp [Value.oneCell']) rfl ?_
   intro wc BX gc
   have hne:wa.heap.size ≠ w4.heap.size:=by have:=zwa;omega
   replace OW:=zH (OW.out.flat gc (.inr (by first|(simp [Value.ownBlock];done)|(simp [Value.ownBlock];exact hne))) (fun _ h=>h))
   refine hK.out _ _ ⟨hS.1.away gc (by have:=(show w2.heap.size < w4.heap.size by omega);have:=zg;simp only [World.size_drew] at *;omega),hS.2.grown gc hS.2.size (fun k h=>by have:=Option.some.inj h;have:=zg;simp only [World.size_drew] at *;omega)⟩ (fun hS=>?_)
   clear hK K
   try simp only [pX]
   refine wpAnyH_done (by kernel_rfl) ?_ _
   have FZ:=hS.2
   go_wp2_with fail
   go_meet
   case rel=>exact ⟨_,_,rfl,BX,OW.out,hne,zg,FZ⟩
 case rest =>
  obtain ⟨g,q,rfl,bg,own,hqg,zg,b4⟩:=hcut
  obtain ⟨w5,rfl⟩:∃ x,x=wc:=⟨_,rfl⟩
  have BG:=zH bg
  have ON:=zH own
  have l45:=b4.size
  have lq:w4.heap.size≤q∧q < w5.heap.size:=own.lt _ rfl
  have lg5:=bg.lt
  replace FR:=zH (FR.out.fut b4)
  replace BA:=zH (BA.out.fut b4)
  replace BB:=zH (BB.out.fut b4)
  replace BC:=zH (BC.out.fut b4)
  replace BD:=zH (BD.out.fut b4)
  clear b4
  obtain ⟨w6,hw_w6⟩:∃ x,w5.alloc (.cells #[.int .i64 0,.int .i64 0,.int .i64 0,.slice none 0 0,Value.int .i64 0,Value.int .i64 0,Value.int .i64 0,Value.int .i64 0,Value.int .i64 0,Value.int .i64 0,Value.int .i64 0,Value.int .i8 0,Value.int .i8 0,Value.slice none 0 0,Value.slice none 0 0,Value.int .i32 0,Value.int .i64 0,Value.int .i8 0,Value.int .i32 0,Value.int .i64 0,Value.int .i8 0,Value.int .i8 0,Value.int .i8 0] 167)=x:=⟨_,rfl⟩
  have k6:Below w5.heap.size w5 w6:=by rw [← hw_w6];exact (Below.refl _ _).alloc (Nat.le_refl _) _
  have BX:=zH (show Blk w6 w5.heap.size 167 #[.int .i64 0,.int .i64 0,.int .i64 0,.slice none 0 0,Value.int .i64 0,Value.int .i64 0,Value.int .i64 0,Value.int .i64 0,Value.int .i64 0,Value.int .i64 0,Value.int .i64 0,Value.int .i8 0,Value.int .i8 0,Value.slice none 0 0,Value.slice none 0 0,Value.int .i32 0,Value.int .i64 0,Value.int .i8 0,Value.int .i32 0,Value.int .i64 0,Value.int .i8 0,Value.int .i8 0,Value.int .i8 0] by rw [← hw_w6];exact Blk.now _ _ _ _ rfl)
  replace ON:=zH (ON.out.below k6 (Nat.le_refl _) (fun _ h=>h.elim))
  clear bg own
  have BA5:=zH BA.out
  have BB5:=zH BB.out
  replace FR:=zH (FR.out.fut k6)
  replace BA:=zH (BA.out.fut k6)
  replace BB:=zH (BB.out.fut k6)
  replace BC:=zH (BC.out.fut k6)
  replace BD:=zH (BD.out.fut k6)
  replace BG:=zH (BG.out.fut k6)
  clear k6
  go_wp2_with (first|(refine lB 44 (.tmp 3) (w.heap.size+1) BB5.out Tryz.underlying44 ?_)|(refine lB 27 (.tmp 2) w.heap.size BA5.out Tryz.underlying27 ?_)|(refine sB 167 (.tmp 9) (.tmp 40) w5.heap.size #[.int .i64 t.h,.int .i64 t.v,.int .i64 t.c,.slice A n cap,.int .i64 d.kind,.int .i64 d.a,.int .i64 d.b,.int .i64 d.k,.int .i64 d.s,.int .i64 d.p,.int .i64 d.out,.int .i8 d.za,.int .i8 d.zb,.slice W nw cw,.slice B nb cb,.int .i32 d.qm,.int .i64 d.qs,.int .i8 d.qz,.int .i32 d.rm,.int .i64 d.rs,.int .i8 d.rz,.int .i8 d.lo,.int .i8 d.hi] BX.out ?_;intro w7 B7 g7;have d7:=BD.out.away g7 (.inl (by omega));have d0:=d7.cell 0))
  replace FR:=zH (FR.out.away g7 (by omega))
  replace BB:=zH (BB.out.away g7 (.inl (by omega)))
  replace BC:=zH (BC.out.away g7 (.inl (by omega)))
  replace BD:=zH d7
  replace BG:=zH (BG.out.away g7 (.inl (by omega)))
  replace BX:=zH B7
  replace ON:=zH (ON.out.flat g7 (.inr (by simp [Value.ownBlock];omega)) (fun _ h=>h))
  have NQ:=zH (show q ≠ g∧w4.heap.size≤q∧q < w5.heap.size∧w4.heap.size≤g∧g < w5.heap.size∧w2.heap.size < w4.heap.size∧w.heap.size+1+1 < w2.heap.size by refine ⟨hqg,?_,?_,?_,?_,?_,?_⟩ <;> omega)
  clear hw_w6 BA5 BB5 hqg zg l45 lq lg5 d7 B7 g7 BA d0
  rw [← stF_none (convF t d Wo Co) (doneL Wo Co 0 0 0) N (fun j _=>doneL_none _ _ _)] at ON
  go_loopw [43] (fun ii wr=>∃ h:Nat,h≤Ho∧ii=.int .i64 h∧Far w wr∧Blk wr (w.heap.size+1) 44 (nN d.kind d.a d.b d.k d.s d.p d.out d.za d.zb W nw cw B nb cb d.qm d.qs d.qz d.rm d.rs d.rz d.lo d.hi)∧Blk wr (w.heap.size+1+1) 78 (tN 0 0 0 none 0 0)∧Blk wr w2.heap.size 24 (sN (Ho:Int) (Wo:Int) (Co:Int))∧Blk wr g 78 (tN (Ho:Int) (Wo:Int) (Co:Int) (some ⟨q,0,none⟩) N N)∧Blk wr w5.heap.size 167 #[.int .i64 t.h,.int .i64 t.v,.int .i64 t.c,.slice A n cap,.int .i64 d.kind,.int .i64 d.a,.int .i64 d.b,.int .i64 d.k,.int .i64 d.s,.int .i64 d.p,.int .i64 d.out,.int .i8 d.za,.int .i8 d.zb,.slice W nw cw,.slice B nb cb,.int .i32 d.qm,.int .i64 d.qs,.int .i8 d.qz,.int .i32 d.rm,.int .i64 d.rs,.int .i8 d.rz,.int .i8 d.lo,.int .i8 d.hi]∧Own (tInt .i32) wr (fun _=>False) w4.heap.size 21 (.slice (some ⟨q,0,none⟩) N N) N (stF (convF t d Wo Co) (doneL Wo Co h 0 0) N)) (fun ii _=>Ho - (intOf ii).toNat)
  case atStart=>exact ⟨0,Nat.zero_le _,rfl,FR.out,BB.out,BC.out,BD.out,BG.out,BX.out,ON.out⟩
  case round =>
   obtain ⟨h,hh,rfl,f0,f1,f2,f3,f4,f5,f6⟩:=hrel
   clear FR BB BC BD BG BX ON
   have FR:=zH f0
   have BB:=zH f1
   have BC:=zH f2
   have BD:=zH f3
   have BG:=zH f4
   have BX:=zH f5
   have ON:=zH f6
   clear f0 f1 f2 f3 f4 f5 f6
   by_cases hlt:h < Ho
   ·have p1:(h:Int) < (Ho:Int):=by omega
    have d2:=BD.out.cell 2
    go_wp2_with fail
    clear d2
    go_loopw [48] (fun ii wr=>∃ o:Nat,o≤Co∧ii=.int .i64 o∧Far w wr∧Blk wr (w.heap.size+1) 44 (nN d.kind d.a d.b d.k d.s d.p d.out d.za d.zb W nw cw B nb cb d.qm d.qs d.qz d.rm d.rs d.rz d.lo d.hi)∧Blk wr (w.heap.size+1+1) 78 (tN 0 0 0 none 0 0)∧Blk wr w2.heap.size 24 (sN (Ho:Int) (Wo:Int) (Co:Int))∧Blk wr g 78 (tN (Ho:Int) (Wo:Int) (Co:Int) (some ⟨q,0,none⟩) N N)∧Blk wr w5.heap.size 167 #[.int .i64 t.h,.int .i64 t.v,.int .i64 t.c,.slice A n cap,.int .i64 d.kind,.int .i64 d.a,.int .i64 d.b,.int .i64 d.k,.int .i64 d.s,.int .i64 d.p,.int .i64 d.out,.int .i8 d.za,.int .i8 d.zb,.slice W nw cw,.slice B nb cb,.int .i32 d.qm,.int .i64 d.qs,.int .i8 d.qz,.int .i32 d.rm,.int .i64 d.rs,.int .i8 d.rz,.int .i8 d.lo,.int .i8 d.hi]∧Own (tInt .i32) wr (fun _=>False) w4.heap.size 21 (.slice (some ⟨q,0,none⟩) N N) N (stF (convF t d Wo Co) (doneL Wo Co h o 0) N)) (fun ii _=>Co - (intOf ii).toNat)
    case atStart=>exact ⟨0,Nat.zero_le _,rfl,FR.out,BB.out,BC.out,BD.out,BG.out,BX.out,ON.out⟩
    case round =>
     obtain ⟨o,hoo,rfl,f0,f1,f2,f3,f4,f5,f6⟩:=hrel
     clear FR BB BC BD BG BX ON
     have FR:=zH f0
     have BB:=zH f1
     have BC:=zH f2
     have BD:=zH f3
     have BG:=zH f4
     have BX:=zH f5
     have ON:=zH f6
     clear f0 f1 f2 f3 f4 f5 f6
     by_cases hlo:o < Co
     ·have p2:(o:Int) < (Co:Int):=by omega
      go_wp2_with (refine lB 167 (.tmp 9) w5.heap.size BX.out Tryz.underlying167 ?_)
      refine (LN.out h o hlt hlo wr ((Old.now HA.out).fut FR.out.out).all ((Old.now HW.out).fut FR.out.out).all).mono ?_
      rintro e w8 ⟨RA,rn,rc,rfl,rs,hb⟩
      obtain rfl:Wo=rn:=by rw [← rs.n_eq];exact (LM.out h o).symm
      have RW:=zH (show New wr (tInt .i64) w8 RA Wo rc (LV h o) from ⟨rs⟩)
      replace ON:=zH (ON.out.below hb (Nat.le_refl _) (fun _ h=>h.elim))
      have lr:=zH (show w5.heap.size < wr.heap.size from BX.out.lt)
      clear rs
      replace FR:=zH (FR.out.fut hb)
      replace BB:=zH (BB.out.fut hb)
      replace BC:=zH (BC.out.fut hb)
      replace BD:=zH (BD.out.fut hb)
      replace BG:=zH (BG.out.fut hb)
      replace BX:=zH (BX.out.fut hb)
      clear hb
      go_wp2_with fail
      go_loopw [56] (fun ii wz=>∃ x:Nat,x≤Wo∧ii=.int .i64 x∧New wr (tInt .i64) wz RA Wo rc (LV h o)∧Far w wz∧Blk wz (w.heap.size+1) 44 (nN d.kind d.a d.b d.k d.s d.p d.out d.za d.zb W nw cw B nb cb d.qm d.qs d.qz d.rm d.rs d.rz d.lo d.hi)∧Blk wz (w.heap.size+1+1) 78 (tN 0 0 0 none 0 0)∧Blk wz w2.heap.size 24 (sN (Ho:Int) (Wo:Int) (Co:Int))∧Blk wz g 78 (tN (Ho:Int) (Wo:Int) (Co:Int) (some ⟨q,0,none⟩) N N)∧Blk wz w5.heap.size 167 #[.int .i64 t.h,.int .i64 t.v,.int .i64 t.c,.slice A n cap,.int .i64 d.kind,.int .i64 d.a,.int .i64 d.b,.int .i64 d.k,.int .i64 d.s,.int .i64 d.p,.int .i64 d.out,.int .i8 d.za,.int .i8 d.zb,.slice W nw cw,.slice B nb cb,.int .i32 d.qm,.int .i64 d.qs,.int .i8 d.qz,.int .i32 d.rm,.int .i64 d.rs,.int .i8 d.rz,.int .i8 d.lo,.int .i8 d.hi]∧Own (tInt .i32) wz (fun _=>False) w4.heap.size 21 (.slice (some ⟨q,0,none⟩) N N) N (stF (convF t d Wo Co) (doneL Wo Co h o x) N)) (fun ii _=>Wo - (intOf ii).toNat)
      case atStart=>exact ⟨0,Nat.zero_le _,rfl,RW.out,FR.out,BB.out,BC.out,BD.out,BG.out,BX.out,ON.out⟩
      case round =>
       obtain ⟨x,hx,rfl,hrw,f0,f1,f2,f3,f4,f5,f6⟩:=hrel
       clear RW
       have RW:=zH hrw
       clear hrw
       clear FR BB BC BD BG BX ON
       have FR:=zH f0
       have BB:=zH f1
       have BC:=zH f2
       have BD:=zH f3
       have BG:=zH f4
       have BX:=zH f5
       have ON:=zH f6
       clear f0 f1 f2 f3 f4 f5 f6
       by_cases hlx:x < Wo
       ·have p3:(x:Int) < (Wo:Int):=by omega
        obtain ⟨idx,hidx⟩:∃ m,(h*Wo+x)*Co+o=m:=⟨_,rfl⟩
        have hlt':idx < N:=by rw [← hidx,← NE.out];exact idx_lt h x o Ho Wo Co hlt hlx hlo
        have hob:o < nb:=by rw [LB.out];exact hlo
        obtain ⟨bb,ob,rfl,-,-,cb,ib⟩:=((Old.now HB.out).fut FR.out.out).all.int_at o (by rw [LB.out];exact hlo)
        obtain ⟨br,obr,rfl,-,-,cr,ir⟩:=RW.out.old.int_at x hlx
        obtain ⟨x0,u0,-,-,c5,c6,c7,-⟩:=ON.out.cell rfl idx hlt'
        have FV:=zH (show convF t d Wo Co idx=wrap32 (d.bias.getD o 0+(LV h o).getD x 0) by
         obtain ⟨n1,n2,n3⟩:=nest_div h x Wo Co o hlx hlo
         unfold convF
         rw [← hidx,n1,n2,n3,HLV.out,TK.out.h,TK.out.v,TK.out.c,WK.out.k,WK.out.s,WK.out.p]
         simp only [Int.toNat_natCast]
         unfold manyV
         rw [getD_range _ _ _ _ (by have:=HM2.out;omega),lane_conv _ _ _ _ _ _ _ _ _ _ (by have:=HM2.out;have:=WK.out.vk;omega)])
        have bd1:=BD.out.cell 1
        have bd2:=BD.out.cell 2
        have bg3:=BG.out.cell 3
        have bb10:=BB.out.cell 10
        have SS:=zH (stF_set (convF t d Wo Co) (doneL Wo Co h o x) N idx)
        have SE:=zH (stF_ext (f:=convF t d Wo Co) (n:=N) (p:=fun j=>doneL Wo Co h o x j || j == idx) (q:=doneL Wo Co h o (x+1)) (fun j _=>by rw [← hidx];exact doneL_step _ _ _ _ _ _ hlx hlo))
        obtain ⟨bo,hbo⟩:∃ m,d.bias.getD o 0=m:=⟨_,rfl⟩
        obtain ⟨rv,hrv⟩:∃ m,(LV h o).getD x 0=m:=⟨_,rfl⟩
        rw [hbo] at cb ib FV
        rw [hrv] at cr ir FV
        clear hbo hrv
        obtain ⟨a1,h1⟩:∃ m,h*Wo=m:=⟨_,rfl⟩
        have j1:(h:Int)*(Wo:Int)=(a1:Int):=by rw [← h1];simp
        rw [h1] at hidx
        obtain ⟨a2,h2⟩:∃ m,a1+x=m:=⟨_,rfl⟩
        rw [h2] at hidx
        obtain ⟨a3,h3⟩:∃ m,a2*Co=m:=⟨_,rfl⟩
        have j3:(a2:Int)*(Co:Int)=(a3:Int):=by rw [← h3];simp
        rw [h3] at hidx
        have m1:a2≤a3:=by rw [← h3];exact Nat.le_mul_of_pos_right _ (by omega)
        have e1:IntKind.i64.wrap ((h:Int)*(Wo:Int))=(a1:Int):=by rw [j1];exact IntWalk.i64_in _ (by omega)
        have e2:IntKind.i64.wrap ((a1:Int)+(x:Int))=(a2:Int):=(IntWalk.i64_in _ (by omega)).trans (by omega)
        have e3:IntKind.i64.wrap ((a2:Int)*(Co:Int))=(a3:Int):=by rw [j3];exact IntWalk.i64_in _ (by omega)
        have e4:IntKind.i64.wrap ((a3:Int)+(o:Int))=(idx:Int):=(IntWalk.i64_in _ (by omega)).trans (by omega)
        obtain ⟨rw32,hr32⟩:∃ m,wrap32 rv=m:=⟨_,rfl⟩
        have e5:IntKind.i32.wrap rv=rw32:=by rw [IntKind.wrap_i32,← hr32];unfold wrap32;rfl
        obtain ⟨res,hres⟩:∃ m,wrap32 (bo+rw32)=m:=⟨_,rfl⟩
        have e6:IntKind.i32.wrap (bo+rw32)=res:=by rw [IntKind.wrap_i32,← hres];unfold wrap32;rfl
        have RE:=zH (show res=convF t d Wo Co idx∧InK .i32 res from ⟨by rw [FV.out,← hres,← hr32,wrap32_add'],by rw [inK_i32,← hres];exact wrap32_in _⟩)
        clear h1 h2 h3 j1 j3 hidx hr32 hres m1 FV
        go_wp2_with fail
        go_still_tail 21,(by kernel_rfl)
        change wpList _ _ _ _ _ wr.drew
        have kd:Below wr.heap.size wr wr.drew:=(Below.refl _ _).drew
        replace ON:=zH (ON.out.below kd (Nat.le_refl _) (fun _ h=>h.elim))
        replace RW:=zH (RW.out.fut kd)
        replace FR:=zH (FR.out.fut kd)
        replace BB:=zH (BB.out.fut kd)
        replace BC:=zH (BC.out.fut kd)
        replace BD:=zH (BD.out.fut kd)
        replace BG:=zH (BG.out.fut kd)
        replace BX:=zH (BX.out.fut kd)
        clear kd bd1 bd2 bg3 bb10 cb cr c5 c6 c7
        generalize wr.drew=wy at *
        obtain ⟨x1,u1,-,-,c5,c6,c7,-⟩:=ON.out.cell rfl idx hlt'
        go_wp2_with fail
        obtain ⟨o3,g3⟩:=ON.out.set1 rfl idx (.int .i32 res) res ⟨rfl,RE.out.2⟩ (fun _ h=>h.elim)
        rw [RE.out.1,SS.out,SE.out] at o3
        obtain ⟨nq1,nq2,nq3,nq4,nq5,nq6,nq7⟩:=NQ.out
        rw [← RE.out.1] at o3
        exact ⟨⟨x+1,by omega,by go_num,RW.out.away g3 (by have:=lr.out;omega),FR.out.away g3 (by omega),BB.out.away g3 (.inl (by omega)),BC.out.away g3 (.inl (by omega)),BD.out.away g3 (.inl (by omega)),BG.out.away g3 (by omega),BX.out.away g3 (.inr (by omega)),o3⟩,by simp [intOf];omega⟩
       ·obtain rfl:x=Wo:=by omega
        go_wp2_with fail
        have e1:=ON.out
        rw [stF_ext (q:=doneL x Co h (o+1) 0) (fun j _=>doneL_row _ _ _ _ _ WK.out.wo1.1)] at e1
        exact ⟨⟨o+1,by omega,by go_num,FR.out,BB.out,BC.out,BD.out,BG.out,BX.out,e1⟩,by simp [intOf];omega⟩
     ·obtain rfl:o=Co:=by omega
      go_wp2_with fail
      have e1:=ON.out
      rw [stF_ext (q:=doneL Wo o (h+1) 0 0) (fun j _=>doneL_col _ _ _ _ WK.out.co1.1)] at e1
      exact ⟨⟨h+1,by omega,by go_num,FR.out,BB.out,BC.out,BD.out,BG.out,BX.out,e1⟩,by simp [intOf];omega⟩
   ·obtain rfl:h=Ho:=by omega
    go_wp2_with (first|(refine lB 78 (.tmp 8) g BG.out Tryz.underlying78 ?_)|(refine sB 78 (.tmp 4) (.tmp 86) (w.heap.size+1+1) (tN (h:Int) (Wo:Int) (Co:Int) (some ⟨q,0,none⟩) N N) BC.out ?_;intro w9 B9 g9))
    have e1:=ON.out
    rw [stF_all _ _ _ (fun j hj=>doneL_all h Wo Co j (by rw [NE.out];exact hj))] at e1
    have e2:=e1.flat g9 (.inr (by have:=NQ.out;simp [Value.ownBlock];omega)) (fun _ h=>h)
    refine rC B9 Tryz.underlying78 ?_
    have FE:=FR.out.away g9 (by omega)
    obtain ⟨A2,c2,hv,s⟩:=e2.sl (S':=bin w.heap.size _) (by decide) (fun b h1 h2=>⟨by omega,h2⟩) (fun b h=>h.elim)
    injection hv with hv1 hv2 hv3
    subst hv1 hv3
    exact ⟨_,_,_,rfl,s,FE.out⟩
end Go.Proofs.YtjkmjpjknmghlaaGreat
