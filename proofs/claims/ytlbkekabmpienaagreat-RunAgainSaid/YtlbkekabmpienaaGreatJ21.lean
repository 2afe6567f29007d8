/-
  Sums of channels (layer 17): the walk of depth.Of where all is right.
  What a node's kind tells (layer 25): kinds.Plain, some of the kinds.
-/
import Derived.StillTailTactics
import Derived.Deep.DeepCutAuto
import Derived.Deep.CutRange
import Derived.Deep.CutBlock
import Derived.Test.YtlbkekabmpienaaGreatJ17
import Derived.Test.YtlbkekabmpienaaGreatJ11
import Derived.Test.YtlbkekabmpienaaGreatJ06
import Derived.Test.YtlbkekabmpienaaGreatJ00
import Derived.Test.YtlbkekabmpienaaGreatChecked
import Derived.Test.YtlbkekabmpienaaGreatJ13
import Derived.Test.YtlbkekabmpienaaGreatJ15
namespace Go.Proofs.YtlbkekabmpienaaGreat
set_option linter.unusedVariables false
set_option linter.unusedSimpArgs false
open Go.RowKit Go.ChangeShapes Go.WideShapes
set_option maxRecDepth 100000
set_option maxHeartbeats 8000000 in
theorem depthOf_good (t:Tensor) (A:Option Addr) (n cap:Nat) (d:Node) (W:Option Addr) (nw cw:Nat) (B:Option Addr) (nb cb:Nat) (w:World) (ht:TensorIn t) (hd:NodeIn d)
  (ha:Sl (tInt .i8) w (blo w.heap.size) A n cap t.data) (hw:Sl (tInt .i8) w (blo w.heap.size) W nw cw d.w) (hb:Sl (tInt .i32) w (blo w.heap.size) B nb cb d.bias) (mw:nw≤2000∧nb≤200) (c1:t.ok=true) (c2:(depthV t.h t.v t.c d).2=0) :
  Calls Tryz.prog 35 #[.agg #[.int .i64 t.h,.int .i64 t.v,.int .i64 t.c,.slice A n cap],.agg #[.int .i64 d.kind,.int .i64 d.a,.int .i64 d.b,.int .i64 d.k,.int .i64 d.s,.int .i64 d.p,.int .i64 d.out,.int .i8 d.za,.int .i8 d.zb,.slice W nw cw,.slice B nb cb,.int .i32 d.qm,.int .i64 d.qs,.int .i8 d.qz,.int .i32 d.rm,.int .i64 d.rs,.int .i8 d.rz,.int .i8 d.lo,.int .i8 d.hi]] w (RetT .i32 (depthOf t d).1 (depthOf t d).2 w):=by
 have HT:=zH ht
 have HD:=zH hd
 have HA:=zH ha
 have HW:=zH hw
 have HB:=zH hb
 have m1:n≤9223372036854775807:=Nat.le_trans ha.cap_le ha.max_le
 have m2:nw≤9223372036854775807:=Nat.le_trans hw.cap_le hw.max_le
 have m3:nb≤9223372036854775807:=Nat.le_trans hb.cap_le hb.max_le
 clear ht hd ha hw hb
 have SZ:=zH (show nw≤1048576∧nb≤1048576 by omega)
 obtain ⟨H,V,C,K,S,P,Ho,Wo,TK,WK,hx,lw,lb,el,ev⟩:=depth_nat c1 c2
 rw [ev]
 have HX:=zH hx
 have TK:=zH TK
 have WK:=zH WK
 have EN:=zH (show n=H*V*C by have:=TK.out.n_eq;rw [HA.out.n_eq] at this;exact this)
 have LW:=zH (show nw=C*K*K by rw [← HW.out.n_eq];exact lw)
 have LB:=zH (show nb=C by rw [← HB.out.n_eq];exact lb)
 have EL:=zH (fun w=>elems_any (Ho:Int) (C:Int) (Wo:Int) w (by have:=WK.out.ho1;rw [inK_i64];omega) (by have:=WK.out.wo1;rw [inK_i64];omega) (by have:=WK.out.co1;rw [inK_i64];omega))
 rw [el] at EL
 have hN:=WK.out.no
 obtain ⟨N,hNe⟩:∃ N,Ho*Wo*C=N:=⟨_,rfl⟩
 rw [hNe] at EL hN
 have NE:=zH hNe
 rw [hNe]
 have DS:=zH (fun (y x c:Nat) (hy:y≤1000) (hx:x≤1000) (hc:c < C) (wq:World) (ha:Sl (tInt .i8) wq (blo wq.heap.size) A n cap t.data) (hw:Sl (tInt .i8) wq (blo wq.heap.size) W nw cw d.w) (hb:Sl (tInt .i32) wq (blo wq.heap.size) B nb cb d.bias) =>
  depthSum_any H V C A n cap t.data d W nw cw B nb cb K S P y x c wq ha hw hb EN.out (by have:=TK.out.n_le;have:=HA.out.n_eq;omega) TK.out.h1 TK.out.v1 TK.out.c1 (tok_elems TK.out) WK.out.k WK.out.s WK.out.p WK.out.k1 WK.out.s1 WK.out.p1.1 HD.out.za hy hx hc (by rw [LB.out];exact hc) LW.out)
 rw [← TK.out.h,← TK.out.v,← TK.out.c] at DS
 have FV:=zH (show ∀ i,depthF t d Wo C i=wrap32 (d.bias.getD (i % C) 0+depthN H V C t.data d.za d.w K S P (i % C) (i / C / Wo) (i / C % Wo)) from fun i=>by
  unfold depthF
  rw [TK.out.h,TK.out.v,TK.out.c,WK.out.k,WK.out.s,WK.out.p]
  simp only [Int.toNat_natCast])
 have ub1:(Ho:Int)≤16:=by have:=WK.out.ho1;omega
 have ub2:(Wo:Int)≤16:=by have:=WK.out.wo1;omega
 have ub3:(C:Int)≤1024:=by have:=WK.out.co1;omega
 have ub4:(C:Int) ≠ 0:=by have:=WK.out.co1;omega
 have ub6:¬ C=0:=by have:=WK.out.co1;omega
 have ub7:¬ Wo=0:=by have:=WK.out.wo1;omega
 have ub5:(Wo:Int) ≠ 0:=by have:=WK.out.wo1;omega
 clear c2 hx el ev lw lb hNe
 have c1':decide (0 < elems t.h t.v t.c∧elems t.h t.v t.c=n)=true:=by rw [← HA.out.n_eq];simpa [Tensor.ok] using c1
 have C1:=zH c1'
 clear c1 c1'
 go_enter Tryz.func35,Tryz.ntmps35
 go_wp2_with fail
 refine (tensorRight_any t.h t.v t.c A n cap _ HT.out.h HT.out.v HT.out.c (Nat.le_trans HA.out.cap_le HA.out.max_le)).mono ?_
 rintro e w1 ⟨rfl,hb⟩
 rw [C1.out]
 have g1:=below_call (B:=w.heap.size) (a:=w) (by go_grown) hb (by simp;omega)
 have bA:=((Blk.now _ w.heap.size _ _ rfl).past _ |>.past _).later hb
 have bB:=((Blk.now _ (w.heap.size+1) _ _ (by simp)).past _).later hb
 have bC:=(Blk.now _ (w.heap.size+1+1) _ _ (by simp)).later hb
 have BA:=zH bA
 have BB:=zH bB
 have BC:=zH bC
 have cA:=fun i=>bA.cell i
 clear bA bB bC hb
 go_wp2_with (refine wpList_load_row rfl 28 (.tmp 3) rfl (w.heap.size+1) rfl _ _ (0,0) _ BB.out.heap Tryz.underlying28 rfl (by kernel_rfl) ?_)
 refine (depthShape_any t.h t.v t.c d W nw cw B nb cb _ HT.out.h HT.out.v HT.out.c HD.out.out HW.out.n_eq.symm HB.out.n_eq.symm SZ.out.1 SZ.out.2).mono ?_
 rintro e w2 ⟨rfl,hb⟩
 have g2:=below_call g1 hb g1.size
 have lt1:=BC.out.lt
 have lt2:=hb.size
 have BA:=zH (BA.out.later hb)
 have BB:=zH (BB.out.later hb)
 have BC:=zH (BC.out.later hb)
 clear hb cA
 rw [HX.out]
 simp only [retS]
 have FR:=zH (show Far w w2 from ⟨g2⟩)
 have ltA:w.heap.size < w2.heap.size:=by omega
 obtain ⟨w4,hw_w4,BD,k_w4⟩:=nB w2 #[.int .i64 (Ho:Int),.int .i64 (Wo:Int),.int .i64 (C:Int)] 30
 replace FR:=zH (FR.out.fut k_w4)
 replace BA:=zH (BA.out.fut k_w4)
 replace BB:=zH (BB.out.fut k_w4)
 replace BC:=zH (BC.out.fut k_w4)
 clear k_w4
 have l24:w2.heap.size < w4.heap.size:=by rw [← hw_w4];simp
 go_wp2_with fail
 clear hw_w4
 go_cut [8] (fun b wx=>∃ g q,b=.pointer (some ⟨g,0,none⟩)∧Blk wx g 41 #[.int .i64 (Ho:Int),.int .i64 (Wo:Int),.int .i64 (C:Int),.slice (some ⟨q,0,none⟩) (N) (N)]∧Own (tInt .i32) wx (fun _=>False) w4.heap.size 21 (.slice (some ⟨q,0,none⟩) (N) (N)) (N) (List.replicate (N) 0)∧q ≠ g∧w4.heap.size≤g∧Below w4.heap.size w4 wx)
 case first =>
  refine wp_region_held_drew (S:=fun w'=>Blk w' (w2.heap.size) 30 #[.int .i64 (Ho:Int),.int .i64 (Wo:Int),.int .i64 (C:Int)]∧Below w4.heap.size w4 w') (by kernel_rfl) ?_ (fun hS=>?_)
  ·exact ⟨BD.out.drew,(Below.refl _ _).drew⟩
  refine tkH 0 rfl (yieldsIf_load_blk (by rfl) 30 (.tmp 6) rfl w2.heap.size 0 rfl _ _ #[.int .i64 (Ho:Int),.int .i64 (Wo:Int),.int .i64 (C:Int)] _ (fun w hs=>hs.1) Tryz.underlying30 rfl (by kernel_rfl) rfl) hS ?_
  try simp only [pX]
  refine tkH 1 rfl (yieldsIf_load_blk (by rfl) 30 (.tmp 6) rfl w2.heap.size 0 rfl _ _ #[.int .i64 (Ho:Int),.int .i64 (Wo:Int),.int .i64 (C:Int)] _ (fun w hs=>hs.1) Tryz.underlying30 rfl (by kernel_rfl) rfl) hS ?_
  try simp only [pX]
  refine wpAnyH_ready (rs:=[2,5]) (by kernel_rfl) (by simp) ?_
  refine AllReadyH.cons rfl (fun K hK=>?_) (AllReadyH.cons rfl (fun K hK=>?_) AllReadyH.nil)
  ·go_simp
   refine (EL.out _).mono ?_
   rintro e wa ⟨rfl,hb⟩
   refine hK.out _ _ ?_ (fun hS=>?_)
   ·exact ⟨Blk.later hS.1 hb,below_later hb hS.2⟩
   clear hK K
   try simp only [pX]
   refine wpAnyH_ready (rs:=[3,5]) (by kernel_rfl) (by simp) ?_
   refine AllReadyH.cons rfl (fun K hK=>?_) (AllReadyH.cons rfl (fun K hK=>?_) AllReadyH.nil)
   ·rw [if_pos (by rfl)]
    have zq:w4.heap.size≤wa.heap.size:=hS.2.size
    refine oper_make (k:=.i32) (base:=w4.heap.size) (n:=N) (.tmp 27) (.tmp 27) rfl ei_i32 .i64 .i64 rfl rfl (by omega) (by unfold maxLen;omega) zq (by decide) ?_
    intro wm own gm
    have OW:=zH (show Own (tInt .i32) wm (fun _=>False) w4.heap.size 21 (.slice (some ⟨wa.heap.size,0,none⟩) (N) (N)) (N) (List.replicate (N) 0) by first|exact own|simpa [World.size_alloc] using own)
    refine hK.out _ _ ⟨Blk.grown0 hS.1 gm,hS.2.grown gm zq (by simp)⟩ (fun hS=>?_)
    clear hK K own gm
    try simp only [pX]
    refine tkH 4 rfl (v:=?_) (Or.inl ⟨by rfl,?_⟩) hS ?_
    rotate_left
    ·intro w hSw;(try dsimp only at hSw);go_simp;try with_reducible rfl
    try simp only [pX]
    refine wpAnyH_ready (rs:=[5]) (by kernel_rfl) (by simp) ?_
    refine AllReadyH.cons rfl (fun K hK=>?_) AllReadyH.nil
    go_simp
    have zg:w4.heap.size≤wm.heap.size:=hS.2.size
    have hb:Below wm.heap.size wm (wm.alloc (.cells #[.int .i64 0,.int .i64 0,.int .i64 0,.slice none 0 0] 41)):=(Below.refl _ _).alloc (Nat.le_refl _) _
    have BZ:=zH (Blk.now wm wm.heap.size 41 #[.int .i64 0,.int .i64 0,.int .i64 0,.slice none 0 0] rfl)
    have ltq:wa.heap.size < wm.heap.size:=(OW.out.lt _ rfl).2
    replace OW:=zH (OW.out.below hb (Nat.le_refl _) (fun _ h=>h.elim))
    refine hK.out _ _ ?_ (fun hS=>?_)
    ·exact ⟨Blk.later hS.1 hb,below_later hb hS.2⟩
    clear hK K
    try simp only [pX]
    refine wpAnyH_ready (rs:=[6]) (by kernel_rfl) (by simp) ?_
    refine AllReadyH.cons rfl (fun K hK=>?_) AllReadyH.nil
    rw [if_pos (by rfl)]
    refine oper_store_blk 41 (.tmp 8) (.tmp 29) rfl wm.heap.size 0 #[.int .i64 (Ho:Int),.int .i64 (Wo:Int),.int .i64 (C:Int),.slice (some ⟨wa.heap.size,0,none⟩) (N) (N)] rfl rfl _ #[.int .i64 0,.int .i64 0,.int .i64 0,.slice none 0 0] #[.int .i64 (Ho:Int),.int .i64 (Wo:Int),.int .i64 (C:Int),.slice (some ⟨wa.heap.size,0,none⟩) (N) (N)] BZ.out (by simp) (by kernel_rfl) (by simp [Value.oneCell']) rfl ?_
    intro wc BX gc
    have hne:wa.heap.size ≠ wm.heap.size:=by have:=ltq;omega
    replace OW:=zH (OW.out.flat gc (.inr (by first|(simp [Value.ownBlock];done)|(simp [Value.ownBlock];exact hne))) (fun _ h=>h))
    refine hK.out _ _ ⟨hS.1.away gc (by have:=(show w2.heap.size < w4.heap.size by omega);have:=zg;simp only [World.size_drew] at *;omega),hS.2.grown gc hS.2.size (fun k h=>by have:=Option.some.inj h;have:=zg;simp only [World.size_drew] at *;omega)⟩ (fun hS=>?_)
    clear hK K
    try simp only [pX]
    refine wpAnyH_done (by kernel_rfl) ?_ _
    have FZ:=hS.2
    go_wp2_with fail
    go_meet
    case rel=>exact ⟨_,_,rfl,BX,OW.out,hne,zg,FZ⟩
   ·go_simp
    have zg:w4.heap.size≤wa.heap.size:=hS.2.size
    have hb:Below wa.heap.size wa (wa.alloc (.cells #[.int .i64 0,.int .i64 0,.int .i64 0,.slice none 0 0] 41)):=(Below.refl _ _).alloc (Nat.le_refl _) _
    have BZ:=zH (Blk.now wa wa.heap.size 41 #[.int .i64 0,.int .i64 0,.int .i64 0,.slice none 0 0] rfl)
    refine hK.out _ _ ?_ (fun hS=>?_)
    ·exact ⟨Blk.later hS.1 hb,below_later hb hS.2⟩
    clear hK K
    try simp only [pX]
    refine wpAnyH_ready (rs:=[3]) (by kernel_rfl) (by simp) ?_
    refine AllReadyH.cons rfl (fun K hK=>?_) AllReadyH.nil
    rw [if_pos (by rfl)]
    have zq:w4.heap.size≤(wa.alloc (.cells #[.int .i64 0,.int .i64 0,.int .i64 0,.slice none 0 0] 41)).heap.size:=hS.2.size
    refine oper_make (k:=.i32) (base:=w4.heap.size) (n:=N) (.tmp 27) (.tmp 27) rfl ei_i32 .i64 .i64 rfl rfl (by omega) (by unfold maxLen;omega) zq (by decide) ?_
    intro wm own gm
    have OW:=zH (show Own (tInt .i32) wm (fun _=>False) w4.heap.size 21 (.slice (some ⟨(wa.heap.size+1),0,none⟩) (N) (N)) (N) (List.replicate (N) 0) by first|exact own|simpa [World.size_alloc] using own)
    replace BZ:=zH (BZ.out.grown0 gm)
    refine hK.out _ _ ⟨Blk.grown0 hS.1 gm,hS.2.grown gm zq (by simp)⟩ (fun hS=>?_)
    clear hK K own gm
    try simp only [pX]
    refine tkH 4 rfl (v:=?_) (Or.inl ⟨by rfl,?_⟩) hS ?_
    rotate_left
    ·intro w hSw;(try dsimp only at hSw);go_simp;try with_reducible rfl
    try simp only [pX]
    refine wpAnyH_ready (rs:=[6]) (by kernel_rfl) (by simp) ?_
    refine AllReadyH.cons rfl (fun K hK=>?_) AllReadyH.nil
    rw [if_pos (by rfl)]
    refine oper_store_blk 41 (.tmp 8) (.tmp 29) rfl wa.heap.size 0 #[.int .i64 (Ho:Int),.int .i64 (Wo:Int),.int .i64 (C:Int),.slice (some ⟨(wa.heap.size+1),0,none⟩) (N) (N)] rfl rfl _ #[.int .i64 0,.int .i64 0,.int .i64 0,.slice none 0 0] #[.int .i64 (Ho:Int),.int .i64 (Wo:Int),.int .i64 (C:Int),.slice (some ⟨(wa.heap.size+1),0,none⟩) (N) (N)] BZ.out (by simp) (by kernel_rfl) (by simp [Value.oneCell']) rfl ?_
    intro wc BX gc
    have hne:(wa.heap.size+1) ≠ wa.heap.size:=by omega
    replace OW:=zH (OW.out.flat gc (.inr (by first|(simp [Value.ownBlock];done)|(simp [Value.ownBlock];exact hne))) (fun _ h=>h))
    refine hK.out _ _ ⟨hS.1.away gc (by have:=(show w2.heap.size < w4.heap.size by omega);have:=zg;simp only [World.size_drew] at *;omega),hS.2.grown gc hS.2.size (fun k h=>by have:=Option.some.inj h;have:=zg;simp only [World.size_drew] at *;omega)⟩ (fun hS=>?_)
    clear hK K
    try simp only [pX]
    refine wpAnyH_done (by kernel_rfl) ?_ _
    have FZ:=hS.2
    go_wp2_with fail
    go_meet
    case rel=>exact ⟨_,_,rfl,BX,OW.out,hne,zg,FZ⟩
  ·go_simp
   have zg:w4.heap.size≤w4.heap.size:=hS.2.size
   have hb:Below w4.drew.heap.size w4.drew (w4.drew.alloc (.cells #[.int .i64 0,.int .i64 0,.int .i64 0,.slice none 0 0] 41)):=(Below.refl _ _).alloc (Nat.le_refl _) _
   have BZ:=zH (Blk.now w4.drew w4.heap.size 41 #[.int .i64 0,.int .i64 0,.int .i64 0,.slice none 0 0] rfl)
   refine hK.out _ _ ?_ (fun hS=>?_)
   ·exact ⟨Blk.later hS.1 hb,below_later hb hS.2⟩
   clear hK K
   try simp only [pX]
   refine wpAnyH_ready (rs:=[2]) (by kernel_rfl) (by simp) ?_
   refine AllReadyH.cons rfl (fun K hK=>?_) AllReadyH.nil
   go_simp
   refine (EL.out _).mono ?_
   rintro e wa ⟨rfl,hb⟩
   replace BZ:=zH (BZ.out.later hb)
   have zwa:=BZ.out.lt
   refine hK.out _ _ ?_ (fun hS=>?_)
   ·exact ⟨Blk.later hS.1 hb,below_later hb hS.2⟩
   clear hK K
   try simp only [pX]
   refine wpAnyH_ready (rs:=[3]) (by kernel_rfl) (by simp) ?_
   refine AllReadyH.cons rfl (fun K hK=>?_) AllReadyH.nil
   rw [if_pos (by rfl)]
   have zq:w4.heap.size≤wa.heap.size:=hS.2.size
   refine oper_make (k:=.i32) (base:=w4.heap.size) (n:=N) (.tmp 27) (.tmp 27) rfl ei_i32 .i64 .i64 rfl rfl (by omega) (by unfold maxLen;omega) zq (by decide) ?_
   intro wm own gm
   have OW:=zH (show Own (tInt .i32) wm (fun _=>False) w4.heap.size 21 (.slice (some ⟨wa.heap.size,0,none⟩) (N) (N)) (N) (List.replicate (N) 0) by first|exact own|simpa [World.size_alloc] using own)
   replace BZ:=zH (BZ.out.grown0 gm)
   refine hK.out _ _ ⟨Blk.grown0 hS.1 gm,hS.2.grown gm zq (by simp)⟩ (fun hS=>?_)
   clear hK K own gm
   try simp only [pX]
   refine tkH 4 rfl (v:=?_) (Or.inl ⟨by rfl,?_⟩) hS ?_
   rotate_left
   ·intro w hSw;(try dsimp only at hSw);go_simp;try with_reducible rfl
   try simp only [pX]
   refine wpAnyH_ready (rs:=[6]) (by kernel_rfl) (by simp) ?_
   refine AllReadyH.cons rfl (fun K hK=>?_) AllReadyH.nil
   rw [if_pos (by rfl)]
   refine oper_store_blk 41 (.tmp 8) (.tmp 29) rfl w4.heap.size 0 #[.int .i64 (Ho:Int),.int .i64 (Wo:Int),.int .i64 (C:Int),.slice (some ⟨wa.heap.size,0,none⟩) (N) (N)] rfl rfl _ #[.int .i64 0,.int .i64 0,.int .i64 0,.slice none 0 0] #[.int .i64 (Ho:Int),.int .i64 (Wo:Int),.int .i64 (C:Int),.slice (some ⟨wa.heap.size,0,none⟩) (N) (N)] BZ.out (by simp) (by kernel_rfl) (by simp [Value.oneCell']) rfl ?_
   intro wc BX gc
   have hne:wa.heap.size ≠ w4.heap.size:=by have:=zwa;omega
   replace OW:=zH (OW.out.flat gc (.inr (by first|(simp [Value.ownBlock];done)|(simp [Value.ownBlock];exact hne))) (fun _ h=>h))
   refine hK.out _ _ ⟨hS.1.away gc (by have:=(show w2.heap.size < w4.heap.size by omega);have:=zg;simp only [World.size_drew] at *;omega),hS.2.grown gc hS.2.size (fun k h=>by have:=Option.some.inj h;have:=zg;simp only [World.size_drew] at *;omega)⟩ (fun hS=>?_)
   clear hK K
   try simp only [pX]
   refine wpAnyH_done (by kernel_rfl) ?_ _
   have FZ:=hS.2
   go_wp2_with fail
   go_meet
   case rel=>exact ⟨_,_,rfl,BX,OW.out,hne,zg,FZ⟩
 case rest =>
  obtain ⟨g,q,rfl,bg,own,hqg,zg,b4⟩:=hcut
  obtain ⟨w5,rfl⟩:∃ x,x=wc:=⟨_,rfl⟩
  have BG:=zH bg
  have l45:=b4.size
  have lq:w4.heap.size≤q∧q < w5.heap.size:=own.lt _ rfl
  have lg5:=bg.lt
  replace FR:=zH (FR.out.fut b4)
  replace BA:=zH (BA.out.fut b4)
  replace BB:=zH (BB.out.fut b4)
  replace BC:=zH (BC.out.fut b4)
  replace BD:=zH (BD.out.fut b4)
  clear b4
  rw [← filling_zero 0 (depthF t d Wo C) N] at own
  have ON:=zH own
  have NQ:=zH (show q ≠ g∧w4.heap.size≤q∧q < w5.heap.size∧w4.heap.size≤g∧g < w5.heap.size∧w2.heap.size < w4.heap.size∧w.heap.size+1+1 < w2.heap.size by refine ⟨hqg,?_,?_,?_,?_,?_,?_⟩ <;> omega)
  have bg3:=BG.out.cell 3
  clear bg own hqg zg l45 lq lg5
  go_wp2_with fail
  clear bg3
  go_loopw [33] (fun ii wr=>∃ k:Nat,k≤N∧ii=.int .i64 k∧Far w wr∧Blk wr w.heap.size 32 #[.int .i64 t.h,.int .i64 t.v,.int .i64 t.c,.slice A n cap]∧Blk wr (w.heap.size+1) 28 #[.int .i64 d.kind,.int .i64 d.a,.int .i64 d.b,.int .i64 d.k,.int .i64 d.s,.int .i64 d.p,.int .i64 d.out,.int .i8 d.za,.int .i8 d.zb,.slice W nw cw,.slice B nb cb,.int .i32 d.qm,.int .i64 d.qs,.int .i8 d.qz,.int .i32 d.rm,.int .i64 d.rs,.int .i8 d.rz,.int .i8 d.lo,.int .i8 d.hi]∧Blk wr (w.heap.size+1+1) 41 #[.int .i64 0,.int .i64 0,.int .i64 0,.slice none 0 0]∧Blk wr w2.heap.size 30 #[.int .i64 (Ho:Int),.int .i64 (Wo:Int),.int .i64 (C:Int)]∧Blk wr g 41 #[.int .i64 (Ho:Int),.int .i64 (Wo:Int),.int .i64 (C:Int),.slice (some ⟨q,0,none⟩) N N]∧Own (tInt .i32) wr (fun _=>False) w4.heap.size 21 (.slice (some ⟨q,0,none⟩) N N) N (filling 0 (depthF t d Wo C) N (k))) (fun ii _=>N - (intOf ii).toNat)
  case atStart=>exact ⟨0,Nat.zero_le _,rfl,FR.out,BA.out,BB.out,BC.out,BD.out,BG.out,ON.out⟩
  case round =>
   obtain ⟨k,hk,rfl,f0,f1,f2,f3,f4,f5,f6⟩:=hrel
   clear FR BA BB BC BD BG ON
   have FR:=zH f0
   have BA:=zH f1
   have BB:=zH f2
   have BC:=zH f3
   have BD:=zH f4
   have BG:=zH f5
   have ON:=zH f6
   clear f0 f1 f2 f3 f4 f5 f6
   by_cases hlt:k < N
   ·have p1:(k:Int) < (N:Int):=by omega
    go_wp2_with fail
    obtain ⟨v1,v2,v3⟩:=div_bounds (i:=k) (Ho:=Ho) (Wo:=Wo) (Co:=C) (by rw [NE.out];exact hlt)
    have FK:=zH (FV.out k)
    obtain ⟨kc,hkc⟩:∃ m,k % C=m:=⟨_,rfl⟩
    obtain ⟨kq,hkq⟩:∃ m,k / C=m:=⟨_,rfl⟩
    rw [hkc,hkq] at FK
    rw [hkq] at v2 v3
    rw [hkc] at v1
    obtain ⟨ky,hky⟩:∃ m,kq / Wo=m:=⟨_,rfl⟩
    obtain ⟨kx,hkx⟩:∃ m,kq % Wo=m:=⟨_,rfl⟩
    rw [hky,hkx] at FK
    rw [hky] at v2
    rw [hkx] at v3
    have d1:(k:Int).tdiv (C:Int)=(kq:Int):=by rw [← hkq,Int.tdiv_eq_ediv_of_nonneg (by omega)];simp
    have d2:(k:Int).tmod (C:Int)=(kc:Int):=by rw [← hkc,Int.tmod_eq_emod_of_nonneg (by omega)];simp
    have d3:(kq:Int).tdiv (Wo:Int)=(ky:Int):=by rw [← hky,Int.tdiv_eq_ediv_of_nonneg (by omega)];simp
    have d4:(kq:Int).tmod (Wo:Int)=(kx:Int):=by rw [← hkx,Int.tmod_eq_emod_of_nonneg (by omega)];simp
    have kqb:kq≤1024:=by rw [← hkq];exact Nat.le_trans (Nat.div_le_self _ _) (by omega)
    have g1:IntKind.i64.wrap (kq:Int)=(kq:Int):=IntWalk.i64_in _ (by omega)
    have g2:IntKind.i64.wrap (kc:Int)=(kc:Int):=IntWalk.i64_in _ (by omega)
    have g3:IntKind.i64.wrap (ky:Int)=(ky:Int):=IntWalk.i64_in _ (by omega)
    have g4:IntKind.i64.wrap (kx:Int)=(kx:Int):=IntWalk.i64_in _ (by omega)
    obtain ⟨res,hres⟩:∃ m,wrap32 (d.bias.getD kc 0+depthN H V C t.data d.za d.w K S P kc ky kx)=m:=⟨_,rfl⟩
    rw [hres] at FK
    have CALL:=zH (fun wq (hb:Below w.heap.size w wq)=>DS.out ky kx kc (by omega) (by omega) v1 wq ((Old.now HA.out).fut hb).all ((Old.now HW.out).fut hb).all ((Old.now HB.out).fut hb).all)
    rw [hres] at CALL
    have RE:=zH (show InK .i32 res by rw [inK_i32,← hres];exact wrap32_in _)
    have KB:=zH (show k < N from hlt)
    have fd:Below w.heap.size w wr.drew:=FR.out.out.drew
    clear hkc hkq hky hkx hres v1 v2 v3 kqb
    refine wp_region_T (fun w'=>w'.cell? ⟨w2.heap.size,1,none⟩=some (.int .i64 (Wo:Int))∧w'.cell? ⟨w2.heap.size,2,none⟩=some (.int .i64 (C:Int))∧w'.cell? ⟨g,3,none⟩=some (.slice (some ⟨q,0,none⟩) N N)∧Blk w' w.heap.size 32 #[.int .i64 t.h,.int .i64 t.v,.int .i64 t.c,.slice A n cap]∧Blk w' (w.heap.size+1) 28 #[.int .i64 d.kind,.int .i64 d.a,.int .i64 d.b,.int .i64 d.k,.int .i64 d.s,.int .i64 d.p,.int .i64 d.out,.int .i8 d.za,.int .i8 d.zb,.slice W nw cw,.slice B nb cb,.int .i32 d.qm,.int .i64 d.qs,.int .i8 d.qz,.int .i32 d.rm,.int .i64 d.rs,.int .i8 d.rz,.int .i8 d.lo,.int .i8 d.hi]∧Below wr.drew.heap.size wr.drew w') 24 (by kernel_rfl) ?_ (fun hS=>?_)
    ·exact ⟨BD.out.drew.cell 1,BD.out.drew.cell 2,BG.out.drew.cell 3,BA.out.drew,BB.out.drew,Below.refl _ _⟩
    refine tkT 0 rfl (v:=?_) (Or.inl ⟨by rfl,?_⟩) hS ?_
    rotate_left
    ·intro w hSw;(try dsimp only at hSw);go_simp;try with_reducible rfl
    try simp only [pX]
    refine tkT 1 rfl (v:=?_) (Or.inl ⟨by rfl,?_⟩) hS ?_
    rotate_left
    ·intro w hSw;(try dsimp only at hSw);go_simp;try with_reducible rfl
    try simp only [pX]
    refine tkT 2 rfl (v:=?_) (Or.inl ⟨by rfl,?_⟩) hS ?_
    rotate_left
    ·intro w hSw;(try dsimp only at hSw);go_simp;try with_reducible rfl
    try simp only [pX]
    refine tkT 3 rfl (yieldsIf_load_blk (by rfl) 32 (.tmp 2) rfl w.heap.size 0 rfl _ _ #[.int .i64 t.h,.int .i64 t.v,.int .i64 t.c,.slice A n cap] _ (fun w hs=>hs.2.2.2.1) Tryz.underlying32 rfl (by kernel_rfl) rfl) hS ?_
    try simp only [pX]
    refine tkT 4 rfl (yieldsIf_load_blk (by rfl) 28 (.tmp 3) rfl (w.heap.size+1) 0 rfl _ _ #[.int .i64 d.kind,.int .i64 d.a,.int .i64 d.b,.int .i64 d.k,.int .i64 d.s,.int .i64 d.p,.int .i64 d.out,.int .i8 d.za,.int .i8 d.zb,.slice W nw cw,.slice B nb cb,.int .i32 d.qm,.int .i64 d.qs,.int .i8 d.qz,.int .i32 d.rm,.int .i64 d.rs,.int .i8 d.rz,.int .i8 d.lo,.int .i8 d.hi] _ (fun w hs=>hs.2.2.2.2.1) Tryz.underlying28 rfl (by kernel_rfl) rfl) hS ?_
    try simp only [pX]
    refine tkT 5 rfl (v:=?_) (Or.inl ⟨by rfl,?_⟩) hS ?_
    rotate_left
    ·intro w hSw;(try dsimp only at hSw);go_simp;try with_reducible rfl
    try simp only [pX]
    refine tkT 6 rfl (v:=?_) (Or.inl ⟨by rfl,?_⟩) hS ?_
    rotate_left
    ·intro w hSw;(try dsimp only at hSw);go_simp;try with_reducible rfl
    try simp only [pX]
    refine tkT 7 rfl (v:=?_) (Or.inl ⟨by rfl,?_⟩) hS ?_
    rotate_left
    ·intro w hSw;(try dsimp only at hSw);go_simp;try with_reducible rfl
    try simp only [pX]
    refine tkT 8 rfl (v:=?_) (Or.inl ⟨by rfl,?_⟩) hS ?_
    rotate_left
    ·intro w hSw;(try dsimp only at hSw);go_simp;try with_reducible rfl
    try simp only [pX]
    refine tkT 9 rfl (v:=?_) (Or.inl ⟨by rfl,?_⟩) hS ?_
    rotate_left
    ·intro w hSw;(try dsimp only at hSw);go_simp;try with_reducible rfl
    try simp only [pX]
    refine tkT 10 rfl (v:=?_) (Or.inl ⟨by rfl,?_⟩) hS ?_
    rotate_left
    ·intro w hSw;(try dsimp only at hSw);go_simp;try with_reducible rfl
    try simp only [pX]
    refine tkT 11 rfl (v:=?_) (Or.inl ⟨by rfl,?_⟩) hS ?_
    rotate_left
    ·intro w hSw;(try dsimp only at hSw);go_simp;try with_reducible rfl
    try simp only [pX]
    refine tkT 12 rfl (v:=?_) (Or.inl ⟨by rfl,?_⟩) hS ?_
    rotate_left
    ·intro w hSw;(try dsimp only at hSw);go_simp;try with_reducible rfl
    try simp only [pX]
    refine tkT 13 rfl (v:=?_) (Or.inl ⟨by rfl,?_⟩) hS ?_
    rotate_left
    ·intro w hSw;(try dsimp only at hSw);go_simp;try with_reducible rfl
    try simp only [pX]
    refine tkT 14 rfl (v:=?_) (Or.inl ⟨by rfl,?_⟩) hS ?_
    rotate_left
    ·intro w hSw;(try dsimp only at hSw);go_simp;try with_reducible rfl
    try simp only [pX]
    refine tkT 15 rfl (v:=?_) (Or.inl ⟨by rfl,?_⟩) hS ?_
    rotate_left
    ·intro w hSw;(try dsimp only at hSw);go_simp;try with_reducible rfl
    try simp only [pX]
    refine tkT 16 rfl (v:=?_) (Or.inl ⟨by rfl,?_⟩) hS ?_
    rotate_left
    ·intro w hSw;(try dsimp only at hSw);go_simp;try with_reducible rfl
    try simp only [pX]
    refine tkT 17 rfl (v:=?_) (Or.inl ⟨by rfl,?_⟩) hS ?_
    rotate_left
    ·intro w hSw;(try dsimp only at hSw);go_simp;try with_reducible rfl
    try simp only [pX]
    refine tkT 18 rfl (v:=?_) (Or.inl ⟨by rfl,?_⟩) hS ?_
    rotate_left
    ·intro w hSw;(try dsimp only at hSw);go_simp;try with_reducible rfl
    try simp only [pX]
    refine tkT 19 rfl (v:=?_) (Or.inl ⟨by rfl,?_⟩) hS ?_
    rotate_left
    ·intro w hSw;(try dsimp only at hSw);go_simp;try with_reducible rfl
    try simp only [pX]
    refine tkT 20 rfl (v:=?_) (Or.inl ⟨by rfl,?_⟩) hS ?_
    rotate_left
    ·intro w hSw;(try dsimp only at hSw);go_simp;try with_reducible rfl
    try simp only [pX]
    refine tkT 21 rfl (v:=?_) (Or.inl ⟨by rfl,?_⟩) hS ?_
    rotate_left
    ·intro w hSw;(try dsimp only at hSw);go_simp;try with_reducible rfl
    try simp only [pX]
    refine tkT 22 rfl (v:=?_) (Or.inl ⟨by rfl,?_⟩) hS ?_
    rotate_left
    ·intro w hSw;(try dsimp only at hSw);go_simp;try with_reducible rfl
    try simp only [pX]
    refine wpAnyT_one (i:=23) (by kernel_rfl) rfl rfl (fun K hK=>?_)
    go_simp
    (refine (CALL.out _ fd).mono ?_;rintro e wm ⟨rfl,hb⟩)
    refine hK.out _ _ ?_ (fun hS=>?_)
    ·exact ⟨(by first|exact cell_later hb hS.1|exact Blk.later hS.1 hb),(by first|exact cell_later hb hS.2.1|exact Blk.later hS.2.1 hb),(by first|exact cell_later hb hS.2.2.1|exact Blk.later hS.2.2.1 hb),(by first|exact cell_later hb hS.2.2.2.1|exact Blk.later hS.2.2.2.1 hb),(by first|exact cell_later hb hS.2.2.2.2.1|exact Blk.later hS.2.2.2.2.1 hb),(by first|exact below_later hb hS.2.2.2.2.2|exact grown_below hS.2.2.2.2.2 hb)⟩
    clear hK K
    try simp only [pX]
    refine wpAnyT_tail _ _ rfl rfl (by kernel_rfl) ?_
    have kd:=(show Below wr.heap.size wr wr.drew from (Below.refl _ _).drew).trans hb
    replace ON:=zH (ON.out.below kd (Nat.le_refl _) (fun _ h=>h.elim))
    replace FR:=zH (FR.out.fut kd)
    replace BA:=zH (BA.out.fut kd)
    replace BB:=zH (BB.out.fut kd)
    replace BC:=zH (BC.out.fut kd)
    replace BD:=zH (BD.out.fut kd)
    replace BG:=zH (BG.out.fut kd)
    clear hS hb kd fd
    obtain ⟨x1,u1,-,-,c5,c6,c7,-⟩:=ON.out.cell rfl k hlt
    go_wp2_with fail
    obtain ⟨o3,g3⟩:=ON.out.set1 rfl k (.int .i32 res) res ⟨rfl,RE.out⟩ (fun _ h=>h.elim)
    have FS:=filling_set 0 (depthF t d Wo C) N k KB.out
    rw [FK.out] at FS
    rw [FS] at o3
    obtain ⟨nq1,nq2,nq3,nq4,nq5,nq6,nq7⟩:=NQ.out
    exact ⟨⟨k+1,by omega,by go_num,FR.out.away g3 (by omega),BA.out.away g3 (.inl (by omega)),BB.out.away g3 (.inl (by omega)),BC.out.away g3 (.inl (by omega)),BD.out.away g3 (.inl (by omega)),BG.out.away g3 (by omega),o3⟩,by simp [intOf];omega⟩
   ·obtain rfl:k=N:=by omega
    go_wp2_with (first|(refine lB 41 (.tmp 8) g BG.out Tryz.underlying41 ?_)|(refine sB 41 (.tmp 4) (.tmp 62) (w.heap.size+1+1) #[.int .i64 (Ho:Int),.int .i64 (Wo:Int),.int .i64 (C:Int),.slice (some ⟨q,0,none⟩) k k] BC.out ?_;intro w9 B9 g9))
    have e1:=ON.out
    rw [filling_all] at e1
    have e2:=e1.flat g9 (.inr (by have:=NQ.out;simp [Value.ownBlock];omega)) (fun _ h=>h)
    refine ret_cell_tmp rfl B9 rfl Tryz.underlying41 (by kernel_rfl) rfl ?_
    have FE:=FR.out.away g9 (by omega)
    obtain ⟨A2,c2,hv,s⟩:=e2.sl (S':=bin w.heap.size _) (by decide) (fun b h1 h2=>⟨by omega,h2⟩) (fun b h=>h.elim)
    injection hv with hv1 hv2 hv3
    subst hv1 hv3
    exact ⟨_,_,_,rfl,s,FE.out⟩
end Go.Proofs.YtlbkekabmpienaaGreat
namespace Go.Proofs.YtlbkekabmpienaaGreat
set_option linter.unusedVariables false
set_option linter.unusedSimpArgs false
open Go.RowKit Go.ChangeShapes Go.WideShapes
set_option maxRecDepth 100000
set_option maxHeartbeats 8000000 in
theorem plain_8 (a b k s p out za zb qm qs qz rm rs rz lo hi:Int) (wl bl:List Int) (W:Option Addr) (nw cw:Nat) (B:Option Addr) (nb cb:Nat) (w:World) (hw:Sl (tInt .i8) w (blo w.heap.size) W nw cw wl) (hb:Sl (tInt .i32) w (blo w.heap.size) B nb cb bl) (mw:nw≤1048576) (mb:nb≤1048576) :
  Calls Tryz.prog 48 #[.agg #[.int .i64 8,.int .i64 a,.int .i64 b,.int .i64 k,.int .i64 s,.int .i64 p,.int .i64 out,.int .i8 za,.int .i8 zb,.slice W nw cw,.slice B nb cb,.int .i32 qm,.int .i64 qs,.int .i8 qz,.int .i32 rm,.int .i64 rs,.int .i8 rz,.int .i8 lo,.int .i8 hi]] w (RetNode ⟨8,a,0,0,0,p,0,za,0,[],[],0,0,0,0,0,0,0,0⟩ w):=by
 have HW:=zH (Old.now hw)
 have HB:=zH (Old.now hb)
 clear hw hb
 have SC:=zH (fun w=>scaledK_any 8 w)
 rw [show scaledK 8=false from rfl] at SC
 have NM:=zH (fun w=>kname_any 8 w)
 have FR:=zH (Far.refl w)
 obtain ⟨w1,hw_w1,BN,k_w1⟩:=nB w #[.int .i64 8,.int .i64 a,.int .i64 b,.int .i64 k,.int .i64 s,.int .i64 p,.int .i64 out,.int .i8 za,.int .i8 zb,.slice W nw cw,.slice B nb cb,.int .i32 qm,.int .i64 qs,.int .i8 qz,.int .i32 rm,.int .i64 rs,.int .i8 rz,.int .i8 lo,.int .i8 hi] 28
 replace FR:=zH (FR.out.fut k_w1)
 replace HW:=zH (HW.out.fut k_w1)
 replace HB:=zH (HB.out.fut k_w1)
 clear k_w1
 obtain ⟨w2,hw_w2,BR,k_w2⟩:=nB w1 #[.int .i64 0,.int .i64 0,.int .i64 0,.int .i64 0,.int .i64 0,.int .i64 0,.int .i64 0,.int .i8 0,.int .i8 0,.slice none 0 0,.slice none 0 0,.int .i32 0,.int .i64 0,.int .i8 0,.int .i32 0,.int .i64 0,.int .i8 0,.int .i8 0,.int .i8 0] 28
 replace FR:=zH (FR.out.fut k_w2)
 replace HW:=zH (HW.out.fut k_w2)
 replace HB:=zH (HB.out.fut k_w2)
 replace BN:=zH (BN.out.fut k_w2)
 clear k_w2
 have cN0:=BN.out.cell 0
 have cN1:=BN.out.cell 1
 go_enter Tryz.func48,Tryz.ntmps48
 go_wp2_with fail
 have lr0:=zH (show w.heap.size≤w1.heap.size by rw [← hw_w1];simp)
 clear hw_w1 hw_w2
 refine (NM.out _).mono ?_
 rintro e w3 ⟨rfl,hb⟩
 have tn:(nameOf 8).toList.isEmpty=false:=by rw [ByteArray.toList_eq];rfl
 clear cN0 cN1
 replace FR:=zH (FR.out.fut hb)
 replace HW:=zH (HW.out.fut hb)
 replace HB:=zH (HB.out.fut hb)
 replace BN:=zH (BN.out.fut hb)
 replace BR:=zH (BR.out.fut hb)
 clear hb
 have ln:w.heap.size < w3.heap.size:=BN.out.lt
 have lr:w1.heap.size < w3.heap.size:=BR.out.lt
 have cN0:=BN.out.cell 0
 have cN1:=BN.out.cell 1
 obtain ⟨w4,hw_w4,BM,k_w4⟩:=nB w3 #[.int .i64 0,.int .i64 0,.int .i64 0,.int .i64 0,.int .i64 0,.int .i64 0,.int .i64 0,.int .i8 0,.int .i8 0,.slice none 0 0,.slice none 0 0,.int .i32 0,.int .i64 0,.int .i8 0,.int .i32 0,.int .i64 0,.int .i8 0,.int .i8 0,.int .i8 0] 28
 replace FR:=zH (FR.out.fut k_w4)
 replace HW:=zH (HW.out.fut k_w4)
 replace HB:=zH (HB.out.fut k_w4)
 replace BN:=zH (BN.out.fut k_w4)
 replace BR:=zH (BR.out.fut k_w4)
 clear k_w4
 go_wp2_with (refine wpList_store_all rfl 28 (.tmp 3) (.tmp 13) rfl w3.heap.size #[.int .i64 8,.int .i64 a,.int .i64 0,.int .i64 0,.int .i64 0,.int .i64 0,.int .i64 0,.int .i8 0,.int .i8 0,.slice none 0 0,.slice none 0 0,.int .i32 0,.int .i64 0,.int .i8 0,.int .i32 0,.int .i64 0,.int .i8 0,.int .i8 0,.int .i8 0] rfl rfl _ _ BM.out rfl (by kernel_rfl) (by simp [Value.oneCell']) ?_;intro w5 BM5 g5;have cM0:=(BN.out.away g5 (by omega)).cell 0)
 clear hw_w4 cM0
 clear cN0 cN1
 replace FR:=zH (FR.out.away g5 (by omega))
 replace HW:=zH (HW.out.away g5 (by omega))
 replace HB:=zH (HB.out.away g5 (by omega))
 replace BN:=zH (BN.out.away g5 (by omega))
 replace BR:=zH (BR.out.away g5 (by omega))
 clear g5
 refine wp_region_held_drew (S:=fun w'=>w'.cell? ⟨w.heap.size,5,none⟩=some (.int .i64 p)∧w'.cell? ⟨w.heap.size,7,none⟩=some (.int .i8 za)∧Blk w' w.heap.size 28 #[.int .i64 8,.int .i64 a,.int .i64 b,.int .i64 k,.int .i64 s,.int .i64 p,.int .i64 out,.int .i8 za,.int .i8 zb,.slice W nw cw,.slice B nb cb,.int .i32 qm,.int .i64 qs,.int .i8 qz,.int .i32 rm,.int .i64 rs,.int .i8 rz,.int .i8 lo,.int .i8 hi]∧Below w.heap.size w w') (by kernel_rfl) ?_ (fun hS=>?_)
 ·exact ⟨BN.out.drew.cell 5,BN.out.drew.cell 7,BN.out.drew,FR.out.out.drew⟩
 refine tkH 0 rfl (v:=?_) (Or.inl ⟨by rfl,?_⟩) hS ?_
 rotate_left
 ·intro w hSw;(try dsimp only at hSw);go_simp;try with_reducible rfl
 try simp only [pX]
 refine tkH 1 rfl (v:=?_) (Or.inl ⟨by rfl,?_⟩) hS ?_
 rotate_left
 ·intro w hSw;(try dsimp only at hSw);go_simp;try with_reducible rfl
 try simp only [pX]
 refine tkH 2 rfl (v:=?_) (Or.inl ⟨by rfl,?_⟩) hS ?_
 rotate_left
 ·intro w hSw;(try dsimp only at hSw);go_simp;try with_reducible rfl
 try simp only [pX]
 refine tkH 3 rfl (v:=?_) (Or.inl ⟨by rfl,?_⟩) hS ?_
 rotate_left
 ·intro w hSw;(try dsimp only at hSw);go_simp;try with_reducible rfl
 try simp only [pX]
 refine tkH 4 rfl (v:=?_) (Or.inl ⟨by rfl,?_⟩) hS ?_
 rotate_left
 ·intro w hSw;(try dsimp only at hSw);go_simp;try with_reducible rfl
 try simp only [pX]
 refine wpAnyH_ready (rs:=[5]) (by kernel_rfl) (by simp) ?_
 refine AllReadyH.cons rfl (fun K hK=>?_) AllReadyH.nil
 (rw [if_pos (by rfl)];refine oper_store_one 3 (.tmp 78) (.tmp 75) rfl w3.heap.size 5 (.int .i64 p) rfl rfl rfl rfl _ #[.int .i64 8,.int .i64 a,.int .i64 0,.int .i64 0,.int .i64 0,.int .i64 0,.int .i64 0,.int .i8 0,.int .i8 0,.slice none 0 0,.slice none 0 0,.int .i32 0,.int .i64 0,.int .i8 0,.int .i32 0,.int .i64 0,.int .i8 0,.int .i8 0,.int .i8 0] #[.int .i64 8,.int .i64 a,.int .i64 0,.int .i64 0,.int .i64 0,.int .i64 p,.int .i64 0,.int .i8 0,.int .i8 0,.slice none 0 0,.slice none 0 0,.int .i32 0,.int .i64 0,.int .i8 0,.int .i32 0,.int .i64 0,.int .i8 0,.int .i8 0,.int .i8 0] BM5.drew (by simp) (by kernel_rfl) rfl ?_;intro w6 BM6 g6;have BN6:=(hS.2.2.1).away g6 (by omega);refine hK.out _ _ ⟨BN6.cell 5,BN6.cell 7,BN6,(hS.2.2.2).grown g6 (hS.2.2.2).size (fun k h=>by have:=Option.some.inj h;omega)⟩ (fun hS=>?_))
 clear hK K
 try simp only [pX]
 refine tkH 6 rfl (v:=?_) (Or.inl ⟨by rfl,?_⟩) hS ?_
 rotate_left
 ·intro w hSw;(try dsimp only at hSw);go_simp;try with_reducible rfl
 try simp only [pX]
 refine wpAnyH_ready (rs:=[7]) (by kernel_rfl) (by simp) ?_
 refine AllReadyH.cons rfl (fun K hK=>?_) AllReadyH.nil
 (rw [if_pos (by rfl)];refine oper_store_one 22 (.tmp 79) (.tmp 77) rfl w3.heap.size 7 (.int .i8 za) rfl rfl rfl rfl _ #[.int .i64 8,.int .i64 a,.int .i64 0,.int .i64 0,.int .i64 0,.int .i64 p,.int .i64 0,.int .i8 0,.int .i8 0,.slice none 0 0,.slice none 0 0,.int .i32 0,.int .i64 0,.int .i8 0,.int .i32 0,.int .i64 0,.int .i8 0,.int .i8 0,.int .i8 0] #[.int .i64 8,.int .i64 a,.int .i64 0,.int .i64 0,.int .i64 0,.int .i64 p,.int .i64 0,.int .i8 za,.int .i8 0,.slice none 0 0,.slice none 0 0,.int .i32 0,.int .i64 0,.int .i8 0,.int .i32 0,.int .i64 0,.int .i8 0,.int .i8 0,.int .i8 0] BM6 (by simp) (by kernel_rfl) rfl ?_;intro w7 BM7 g7;have BN7:=(hS.2.2.1).away g7 (by omega);refine hK.out _ _ ⟨BN7.cell 5,BN7.cell 7,BN7,(hS.2.2.2).grown g7 (hS.2.2.2).size (fun k h=>by have:=Option.some.inj h;omega)⟩ (fun hS=>?_))
 clear hK K
 try simp only [pX]
 refine wpAnyH_done (by kernel_rfl) ?_ _
 replace FR:=zH (Far.mk (hS.2.2.2))
 replace BN:=zH (hS.2.2.1)
 clear hS BN6 BN7
 replace HW:=zH (HW.out.draw)
 replace HB:=zH (HB.out.draw)
 replace BR:=zH (BR.out.draw)
 replace HW:=zH (HW.out.away g6 (by omega))
 replace HB:=zH (HB.out.away g6 (by omega))
 replace BR:=zH (BR.out.away g6 (by omega))
 clear g6
 replace HW:=zH (HW.out.away g7 (by omega))
 replace HB:=zH (HB.out.away g7 (by omega))
 replace BR:=zH (BR.out.away g7 (by omega))
 clear g7
 clear BM6
 have cN0:=BN.out.cell 0
 go_wp2_with (first
  | (go_at_call 49;refine (SC.out _).mono ?_;rintro e w' ⟨rfl,rfl⟩)
  | (refine wpList_load_row rfl 28 (.tmp 3) rfl w3.heap.size rfl _ _ (0,0) _ BM7.heap Tryz.underlying28 rfl (by kernel_rfl) ?_)
  | (refine wpList_store_all rfl 28 (.tmp 2) (.tmp 95) rfl w1.heap.size #[.int .i64 8,.int .i64 a,.int .i64 0,.int .i64 0,.int .i64 0,.int .i64 p,.int .i64 0,.int .i8 za,.int .i8 0,.slice none 0 0,.slice none 0 0,.int .i32 0,.int .i64 0,.int .i8 0,.int .i32 0,.int .i64 0,.int .i8 0,.int .i8 0,.int .i8 0] rfl rfl _ _ BR.out rfl (by kernel_rfl) (by simp [Value.oneCell']) ?_;intro wz BZ gz))
 clear cN0
 replace FR:=zH (FR.out.away gz (by have:=lr0.out;omega))
 refine ret_cell rfl BZ rfl Tryz.underlying28 (by kernel_rfl) rfl ⟨none,0,0,none,0,0,rfl,Sl.nil _ _ _,Sl.nil _ _ _,FR.out.out⟩
set_option maxHeartbeats 8000000 in
theorem plain_9 (a b k s p out za zb qm qs qz rm rs rz lo hi:Int) (wl bl:List Int) (W:Option Addr) (nw cw:Nat) (B:Option Addr) (nb cb:Nat) (w:World) (hw:Sl (tInt .i8) w (blo w.heap.size) W nw cw wl) (hb:Sl (tInt .i32) w (blo w.heap.size) B nb cb bl) (mw:nw≤1048576) (mb:nb≤1048576) :
  Calls Tryz.prog 48 #[.agg #[.int .i64 9,.int .i64 a,.int .i64 b,.int .i64 k,.int .i64 s,.int .i64 p,.int .i64 out,.int .i8 za,.int .i8 zb,.slice W nw cw,.slice B nb cb,.int .i32 qm,.int .i64 qs,.int .i8 qz,.int .i32 rm,.int .i64 rs,.int .i8 rz,.int .i8 lo,.int .i8 hi]] w (RetNode ⟨9,a,0,0,0,0,0,0,0,[],[],0,0,0,0,0,0,0,0⟩ w):=by
 have HW:=zH (Old.now hw)
 have HB:=zH (Old.now hb)
 clear hw hb
 have SC:=zH (fun w=>scaledK_any 9 w)
 rw [show scaledK 9=false from rfl] at SC
 have NM:=zH (fun w=>kname_any 9 w)
 have FR:=zH (Far.refl w)
 obtain ⟨w1,hw_w1,BN,k_w1⟩:=nB w #[.int .i64 9,.int .i64 a,.int .i64 b,.int .i64 k,.int .i64 s,.int .i64 p,.int .i64 out,.int .i8 za,.int .i8 zb,.slice W nw cw,.slice B nb cb,.int .i32 qm,.int .i64 qs,.int .i8 qz,.int .i32 rm,.int .i64 rs,.int .i8 rz,.int .i8 lo,.int .i8 hi] 28
 replace FR:=zH (FR.out.fut k_w1)
 replace HW:=zH (HW.out.fut k_w1)
 replace HB:=zH (HB.out.fut k_w1)
 clear k_w1
 obtain ⟨w2,hw_w2,BR,k_w2⟩:=nB w1 #[.int .i64 0,.int .i64 0,.int .i64 0,.int .i64 0,.int .i64 0,.int .i64 0,.int .i64 0,.int .i8 0,.int .i8 0,.slice none 0 0,.slice none 0 0,.int .i32 0,.int .i64 0,.int .i8 0,.int .i32 0,.int .i64 0,.int .i8 0,.int .i8 0,.int .i8 0] 28
 replace FR:=zH (FR.out.fut k_w2)
 replace HW:=zH (HW.out.fut k_w2)
 replace HB:=zH (HB.out.fut k_w2)
 replace BN:=zH (BN.out.fut k_w2)
 clear k_w2
 have cN0:=BN.out.cell 0
 have cN1:=BN.out.cell 1
 go_enter Tryz.func48,Tryz.ntmps48
 go_wp2_with fail
 have lr0:=zH (show w.heap.size≤w1.heap.size by rw [← hw_w1];simp)
 clear hw_w1 hw_w2
 refine (NM.out _).mono ?_
 rintro e w3 ⟨rfl,hb⟩
 have tn:(nameOf 9).toList.isEmpty=false:=by rw [ByteArray.toList_eq];rfl
 clear cN0 cN1
 replace FR:=zH (FR.out.fut hb)
 replace HW:=zH (HW.out.fut hb)
 replace HB:=zH (HB.out.fut hb)
 replace BN:=zH (BN.out.fut hb)
 replace BR:=zH (BR.out.fut hb)
 clear hb
 have ln:w.heap.size < w3.heap.size:=BN.out.lt
 have lr:w1.heap.size < w3.heap.size:=BR.out.lt
 have cN0:=BN.out.cell 0
 have cN1:=BN.out.cell 1
 obtain ⟨w4,hw_w4,BM,k_w4⟩:=nB w3 #[.int .i64 0,.int .i64 0,.int .i64 0,.int .i64 0,.int .i64 0,.int .i64 0,.int .i64 0,.int .i8 0,.int .i8 0,.slice none 0 0,.slice none 0 0,.int .i32 0,.int .i64 0,.int .i8 0,.int .i32 0,.int .i64 0,.int .i8 0,.int .i8 0,.int .i8 0] 28
 replace FR:=zH (FR.out.fut k_w4)
 replace HW:=zH (HW.out.fut k_w4)
 replace HB:=zH (HB.out.fut k_w4)
 replace BN:=zH (BN.out.fut k_w4)
 replace BR:=zH (BR.out.fut k_w4)
 clear k_w4
 go_wp2_with (refine wpList_store_all rfl 28 (.tmp 3) (.tmp 13) rfl w3.heap.size #[.int .i64 9,.int .i64 a,.int .i64 0,.int .i64 0,.int .i64 0,.int .i64 0,.int .i64 0,.int .i8 0,.int .i8 0,.slice none 0 0,.slice none 0 0,.int .i32 0,.int .i64 0,.int .i8 0,.int .i32 0,.int .i64 0,.int .i8 0,.int .i8 0,.int .i8 0] rfl rfl _ _ BM.out rfl (by kernel_rfl) (by simp [Value.oneCell']) ?_;intro w5 BM5 g5;have cM0:=(BN.out.away g5 (by omega)).cell 0)
 clear hw_w4 cM0
 clear cN0 cN1
 replace FR:=zH (FR.out.away g5 (by omega))
 replace HW:=zH (HW.out.away g5 (by omega))
 replace HB:=zH (HB.out.away g5 (by omega))
 replace BN:=zH (BN.out.away g5 (by omega))
 replace BR:=zH (BR.out.away g5 (by omega))
 clear g5
 have cN0:=BN.out.cell 0
 go_wp2_with (first
  | (go_at_call 49;refine (SC.out _).mono ?_;rintro e w' ⟨rfl,rfl⟩)
  | (refine wpList_load_row rfl 28 (.tmp 3) rfl w3.heap.size rfl _ _ (0,0) _ BM5.heap Tryz.underlying28 rfl (by kernel_rfl) ?_)
  | (refine wpList_store_all rfl 28 (.tmp 2) (.tmp 95) rfl w1.heap.size #[.int .i64 9,.int .i64 a,.int .i64 0,.int .i64 0,.int .i64 0,.int .i64 0,.int .i64 0,.int .i8 0,.int .i8 0,.slice none 0 0,.slice none 0 0,.int .i32 0,.int .i64 0,.int .i8 0,.int .i32 0,.int .i64 0,.int .i8 0,.int .i8 0,.int .i8 0] rfl rfl _ _ BR.out rfl (by kernel_rfl) (by simp [Value.oneCell']) ?_;intro wz BZ gz))
 clear cN0
 replace FR:=zH (FR.out.away gz (by have:=lr0.out;omega))
 refine ret_cell rfl BZ rfl Tryz.underlying28 (by kernel_rfl) rfl ⟨none,0,0,none,0,0,rfl,Sl.nil _ _ _,Sl.nil _ _ _,FR.out.out⟩
end Go.Proofs.YtlbkekabmpienaaGreat
