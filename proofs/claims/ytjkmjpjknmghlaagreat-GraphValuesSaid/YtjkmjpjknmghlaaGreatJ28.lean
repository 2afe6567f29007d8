/-
  Windows as rows (layer 12): patch.Of where all is right.
-/
import Derived.Test.YtjkmjpjknmghlaaGreatJ26
set_option linter.unusedVariables false
set_option linter.unusedSimpArgs false
namespace Go.Proofs.YtjkmjpjknmghlaaGreat
open Go.RowKit Go.ChangeShapes Go.WideShapes Fx
set_option maxRecDepth 100000
set_option maxHeartbeats 8000000
theorem patchOf_any (t:Tensor) (H V C:Nat) (A:Option Addr) (n cap:Nat) (d:Node) (W:Option Addr) (nw cw:Nat) (B:Option Addr) (nb cb:Nat) (Ho Wo Co K S P M WD N:Nat) (w:World)
  (ha:Sl (tInt .i8) w (blo w.heap.size) A n cap t.data) (TK:TOk t n H V C) (WK:WOk d H V C K S P Ho Wo Co) (hz:InK .i8 d.za) (hs:slideV H V C d.k d.s d.p 1=(((Ho:Int),(Wo:Int),1),0)) (hM:Ho*Wo=M) (hWD:K*K*C=WD) (hN:M*WD=N) :
  Calls Tryz.prog 135 #[.agg (tN H V C A n cap),.agg (nN d.kind d.a d.b d.k d.s d.p d.out d.za d.zb W nw cw B nb cb d.qm d.qs d.qz d.rm d.rs d.rz d.lo d.hi)] w fun e w'=>∃ Q c,e=.returned (.tuple #[.agg #[.int .i64 M,.int .i64 WD,.slice Q N c],.int .i64 0])∧Sl (tInt .i16) w' (bin w.heap.size w'.heap.size) Q N c ((List.range N).map (patchF H V C t.data d.za K S P Wo))∧Below w.heap.size w w':=by
 have HA:=zH ha
 have TK:=zH TK
 have WK:=zH WK
 have hMb:M≤256:=by rw [← hM];exact Nat.mul_le_mul WK.out.ho1.2 WK.out.wo1.2
 have hWb:WD≤25600:=by rw [← hWD];exact Nat.mul_le_mul (Nat.mul_le_mul WK.out.k1.2 WK.out.k1.2) TK.out.c1.2
 have hNb:N≤256*25600:=by rw [← hN];exact Nat.mul_le_mul hMb hWb
 have hNi:(M:Int)*(WD:Int)=(N:Int):=by rw [← hN];simp
 have c1':decide (0 < elems (H:Int) (V:Int) (C:Int)∧elems (H:Int) (V:Int) (C:Int)=n)=true:=by
  have e:=tok_elems TK.out
  have e2:elems (H:Int) (V:Int) (C:Int)=(n:Int):=by
   rw [elems_iff,if_pos]
   ·rw [TK.out.n_eq,Int.natCast_mul,Int.natCast_mul]
   ·have:=TK.out.h1;have:=TK.out.v1;have:=TK.out.c1;have h7:=TK.out.n_le;rw [TK.out.n_eq] at h7
    exact ⟨by omega,by omega,by omega,by omega,by omega,by omega,by rw [← Int.natCast_mul,← Int.natCast_mul];omega⟩
  simp only [decide_eq_true_eq] at e ⊢
  exact ⟨e,e2⟩
 have RI:=zH (fun w=>tensorRight_any (H:Int) (V:Int) (C:Int) A n cap w (by have:=TK.out.h1;rw [inK_i64];omega) (by have:=TK.out.v1;rw [inK_i64];omega) (by have:=TK.out.c1;rw [inK_i64];omega) (Nat.le_trans ha.cap_le ha.max_le))
 rw [c1'] at RI
 have OV:=zH (fun w=>over_any H V C d W nw cw B nb cb Ho Wo w TK.out.h1.2 TK.out.v1.2 TK.out.c1.2 hs)
 have WI:=zH (fun w=>wide_any H V C d W nw cw B nb cb Ho Wo 1 K w WK.out.k WK.out.k1.2 TK.out.c1.2)
 rw [hWD] at WI
 have EL:=zH (fun w=>elems_any (Ho:Int) (1:Int) (Wo:Int) w (by have:=WK.out.ho1;rw [inK_i64];omega) (by have:=WK.out.wo1;rw [inK_i64];omega) (by rw [inK_i64];omega))
 have hel:elems (Ho:Int) (Wo:Int) (1:Int)=(M:Int):=by
  have:=WK.out.ho1
  have:=WK.out.wo1
  rw [elems_iff,if_pos ⟨by omega,by omega,by omega,by omega,by omega,by omega,by rw [Int.mul_one,← Int.natCast_mul,hM];omega⟩,Int.mul_one,← Int.natCast_mul,hM]
 rw [hel] at EL
 have HZ:=zH hz
 have EQ3:=zH (And.intro hM (And.intro hWD hN))
 have FR:=zH (Far.refl w)
 obtain ⟨w1,hw_w1,BA,k_w1⟩:=nB w (tN H V C A n cap) 27
 replace FR:=zH (FR.out.fut k_w1)
 clear k_w1
 obtain ⟨w2,hw_w2,BN,k_w2⟩:=nB w1 (nN d.kind d.a d.b d.k d.s d.p d.out d.za d.zb W nw cw B nb cb d.qm d.qs d.qz d.rm d.rs d.rz d.lo d.hi) 44
 replace FR:=zH (FR.out.fut k_w2)
 replace BA:=zH (BA.out.fut k_w2)
 clear k_w2
 obtain ⟨w3,hw_w3,BR,k_w3⟩:=nB w2 #[.int .i64 0,.int .i64 0,.slice none 0 0] 172
 replace FR:=zH (FR.out.fut k_w3)
 replace BA:=zH (BA.out.fut k_w3)
 replace BN:=zH (BN.out.fut k_w3)
 clear k_w3
 have l1:w.heap.size < w1.heap.size:=by rw [← hw_w1];simp
 have l2:w1.heap.size < w2.heap.size:=by rw [← hw_w2];simp
 have l3:w2.heap.size < w3.heap.size:=by rw [← hw_w3];simp
 clear ha hz hs hel c1' hM hWD hN
 go_enter Tryz.func135,Tryz.ntmps135
 go_wp2_with (first|(refine lB 27 (.tmp 2) w.heap.size BA.out Tryz.underlying27 ?_)|(go_at_call 13;refine (RI.out _).mono ?_;rintro e w4 ⟨rfl,hb⟩;have l4:=hb.size;replace FR:=zH (FR.out.fut hb);replace BA:=zH (BA.out.fut hb);replace BN:=zH (BN.out.fut hb);replace BR:=zH (BR.out.fut hb);clear hb hw_w1 hw_w2 hw_w3)|(refine wpList_load_blk rfl 24 (.tmp 14) rfl w.heap.size 0 rfl _ (tN H V C A n cap) (sN H V C) _ BA.out Tryz.underlying24 rfl (by kernel_rfl) rfl ?_)|(refine lB 44 (.tmp 3) w1.heap.size BN.out Tryz.underlying44 ?_))
 refine (OV.out _).mono ?_
 rintro e w5 ⟨rfl,hb⟩
 have l5:=hb.size
 replace FR:=zH (FR.out.fut hb)
 replace BA:=zH (BA.out.fut hb)
 replace BN:=zH (BN.out.fut hb)
 replace BR:=zH (BR.out.fut hb)
 clear hb
 obtain ⟨w5a,hw_w5⟩:∃ x,w5.alloc (.cells #[.int .i64 0,.int .i64 0,.int .i64 0,Value.int .i64 0,Value.int .i64 0,Value.int .i64 0,Value.int .i64 0,Value.int .i64 0,Value.int .i64 0,Value.int .i64 0,Value.int .i8 0,Value.int .i8 0,Value.slice none 0 0,Value.slice none 0 0,Value.int .i32 0,Value.int .i64 0,Value.int .i8 0,Value.int .i32 0,Value.int .i64 0,Value.int .i8 0,Value.int .i8 0,Value.int .i8 0,.int .i64 0,.int .i64 0,.int .i64 0] 187)=x:=⟨_,rfl⟩
 have hb:Below w5.heap.size w5 w5a:=by rw [← hw_w5];exact (Below.refl _ _).alloc (Nat.le_refl _) _
 have BS:=zH (show Blk w5a w5.heap.size 187 #[.int .i64 0,.int .i64 0,.int .i64 0,Value.int .i64 0,Value.int .i64 0,Value.int .i64 0,Value.int .i64 0,Value.int .i64 0,Value.int .i64 0,Value.int .i64 0,Value.int .i8 0,Value.int .i8 0,Value.slice none 0 0,Value.slice none 0 0,Value.int .i32 0,Value.int .i64 0,Value.int .i8 0,Value.int .i32 0,Value.int .i64 0,Value.int .i8 0,Value.int .i8 0,Value.int .i8 0,.int .i64 0,.int .i64 0,.int .i64 0] by rw [← hw_w5];exact Blk.now _ _ _ _ rfl)
 replace FR:=zH (FR.out.fut hb)
 replace BA:=zH (BA.out.fut hb)
 replace BN:=zH (BN.out.fut hb)
 replace BR:=zH (BR.out.fut hb)
 clear hb
 go_wp2_with (refine sB 187 (.tmp 6) (.tmp 18) w5.heap.size #[.int .i64 H,.int .i64 V,.int .i64 C,.int .i64 d.kind,.int .i64 d.a,.int .i64 d.b,.int .i64 d.k,.int .i64 d.s,.int .i64 d.p,.int .i64 d.out,.int .i8 d.za,.int .i8 d.zb,.slice W nw cw,.slice B nb cb,.int .i32 d.qm,.int .i64 d.qs,.int .i8 d.qz,.int .i32 d.rm,.int .i64 d.rs,.int .i8 d.rz,.int .i8 d.lo,.int .i8 d.hi,.int .i64 Ho,.int .i64 Wo,.int .i64 1] BS.out ?_;intro w6 B6 g6)
 replace FR:=zH (FR.out.away g6 (by omega))
 replace BA:=zH (BA.out.away g6 (.inl (by omega)))
 replace BN:=zH (BN.out.away g6 (.inl (by omega)))
 replace BR:=zH (BR.out.away g6 (.inl (by omega)))
 replace BS:=zH B6
 have l56:w5.heap.size < w6.heap.size:=B6.lt
 clear hw_w5 B6 g6
 go_cut [8] (fun b wx=>∃ g,b=.pointer (some ⟨g,0,none⟩)∧Blk wx g 172 #[.int .i64 M,.int .i64 WD,.slice none 0 0]∧w6.heap.size≤g∧Below w6.heap.size w6 wx)
 case first =>
  refine wp_region_held_drew (S:=fun w'=>Blk w' w5.heap.size 187 #[.int .i64 H,.int .i64 V,.int .i64 C,.int .i64 d.kind,.int .i64 d.a,.int .i64 d.b,.int .i64 d.k,.int .i64 d.s,.int .i64 d.p,.int .i64 d.out,.int .i8 d.za,.int .i8 d.zb,.slice W nw cw,.slice B nb cb,.int .i32 d.qm,.int .i64 d.qs,.int .i8 d.qz,.int .i32 d.rm,.int .i64 d.rs,.int .i8 d.rz,.int .i8 d.lo,.int .i8 d.hi,.int .i64 Ho,.int .i64 Wo,.int .i64 1]∧Below w6.heap.size w6 w') (by kernel_rfl) ?_ (fun hS=>?_)
  ·exact ⟨BS.out.drew,(Below.refl _ _).drew⟩
  refine kH 0 rfl hS ?_
  try simp only [pX]
  refine tkH 1 rfl (yieldsIf_load_blk (by rfl) 24 (.tmp 24) rfl w5.heap.size 22 rfl _ #[.int .i64 H,.int .i64 V,.int .i64 C,.int .i64 d.kind,.int .i64 d.a,.int .i64 d.b,.int .i64 d.k,.int .i64 d.s,.int .i64 d.p,.int .i64 d.out,.int .i8 d.za,.int .i8 d.zb,.slice W nw cw,.slice B nb cb,.int .i32 d.qm,.int .i64 d.qs,.int .i8 d.qz,.int .i32 d.rm,.int .i64 d.rs,.int .i8 d.rz,.int .i8 d.lo,.int .i8 d.hi,.int .i64 Ho,.int .i64 Wo,.int .i64 1] (sN Ho Wo 1) _ (fun w hs=>hs.1) Tryz.underlying24 rfl (by kernel_rfl) rfl) hS ?_
  try simp only [pX]
  refine tkH 3 rfl (yB 187 (.tmp 6) w5.heap.size (fun w hs=>hs.1) Tryz.underlying187) hS ?_
  try simp only [pX]
  refine wpAnyH_ready (rs:=[2,6]) (by kernel_rfl) (by simp) ?_
  refine AllReadyH.cons rfl (fun K hK=>?_) (AllReadyH.cons rfl (fun K hK=>?_) AllReadyH.nil)
  ·go_simp
   refine (EL.out _).mono ?_
   rintro e wa ⟨rfl,hb⟩
   refine hK.out _ _ ?_ (fun hS=>?_)
   ·exact ⟨Blk.later hS.1 hb,below_later hb hS.2⟩
   clear hK K
   try simp only [pX]
   refine wpAnyH_ready (rs:=[4,6]) (by kernel_rfl) (by simp) ?_
   refine AllReadyH.cons rfl (fun K hK=>?_) (AllReadyH.cons rfl (fun K hK=>?_) AllReadyH.nil)
   ·go_simp
    refine (WI.out _).mono ?_
    rintro e wb ⟨rfl,hb⟩
    refine hK.out _ _ ?_ (fun hS=>?_)
    ·exact ⟨Blk.later hS.1 hb,below_later hb hS.2⟩
    clear hK K
    try simp only [pX]
    refine kH 5 rfl hS ?_
    try simp only [pX]
    refine rH 6 rfl (fun K hK=>?_)
    go_simp
    have zg:w6.heap.size≤wb.heap.size:=hS.2.size
    have hb:Below wb.heap.size wb (wb.alloc (.cells #[.int .i64 0,.int .i64 0,.slice none 0 0] 172)):=(Below.refl _ _).alloc (Nat.le_refl _) _
    have BZ:=zH (Blk.now wb wb.heap.size 172 #[.int .i64 0,.int .i64 0,.slice none 0 0] rfl)
    refine hK.out _ _ ?_ (fun hS=>?_)
    ·exact ⟨Blk.later hS.1 hb,below_later hb hS.2⟩
    clear hK K
    try simp only [pX]
    refine rH 7 rfl (fun K hK=>?_)
    rw [if_pos (by rfl)]
    refine oper_store_blk 172 (.tmp 8) (.tmp 29) rfl wb.heap.size 0 #[.int .i64 M,.int .i64 WD,.slice none 0 0] rfl rfl _ #[.int .i64 0,.int .i64 0,.slice none 0 0] #[.int .i64 M,.int .i64 WD,.slice none 0 0] BZ.out (by simp) (by kernel_rfl) (by simp [Value.oneCell']) rfl ?_
    intro wc BX gc
    refine hK.out _ _ ⟨hS.1.away gc (by have:=l56;have:=zg;simp only [World.size_drew] at *;omega),hS.2.grown gc hS.2.size (fun k h=>by have:=Option.some.inj h;have:=zg;simp only [World.size_drew] at *;omega)⟩ (fun hS=>?_)
    clear hK K
    try simp only [pX]
    refine wpAnyH_done (by kernel_rfl) ?_ _
    have FZ:=hS.2
    go_wp2_with fail
    go_meet
    case rel=>exact ⟨_,rfl,BX,zg,FZ⟩
   ·go_simp
    have zg:w6.heap.size≤wa.heap.size:=hS.2.size
    have hb:Below wa.heap.size wa (wa.alloc (.cells #[.int .i64 0,.int .i64 0,.slice none 0 0] 172)):=(Below.refl _ _).alloc (Nat.le_refl _) _
    have BZ:=zH (Blk.now wa wa.heap.size 172 #[.int .i64 0,.int .i64 0,.slice none 0 0] rfl)
    refine hK.out _ _ ?_ (fun hS=>?_)
    ·exact ⟨Blk.later hS.1 hb,below_later hb hS.2⟩
    clear hK K
    try simp only [pX]
    refine rH 4 rfl (fun K hK=>?_)
    go_simp
    refine (WI.out _).mono ?_
    rintro e wb ⟨rfl,hb⟩
    replace BZ:=zH (BZ.out.later hb)
    refine hK.out _ _ ?_ (fun hS=>?_)
    ·exact ⟨Blk.later hS.1 hb,below_later hb hS.2⟩
    clear hK K
    try simp only [pX]
    refine kH 5 rfl hS ?_
    try simp only [pX]
    refine rH 7 rfl (fun K hK=>?_)
    rw [if_pos (by rfl)]
    refine oper_store_blk 172 (.tmp 8) (.tmp 29) rfl wa.heap.size 0 #[.int .i64 M,.int .i64 WD,.slice none 0 0] rfl rfl _ #[.int .i64 0,.int .i64 0,.slice none 0 0] #[.int .i64 M,.int .i64 WD,.slice none 0 0] BZ.out (by simp) (by kernel_rfl) (by simp [Value.oneCell']) rfl ?_
    intro wc BX gc
    refine hK.out _ _ ⟨hS.1.away gc (by have:=l56;have:=zg;simp only [World.size_drew] at *;omega),hS.2.grown gc hS.2.size (fun k h=>by have:=Option.some.inj h;have:=zg;simp only [World.size_drew] at *;omega)⟩ (fun hS=>?_)
    clear hK K
    try simp only [pX]
    refine wpAnyH_done (by kernel_rfl) ?_ _
    have FZ:=hS.2
    go_wp2_with fail
    go_meet
    case rel=>exact ⟨_,rfl,BX,zg,FZ⟩
  ·go_simp
   have zg:w6.heap.size≤w6.heap.size:=hS.2.size
   have hb:Below w6.drew.heap.size w6.drew (w6.drew.alloc (.cells #[.int .i64 0,.int .i64 0,.slice none 0 0] 172)):=(Below.refl _ _).alloc (Nat.le_refl _) _
   have BZ:=zH (Blk.now w6.drew w6.heap.size 172 #[.int .i64 0,.int .i64 0,.slice none 0 0] rfl)
   refine hK.out _ _ ?_ (fun hS=>?_)
   ·exact ⟨Blk.later hS.1 hb,below_later hb hS.2⟩
   clear hK K
   try simp only [pX]
   refine rH 2 rfl (fun K hK=>?_)
   go_simp
   refine (EL.out _).mono ?_
   rintro e wa ⟨rfl,hb⟩
   replace BZ:=zH (BZ.out.later hb)
   refine hK.out _ _ ?_ (fun hS=>?_)
   ·exact ⟨Blk.later hS.1 hb,below_later hb hS.2⟩
   clear hK K
   try simp only [pX]
   refine rH 4 rfl (fun K hK=>?_)
   go_simp
   refine (WI.out _).mono ?_
   rintro e wb ⟨rfl,hb⟩
   replace BZ:=zH (BZ.out.later hb)
   refine hK.out _ _ ?_ (fun hS=>?_)
   ·exact ⟨Blk.later hS.1 hb,below_later hb hS.2⟩
   clear hK K
   try simp only [pX]
   refine kH 5 rfl hS ?_
   try simp only [pX]
   refine rH 7 rfl (fun K hK=>?_)
   rw [if_pos (by rfl)]
   refine oper_store_blk 172 (.tmp 8) (.tmp 29) rfl w6.heap.size 0 #[.int .i64 M,.int .i64 WD,.slice none 0 0] rfl rfl _ #[.int .i64 0,.int .i64 0,.slice none 0 0] #[.int .i64 M,.int .i64 WD,.slice none 0 0] BZ.out (by simp) (by kernel_rfl) (by simp [Value.oneCell']) rfl ?_
   intro wc BX gc
   refine hK.out _ _ ⟨hS.1.away gc (by have:=l56;have:=zg;simp only [World.size_drew] at *;omega),hS.2.grown gc hS.2.size (fun k h=>by have:=Option.some.inj h;have:=zg;simp only [World.size_drew] at *;omega)⟩ (fun hS=>?_)
   clear hK K
   try simp only [pX]
   refine wpAnyH_done (by kernel_rfl) ?_ _
   have FZ:=hS.2
   go_wp2_with fail
   go_meet
   case rel=>exact ⟨_,rfl,BX,zg,FZ⟩
 case rest =>
  obtain ⟨g,rfl,bg,zg,b4⟩:=hcut
  obtain ⟨w7,rfl⟩:∃ x,x=wc:=⟨_,rfl⟩
  have BG:=zH bg
  clear bg
  have lg7:=BG.out.lt
  replace FR:=zH (FR.out.fut b4)
  replace BA:=zH (BA.out.fut b4)
  replace BN:=zH (BN.out.fut b4)
  replace BR:=zH (BR.out.fut b4)
  replace BS:=zH (BS.out.fut b4)
  clear b4
  have r0:=BG.out.cell 0
  have r1:=BG.out.cell 1
  have e1:IntKind.i64.wrap ((M:Int)*(WD:Int))=(N:Int):=by rw [hNi];exact IntWalk.i64_in _ (by omega)
  have BG7:=zH BG.out
  have NB:=zH (show w.heap.size < w1.heap.size∧w1.heap.size < w2.heap.size∧w2.heap.size < w7.heap.size∧w5.heap.size < w7.heap.size∧g < w7.heap.size∧w2.heap.size < g by refine ⟨?_,?_,?_,?_,?_,?_⟩ <;> omega)
  go_wp2_with (first|(at_make;refine wpList_make (t:=tInt .i16) (S:=fun _=>False) (base:=w7.heap.size) rfl _ _ rfl ei_i16 .i64 .i64 _ _ N rfl rfl rfl rfl ?_ ?_ ?_ 0 ⟨rfl,by decide⟩ (fun _ h=>h.elim) ?_;rotate_right;intro w8 hown hg;have kb:Below w7.heap.size w7 w8:=(Below.refl _ _).grown hg (Nat.le_refl _) (by simp);have ON:=zH hown;replace FR:=zH (FR.out.fut kb);replace BA:=zH (BA.out.fut kb);replace BN:=zH (BN.out.fut kb);replace BR:=zH (BR.out.fut kb);replace BS:=zH (BS.out.fut kb);replace BG:=zH (BG.out.fut kb);clear hown hg kb r0 r1)|(refine wpList_store_one rfl 170 (.tmp 36) (.tmp 35) rfl g 2 (.slice (some ⟨w7.heap.size,0,none⟩) N N) rfl rfl rfl rfl _ #[.int .i64 M,.int .i64 WD,.slice none 0 0] #[.int .i64 M,.int .i64 WD,.slice (some ⟨w7.heap.size,0,none⟩) N N] BG.out (by simp) (by kernel_rfl) rfl ?_;intro w9 B9 g9;have BS9:=zH (BS.out.away g9 (by have:=NB.out;omega)))|(refine lB 187 (.tmp 6) w5.heap.size BS9.out Tryz.underlying187 ?_))
  rotate_left
  ·omega
  ·unfold maxLen;omega
  ·omega
  obtain ⟨nb1,nb2,nb3,nb4,nb5,nb6⟩:=NB.out
  have O9:=zH (ON.out.flat g9 (.inr (by simp [Value.ownBlock];omega)) (fun _ h=>h))
  replace FR:=zH (FR.out.away g9 (by omega))
  replace BA:=zH (BA.out.away g9 (.inl (by omega)))
  replace BN:=zH (BN.out.away g9 (.inl (by omega)))
  replace BR:=zH (BR.out.away g9 (.inl (by omega)))
  refine (each_any H V C A n cap t.data d W nw cw B nb cb Ho Wo K S P w.heap.size w1.heap.size g w7.heap.size N w.heap.size w7.heap.size M WD (M:Int) (WD:Int) w9 ((Old.now HA.out).fut FR.out.out).out (by omega) TK.out.n_eq TK.out.n_le HZ.out WK.out.k WK.out.s WK.out.p WK.out.k1 WK.out.s1.2 WK.out.p1.1 TK.out.h1 TK.out.v1 TK.out.c1 (tok_elems TK.out) WK.out.ho1 WK.out.wo1 EQ3.out.1 EQ3.out.2.1 EQ3.out.2.2 BA.out BN.out B9 (by omega) (by omega) (by omega) O9.out).mono ?_
  rintro e w10 ⟨rfl,own10,g10⟩
  have B10:=zH (B9.rowR g10 (fun e=>by have:=Option.some.inj e;omega))
  have R10:=zH (BR.out.rowR g10 (fun e=>by have:=Option.some.inj e;omega))
  have F10:=zH (FR.out.away g10 (by omega))
  have O10:=zH own10
  clear own10 g10 B9 g9 O9 ON
  go_wp2_with (first|(refine lB 172 (.tmp 8) g B10.out Tryz.underlying172 ?_)|(refine sB 172 (.tmp 4) (.tmp 42) w2.heap.size #[.int .i64 M,.int .i64 WD,.slice (some ⟨w7.heap.size,0,none⟩) N N] R10.out ?_;intro w11 B11 g11))
  have e2:=O10.out.flat g11 (.inr (by simp [Value.ownBlock];omega)) (fun _ h=>h)
  refine ret_cell_tmp rfl B11 rfl Tryz.underlying172 (by show _=some 3;kernel_rfl) rfl ?_
  obtain ⟨A2,c2,hv,s⟩:=e2.sl (S':=bin w.heap.size _) (by decide) (fun b h1 h2=>⟨by omega,h2⟩) (fun b h=>h.elim)
  injection hv with hv1 hv2 hv3
  subst hv1 hv3
  exact ⟨_,_,rfl,s,(F10.out.away g11 (by omega)).out⟩
end Go.Proofs.YtjkmjpjknmghlaaGreat
