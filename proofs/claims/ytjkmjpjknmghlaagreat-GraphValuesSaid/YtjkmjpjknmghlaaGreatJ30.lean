/-
  Sums by rows that are multiplied (layer 13): lower.Of.
-/
import Derived.Test.YtjkmjpjknmghlaaGreatJ18
import Derived.Test.YtjkmjpjknmghlaaGreatJ28
import Derived.Test.YtjkmjpjknmghlaaGreatJ29
set_option linter.unusedVariables false
set_option linter.unusedSimpArgs false
namespace Go.Proofs.YtjkmjpjknmghlaaGreat
open Go.RowKit Go.ChangeShapes Go.WideShapes Fx
set_option maxRecDepth 100000
set_option maxHeartbeats 8000000
theorem lower_conv (H V C:Nat) (l w bl:List Int) (za:Int) (K S P Wo Co M WD N:Nat) (hWD:K*K*C=WD) (h0:0 < WD) (hN:M*Co=N) (hC:0 < Co) :
  ((List.range N).map fun i=>wrap32 (((List.range N).map fun i=>gemS ((List.range (M*WD)).map (patchF H V C l za K S P Wo)) w WD Co i WD).getD i 0+bl.getD (i % Co) 0))=(List.range N).map fun i=>wrap32 (bl.getD (i % Co) 0+convN H V C l za w K S P (i % Co) (i / Co / Wo) (i / Co % Wo)):=by
 apply List.map_congr_left
 intro i hi
 have hi:=List.mem_range.1 hi
 rw [List.getD_eq_getElem?_getD,List.getElem?_map,List.getElem?_range hi]
 show wrap32 (gemS _ w WD Co i WD+_)=_
 unfold gemS
 rw [wrap32_add,Int.add_comm]
 congr 2
 subst hWD
 rw [← patch_conv H V C l w za K S P Wo (i / Co) (i % Co) h0]
 refine sumN_congr fun k hk=>?_
 unfold gemT
 congr 1
 have hq:i / Co < M:=by rw [Nat.div_lt_iff_lt_mul hC,hN];exact hi
 have:i / Co*(K*K*C)+k < M*(K*K*C):=by
  have:=Nat.mul_le_mul_right (K*K*C) (show i / Co+1≤M by omega)
  rw [Nat.succ_mul] at this
  omega
 rw [List.getD_eq_getElem?_getD,List.getElem?_map,List.getElem?_range this]
 rfl
theorem owned_more {t:Ty Int} {w:World} {B B':Nat} {E:TypeId} {q n:Nat} {l:List Int} (h:Own t w (fun _=>False) B' E (.slice (some ⟨q,0,none⟩) n n) n l) (hB:B≤q):Own t w (fun _=>False) B E (.slice (some ⟨q,0,none⟩) n n) n l:=by
 obtain ⟨vs,h1,h2⟩:=h.out
 refine ⟨vs,⟨h1.1,?_⟩,h2⟩
 rcases h1.2 with ⟨h0,h0'⟩|⟨g,cap,cur,e,hh,hg,hr⟩
 ·exact .inl ⟨h0,h0'⟩
 ·refine .inr ⟨g,cap,cur,e,?_,hg,hr⟩
  injection e with e1 e2 e3
  injection e1 with e1
  injection e1 with e1
  omega
theorem cell_one_new' (w:World) (v:Value) (t:TypeId):(w.alloc (.cells #[v] t)).cell? ⟨w.heap.size,0,none⟩=some v:=(Blk.now w w.heap.size t #[v] rfl).cell 0
theorem lowBiased_any (B:Option Addr) (nb cb:Nat) (w:World) :
  Calls Tryz.prog 137 #[.slice B nb cb] w fun e w'=>e=.returned (.func (.func 152) #[] #[.pointer (some ⟨w.heap.size,0,none⟩)])∧w'=w.alloc (.cells #[.slice B nb cb] 40):=by
 go_enter Tryz.func137,Tryz.ntmps137
 go_wp2_with fail
 go_ret
 exact ⟨rfl,rfl⟩
theorem lowerOf_good (t:Tensor) (A:Option Addr) (n cap:Nat) (d:Node) (W:Option Addr) (nw cw:Nat) (B:Option Addr) (nb cb:Nat) (w:World) (ht:TensorIn t) (hd:NodeIn d)
  (ha:Sl (tInt .i8) w (blo w.heap.size) A n cap t.data) (hw:Sl (tInt .i8) w (blo w.heap.size) W nw cw d.w) (hb:Sl (tInt .i32) w (blo w.heap.size) B nb cb d.bias) (mw:nw≤2000∧nb≤200) (c1:t.ok=true) (c2:(convV t.h t.v t.c d).2=0) :
  Calls Tryz.prog 121 #[.agg (tN t.h t.v t.c A n cap),.agg (nN d.kind d.a d.b d.k d.s d.p d.out d.za d.zb W nw cw B nb cb d.qm d.qs d.qz d.rm d.rs d.rz d.lo d.hi)] w (RetT .i32 (convOf t d).1 (convOf t d).2 w):=by
 have HT:=zH ht
 have HD:=zH hd
 have HA:=zH ha
 have HW:=zH hw
 have HB:=zH hb
 have m1:n≤9223372036854775807:=Nat.le_trans ha.cap_le ha.max_le
 have m2:nw≤9223372036854775807:=Nat.le_trans hw.cap_le hw.max_le
 have m3:nb≤9223372036854775807:=Nat.le_trans hb.cap_le hb.max_le
 clear ht hd ha hw hb
 have SZ:=zH (show nw≤1048576∧nb≤1048576 by omega)
 obtain ⟨H,V,C,K,S,P,Ho,Wo,Co,TK,WK,hx,lw,lb,ho,el,ev⟩:=conv_nat c1 c2
 rw [ev]
 have en:t.data.length=n:=HA.out.n_eq
 rw [en] at TK
 have hNe:=WK.no
 obtain ⟨N,hNE⟩:∃ N,Ho*Wo*Co=N:=⟨_,rfl⟩
 obtain ⟨M,hM⟩:∃ M,Ho*Wo=M:=⟨_,rfl⟩
 obtain ⟨WD,hWD⟩:∃ x,K*K*C=x:=⟨_,rfl⟩
 obtain ⟨NR,hNR⟩:∃ x,M*WD=x:=⟨_,rfl⟩
 have hMC:M*Co=N:=by rw [← hM];exact hNE
 have hnw:nw=Co*WD:=by rw [← HW.out.n_eq,lw,← hWD,Nat.mul_assoc Co,Nat.mul_assoc Co]
 have hWD1:1≤WD:=by rw [← hWD];exact Nat.mul_pos (Nat.mul_pos WK.k1.1 WK.k1.1) TK.c1.1
 have hWD2:WD≤16384:=by
  have:1*WD≤Co*WD:=Nat.mul_le_mul_right _ WK.co1.1
  omega
 have hM1:1≤M∧M≤16384:=by
  rw [← hM]
  have:=WK.ho1
  have:=WK.wo1
  exact ⟨Nat.mul_pos (by omega) (by omega),Nat.le_trans (Nat.mul_le_mul WK.ho1.2 this.2) (by omega)⟩
 have hnb:nb=Co:=by rw [← HB.out.n_eq];exact lb
 have hs1:slideV H V C d.k d.s d.p 1=(((Ho:Int),(Wo:Int),1),0):=by
  have e:=hx
  unfold convV at e
  obtain ⟨a,-,-,-⟩:=fit_nat e rfl
  rw [TK.h,TK.v,TK.c] at a
  exact slide_one a
 rw [hNE]
 have LC:=zH (lower_conv H V C t.data d.w d.bias d.za K S P Wo Co M WD N hWD hWD1 hMC WK.co1.1)
 obtain ⟨LM,hLM⟩:∃ x,((List.range N).map fun i=>gemS ((List.range (M*WD)).map (patchF H V C t.data d.za K S P Wo)) d.w WD Co i WD)=x:=⟨_,rfl⟩
 rw [hLM,← hnb] at LC
 have HLM:=zH hLM
 have CF:=zH (show (List.range N).map (convF t d Wo Co)=(List.range N).map fun i=>wrap32 (d.bias.getD (i % nb) 0+convN H V C t.data d.za d.w K S P (i % nb) (i / nb / Wo) (i / nb % Wo)) by
  apply List.map_congr_left
  intro i _
  unfold convF
  rw [TK.h,TK.v,TK.c,WK.k,WK.s,WK.p,hnb]
  rfl)
 rw [← LC.out] at CF
 have c1':decide (0 < elems (H:Int) (V:Int) (C:Int)∧elems (H:Int) (V:Int) (C:Int)=n)=true:=by rw [← HA.out.n_eq,← TK.h,← TK.v,← TK.c];simpa [Tensor.ok] using c1
 rw [TK.h,TK.v,TK.c] at hx
 have hoz:InK .i64 d.out:=HD.out.out
 have RI:=zH (fun w=>tensorRight_any (H:Int) (V:Int) (C:Int) A n cap w (by have:=TK.h1;rw [inK_i64];omega) (by have:=TK.v1;rw [inK_i64];omega) (by have:=TK.c1;rw [inK_i64];omega) (Nat.le_trans HA.out.cap_le HA.out.max_le))
 rw [c1'] at RI
 have CI:=zH (fun w=>convShape_any (H:Int) (V:Int) (C:Int) d W nw cw B nb cb w (by have:=TK.h1;rw [inK_i64];omega) (by have:=TK.v1;rw [inK_i64];omega) (by have:=TK.c1;rw [inK_i64];omega) HD.out.out HW.out.n_eq.symm HB.out.n_eq.symm SZ.out.1 SZ.out.2)
 rw [hx] at CI
 have PO:=zH (fun w ha=>patchOf_any t H V C A n cap d W nw cw B nb cb Ho Wo Co K S P M WD NR w ha TK WK HD.out.za hs1 hM hWD hNR)
 have MUL:=zH (fun (Q:Option Addr) (c:Nat) (w:World) ha hb=>mul_any Q NR c ((List.range (M*WD)).map (patchF H V C t.data d.za K S P Wo)) W nw cw d.w M WD Co N w ha hb hNR.symm hnw hMC hM1 ⟨WK.co1.1,by have:=WK.co1.2;omega⟩ ⟨hWD1,hWD2⟩)
 rw [hLM] at MUL
 simp only [hNR] at MUL
 have NB:=zH (show 1≤nb∧N≤65536 by have:=WK.co1;omega)
 have HO:=zH ho
 rw [TK.h,TK.v,TK.c]
 clear c1 c2 hx lw lb ho el ev en hNe hNE hM hWD hNR hMC hnw hWD1 hWD2 hM1 hnb hs1 hLM c1' hoz mw
 have FR:=zH (Far.refl w)
 obtain ⟨w1,hw_w1,BA,k_w1⟩:=nB w (tN H V C A n cap) 27
 replace FR:=zH (FR.out.fut k_w1)
 clear k_w1
 obtain ⟨w2,hw_w2,BN,k_w2⟩:=nB w1 (nN d.kind d.a d.b d.k d.s d.p d.out d.za d.zb W nw cw B nb cb d.qm d.qs d.qz d.rm d.rs d.rz d.lo d.hi) 44
 replace FR:=zH (FR.out.fut k_w2)
 replace BA:=zH (BA.out.fut k_w2)
 clear k_w2
 obtain ⟨w3,hw_w3,BR,k_w3⟩:=nB w2 (tN 0 0 0 none 0 0) 78
 replace FR:=zH (FR.out.fut k_w3)
 replace BA:=zH (BA.out.fut k_w3)
 replace BN:=zH (BN.out.fut k_w3)
 clear k_w3
 have l1:w.heap.size < w1.heap.size:=by rw [← hw_w1];simp
 have l2:w1.heap.size < w2.heap.size:=by rw [← hw_w2];simp
 have l3:w2.heap.size < w3.heap.size:=by rw [← hw_w3];simp
 go_enter Tryz.func121,Tryz.ntmps121
 go_wp2_with (first|(refine lB 27 (.tmp 2) w.heap.size BA.out Tryz.underlying27 ?_)|(go_at_call 13;refine (RI.out _).mono ?_;rintro e w4 ⟨rfl,hb⟩;have l4:=hb.size;replace FR:=zH (FR.out.fut hb);replace BA:=zH (BA.out.fut hb);replace BN:=zH (BN.out.fut hb);replace BR:=zH (BR.out.fut hb);clear hb hw_w1 hw_w2 hw_w3)|(refine wpList_load_blk rfl 24 (.tmp 15) rfl w.heap.size 0 rfl _ (tN H V C A n cap) (sN H V C) _ BA.out Tryz.underlying24 rfl (by kernel_rfl) rfl ?_)|(refine lB 44 (.tmp 3) w1.heap.size BN.out Tryz.underlying44 ?_))
 refine (CI.out _).mono ?_
 rintro e w5 ⟨rfl,hb⟩
 simp only [retS]
 have l5:=hb.size
 replace FR:=zH (FR.out.fut hb)
 replace BA:=zH (BA.out.fut hb)
 replace BN:=zH (BN.out.fut hb)
 replace BR:=zH (BR.out.fut hb)
 clear hb
 obtain ⟨w6,hw_w6,BD,k_w6⟩:=nB w5 (sN (Ho:Int) (Wo:Int) (Co:Int)) 24
 replace FR:=zH (FR.out.fut k_w6)
 replace BA:=zH (BA.out.fut k_w6)
 replace BN:=zH (BN.out.fut k_w6)
 replace BR:=zH (BR.out.fut k_w6)
 clear k_w6
 have l56:w5.heap.size < w6.heap.size:=by rw [← hw_w6];simp
 go_wp2_with (first|(refine lB 27 (.tmp 2) w.heap.size BA.out Tryz.underlying27 ?_)|(refine lB 44 (.tmp 3) w1.heap.size BN.out Tryz.underlying44 ?_))
 clear hw_w6
 refine (PO.out _ ((Old.now HA.out).fut FR.out.out).all).mono ?_
 rintro e w7 ⟨Q,c,rfl,sq,hb⟩
 have NQ:=zH (show New w6 (tInt .i16) w7 Q NR c _ from ⟨sq⟩)
 have l7:=hb.size
 clear sq
 replace FR:=zH (FR.out.fut hb)
 replace BA:=zH (BA.out.fut hb)
 replace BN:=zH (BN.out.fut hb)
 replace BR:=zH (BR.out.fut hb)
 replace BD:=zH (BD.out.fut hb)
 clear hb
 obtain ⟨w8,hw_w8,BW,k_w8⟩:=nB w7 #[.int .i64 (M:Int),.int .i64 (WD:Int),.slice Q NR c] 172
 replace FR:=zH (FR.out.fut k_w8)
 replace BA:=zH (BA.out.fut k_w8)
 replace BN:=zH (BN.out.fut k_w8)
 replace BR:=zH (BR.out.fut k_w8)
 replace BD:=zH (BD.out.fut k_w8)
 replace NQ:=zH (NQ.out.fut k_w8)
 clear k_w8
 have l78:w7.heap.size < w8.heap.size:=by rw [← hw_w8];simp
 have MU:=zH (fun (wz:World) (hz:Below w8.heap.size w8 wz)=>MUL.out Q c wz (NQ.out.old.fut hz) (((Old.now HW.out).fut (FR.out.fut hz).out).all))
 go_wp2_with fail
 clear hw_w8
 go_cut [9] (fun b wx=>∃ g q,b=.pointer (some ⟨g,0,none⟩)∧Blk wx g 78 (tN (Ho:Int) (Wo:Int) (Co:Int) (some ⟨q,0,none⟩) N N)∧Own (tInt .i32) wx (fun _=>False) w8.heap.size 21 (.slice (some ⟨q,0,none⟩) N N) N LM∧q ≠ g∧w8.heap.size≤q∧w8.heap.size≤g∧Below w8.heap.size w8 wx)
 case first =>
  refine wp_region_held_drew (S:=fun w'=>Below w8.heap.size w8 w') (by kernel_rfl) ?_ (fun hS=>?_)
  ·exact (Below.refl _ _).drew
  refine tkH 0 rfl (yB 24 (.tmp 6) w5.heap.size (fun w hs=>BD.out.later hs) Tryz.underlying24) hS ?_
  try simp only [pX]
  refine tkH 1 rfl (v:=?_) (Or.inl ⟨by rfl,?_⟩) hS ?_
  rotate_left
  ·intro wz hSw;(try dsimp only at hSw);go_simp;try with_reducible rfl
  try simp only [pX]
  refine tkH 2 rfl (v:=?_) (Or.inl ⟨by rfl,?_⟩) hS ?_
  rotate_left
  ·intro wz hSw;have zz:=(BW.out.later hSw).cell 2;simp only [gX] at zz;go_simp;try with_reducible rfl
  try simp only [pX]
  refine tkH 3 rfl (v:=?_) (Or.inl ⟨by rfl,?_⟩) hS ?_
  rotate_left
  ·intro wz hSw;(try dsimp only at hSw);go_simp;try with_reducible rfl
  try simp only [pX]
  refine tkH 4 rfl (v:=?_) (Or.inl ⟨by rfl,?_⟩) hS ?_
  rotate_left
  ·intro wz hSw;have zz:=(BN.out.later hSw).cell 9;simp only [gX] at zz;go_simp;try with_reducible rfl
  try simp only [pX]
  refine tkH 5 rfl (v:=?_) (Or.inl ⟨by rfl,?_⟩) hS ?_
  rotate_left
  ·intro wz hSw;(try dsimp only at hSw);go_simp;try with_reducible rfl
  try simp only [pX]
  refine tkH 6 rfl (v:=?_) (Or.inl ⟨by rfl,?_⟩) hS ?_
  rotate_left
  ·intro wz hSw;have zz:=(BW.out.later hSw).cell 0;simp only [gX] at zz;go_simp;try with_reducible rfl
  try simp only [pX]
  refine tkH 7 rfl (v:=?_) (Or.inl ⟨by rfl,?_⟩) hS ?_
  rotate_left
  ·intro wz hSw;(try dsimp only at hSw);go_simp;try with_reducible rfl
  try simp only [pX]
  refine tkH 8 rfl (v:=?_) (Or.inl ⟨by rfl,?_⟩) hS ?_
  rotate_left
  ·intro wz hSw;have zz:=(BW.out.later hSw).cell 1;simp only [gX] at zz;go_simp;try with_reducible rfl
  try simp only [pX]
  refine tkH 9 rfl (v:=?_) (Or.inl ⟨by rfl,?_⟩) hS ?_
  rotate_left
  ·intro wz hSw;(try dsimp only at hSw);go_simp;try with_reducible rfl
  try simp only [pX]
  refine tkH 10 rfl (v:=?_) (Or.inl ⟨by rfl,?_⟩) hS ?_
  rotate_left
  ·intro wz hSw;have zz:=(BN.out.later hSw).cell 6;simp only [gX] at zz;rw [HO.out] at zz;go_simp;try with_reducible rfl
  try simp only [pX]
  refine wpAnyH_ready (rs:=[11,13]) (by kernel_rfl) (by simp) ?_
  refine AllReadyH.cons rfl (fun K hK=>?_) (AllReadyH.cons rfl (fun K hK=>?_) AllReadyH.nil)
  ·go_simp
   have sz:w8.heap.size≤(w8.drew).heap.size:=hS.size
   refine (MU.out (w8.drew) hS).mono ?_
   rintro e wa ⟨q,rfl,own,hb⟩
   have OW:=zH own
   have lq:=own.lt _ rfl
   clear own
   refine hK.out _ _ ?_ (fun hS=>?_)
   ·exact below_later hb hS
   clear hK K
   try simp only [pX]
   refine tkH 12 rfl (v:=?_) (Or.inl ⟨by rfl,?_⟩) hS ?_
   rotate_left
   ·intro wz hSw;(try dsimp only at hSw);go_simp;try with_reducible rfl
   try simp only [pX]
   refine rH 13 rfl (fun K hK=>?_)
   go_simp
   have zg:w8.heap.size≤wa.heap.size:=hS.size
   have hb:Below wa.heap.size wa (wa.alloc (.cells (tN 0 0 0 none 0 0) 78)):=(Below.refl _ _).alloc (Nat.le_refl _) _
   have BZ:=zH (Blk.now wa wa.heap.size 78 (tN 0 0 0 none 0 0) rfl)
   replace OW:=zH (OW.out.below hb (Nat.le_refl _) (fun _ h=>h.elim))
   refine hK.out _ _ ?_ (fun hS=>?_)
   ·exact below_later hb hS
   clear hK K
   try simp only [pX]
   refine rH 14 rfl (fun K hK=>?_)
   rw [if_pos (by rfl)]
   refine oper_store_blk 78 (.tmp 9) (.tmp 47) rfl wa.heap.size 0 (tN (Ho:Int) (Wo:Int) (Co:Int) (some ⟨q,0,none⟩) N N) rfl rfl _ (tN 0 0 0 none 0 0) (tN (Ho:Int) (Wo:Int) (Co:Int) (some ⟨q,0,none⟩) N N) BZ.out (by simp) (by kernel_rfl) (by simp [Value.oneCell']) rfl ?_
   intro wc BX gc
   have hne:q ≠ wa.heap.size:=by have:=lq;simp only [World.size_drew,World.size_alloc] at *;omega
   replace OW:=zH (OW.out.flat gc (.inr (by simp [Value.ownBlock];exact hne)) (fun _ h=>h))
   have zq:w8.heap.size≤q:=by have:=lq;simp only [World.size_drew,World.size_alloc] at *;omega
   refine hK.out _ _ (hS.grown gc hS.size (fun k h=>by have:=Option.some.inj h;have:=zg;simp only [World.size_drew] at *;omega)) (fun hS=>?_)
   clear hK K
   try simp only [pX]
   refine wpAnyH_done (by kernel_rfl) ?_ _
   have FZ:=hS
   go_wp2_with fail
   go_meet
   case rel=>exact ⟨_,_,rfl,BX,owned_more OW.out zq,hne,zq,zg,FZ⟩
  ·go_simp
   have zg:w8.heap.size≤w8.heap.size:=hS.size
   have hb:Below w8.drew.heap.size w8.drew (w8.drew.alloc (.cells (tN 0 0 0 none 0 0) 78)):=(Below.refl _ _).alloc (Nat.le_refl _) _
   have BZ:=zH (Blk.now w8.drew w8.heap.size 78 (tN 0 0 0 none 0 0) rfl)
   refine hK.out _ _ ?_ (fun hS=>?_)
   ·exact below_later hb hS
   clear hK K
   try simp only [pX]
   refine rH 11 rfl (fun K hK=>?_)
   go_simp
   have sz:w8.heap.size≤(w8.drew.alloc (.cells (tN 0 0 0 none 0 0) 78)).heap.size:=hS.size
   refine (MU.out (w8.drew.alloc (.cells (tN 0 0 0 none 0 0) 78)) hS).mono ?_
   rintro e wa ⟨q,rfl,own,hb⟩
   have OW:=zH own
   have lq:=own.lt _ rfl
   clear own
   replace BZ:=zH (BZ.out.later hb)
   refine hK.out _ _ ?_ (fun hS=>?_)
   ·exact below_later hb hS
   clear hK K
   try simp only [pX]
   refine tkH 12 rfl (v:=?_) (Or.inl ⟨by rfl,?_⟩) hS ?_
   rotate_left
   ·intro wz hSw;(try dsimp only at hSw);go_simp;try with_reducible rfl
   try simp only [pX]
   refine rH 14 rfl (fun K hK=>?_)
   rw [if_pos (by rfl)]
   refine oper_store_blk 78 (.tmp 9) (.tmp 47) rfl w8.heap.size 0 (tN (Ho:Int) (Wo:Int) (Co:Int) (some ⟨q,0,none⟩) N N) rfl rfl _ (tN 0 0 0 none 0 0) (tN (Ho:Int) (Wo:Int) (Co:Int) (some ⟨q,0,none⟩) N N) BZ.out (by simp) (by kernel_rfl) (by simp [Value.oneCell']) rfl ?_
   intro wc BX gc
   have hne:q ≠ w8.heap.size:=by have:=lq;simp only [World.size_drew,World.size_alloc] at *;omega
   replace OW:=zH (OW.out.flat gc (.inr (by simp [Value.ownBlock];exact hne)) (fun _ h=>h))
   have zq:w8.heap.size≤q:=by have:=lq;simp only [World.size_drew,World.size_alloc] at *;omega
   refine hK.out _ _ (hS.grown gc hS.size (fun k h=>by have:=Option.some.inj h;have:=zg;simp only [World.size_drew] at *;omega)) (fun hS=>?_)
   clear hK K
   try simp only [pX]
   refine wpAnyH_done (by kernel_rfl) ?_ _
   have FZ:=hS
   go_wp2_with fail
   go_meet
   case rel=>exact ⟨_,_,rfl,BX,owned_more OW.out zq,hne,zq,zg,FZ⟩
 case rest =>
  obtain ⟨g,q,rfl,bg,own,hqg,zq,zg,b8⟩:=hcut
  obtain ⟨w9,rfl⟩:∃ x,x=wc:=⟨_,rfl⟩
  have BG:=zH bg
  have ON:=zH own
  have lq:=own.lt _ rfl
  have lg:=bg.lt
  have l89:=b8.size
  have B8:=zH b8
  have BN8:=zH BN.out
  have F8:=zH FR.out
  clear bg own
  replace FR:=zH (FR.out.fut b8)
  replace BA:=zH (BA.out.fut b8)
  replace BN:=zH (BN.out.fut b8)
  replace BR:=zH (BR.out.fut b8)
  replace BD:=zH (BD.out.fut b8)
  replace BW:=zH (BW.out.fut b8)
  clear b8
  clear PO MUL MU RI CI
  go_wp2_with fail
  refine wp_region_held_drew (S:=fun w'=>Blk w' g 78 (tN (Ho:Int) (Wo:Int) (Co:Int) (some ⟨q,0,none⟩) N N)∧Below w8.heap.size w8 w') (by kernel_rfl) ?_ (fun hS=>?_)
  ·exact ⟨BG.out.drew,B8.out.drew⟩
  refine tkH 0 rfl (v:=?_) (Or.inl ⟨by rfl,?_⟩) hS ?_
  rotate_left
  ·intro wz hSw;go_simp;try with_reducible rfl
  try simp only [pX]
  refine tkH 1 rfl (v:=?_) (Or.inl ⟨by rfl,?_⟩) hS ?_
  rotate_left
  ·intro wz hSw;have zz:=(BN8.out.later hSw.2).cell 10;simp only [gX] at zz;go_simp;try with_reducible rfl
  try simp only [pX]
  refine tkH 3 rfl (v:=?_) (Or.inl ⟨by rfl,?_⟩) hS ?_
  rotate_left
  ·intro wz hSw;go_simp;try with_reducible rfl
  try simp only [pX]
  refine tkH 4 rfl (v:=?_) (Or.inl ⟨by rfl,?_⟩) hS ?_
  rotate_left
  ·intro wz hSw;have zz:=hSw.1.cell 3;simp only [gX] at zz;go_simp;try with_reducible rfl
  try simp only [pX]
  refine rH 2 rfl (fun K hK=>?_)
  go_simp
  refine (lowBiased_any B nb cb _).mono ?_
  rintro e wa ⟨rfl,hwa⟩
  have hb:Below w9.drew.heap.size w9.drew wa:=by rw [hwa];exact (Below.refl _ _).alloc (Nat.le_refl _) _
  have OD:=zH ((ON.out.heap (w':=w9.drew) rfl).below hb (Nat.le_refl _) (fun _ h=>h.elim))
  have CP:wa.cell? ⟨w9.heap.size,0,none⟩=some (.slice B nb cb):=by rw [hwa];exact cell_one_new' _ _ _
  clear hwa
  refine hK.out _ _ ?_ (fun hS=>?_)
  ·exact ⟨Blk.later hS.1 hb,below_later hb hS.2⟩
  clear hK K
  try simp only [pX]
  refine rH 5 rfl (fun K hK=>?_)
  go_simp
  refine (biased_any ⟨w9.heap.size,0,none⟩ B nb cb d.bias w.heap.size w8.heap.size q N LM wa ((Old.now HB.out).fut (F8.out.fut hS.2).out).out F8.out.size CP (by show w9.heap.size ≠ q;omega) OD.out NB.out.1 NB.out.2).mono ?_
  rintro e wb ⟨rfl,ownb,gb⟩
  have OB:=zH ownb
  clear ownb
  have bg2:=hS.1.rowR gb (fun e=>by have:=Option.some.inj e;omega)
  refine hK.out _ _ ⟨bg2,hS.2.grown gb hS.2.size (fun k h=>by have:=Option.some.inj h;omega)⟩ (fun hS=>?_)
  clear hK K
  try simp only [pX]
  refine wpAnyH_done (by kernel_rfl) ?_ _
  have R10:=zH (BR.out.drew.later hb |>.rowR gb (fun e=>by have:=Option.some.inj e;omega))
  have F10:=zH ((show Far w w8 from F8.out).fut hS.2)
  have BG:=zH hS.1
  clear hb gb bg2 OD CP
  rw [← CF.out] at OB
  go_wp2_with (first|(refine lB 78 (.tmp 9) g BG.out Tryz.underlying78 ?_)|(refine sB 78 (.tmp 4) (.tmp 54) w2.heap.size (tN (Ho:Int) (Wo:Int) (Co:Int) (some ⟨q,0,none⟩) N N) R10.out ?_;intro w11 B11 g11))
  have e2:=OB.out.flat g11 (.inr (by simp [Value.ownBlock];omega)) (fun _ h=>h)
  refine rC B11 Tryz.underlying78 ?_
  have FE:=F10.out.away g11 (by omega)
  obtain ⟨A2,c2,hv,s⟩:=e2.sl (S':=bin w.heap.size _) (by decide) (fun b h1 h2=>⟨by omega,h2⟩) (fun b h=>h.elim)
  injection hv with hv1 hv2 hv3
  subst hv1 hv3
  exact ⟨_,_,_,rfl,s,FE.out⟩
theorem lowerOf_any (t:Tensor) (A:Option Addr) (n cap:Nat) (d:Node) (W:Option Addr) (nw cw:Nat) (B:Option Addr) (nb cb:Nat) (w:World) (ht:TensorIn t) (hd:NodeIn d)
  (ha:Sl (tInt .i8) w (blo w.heap.size) A n cap t.data) (hw:Sl (tInt .i8) w (blo w.heap.size) W nw cw d.w) (hb:Sl (tInt .i32) w (blo w.heap.size) B nb cb d.bias) (mw:nw≤2000∧nb≤200) :
  Calls Tryz.prog 121 #[.agg (tN t.h t.v t.c A n cap),.agg (nN d.kind d.a d.b d.k d.s d.p d.out d.za d.zb W nw cw B nb cb d.qm d.qs d.qz d.rm d.rs d.rz d.lo d.hi)] w (RetT .i32 (convOf t d).1 (convOf t d).2 w):=by
 by_cases c1:t.ok=true
 ·by_cases c2:(convV t.h t.v t.c d).2=0
  ·exact lowerOf_good t A n cap d W nw cw B nb cb w ht hd ha hw hb mw c1 c2
  ·have e:convOf t d=(noTensor,(convV t.h t.v t.c d).2):=by unfold convOf;rw [if_pos c1,if_neg c2]
   rw [e];exact lowerOf_code t A n cap d W nw cw B nb cb w ht hd ha hw hb (by omega) c1 c2
 ·have e:convOf t d=(noTensor,5):=by unfold convOf;rw [if_neg c1]
  rw [e];exact lowerOf_bad t A n cap d W nw cw B nb cb w ht hd ha hw hb c1
end Go.Proofs.YtjkmjpjknmghlaaGreat
