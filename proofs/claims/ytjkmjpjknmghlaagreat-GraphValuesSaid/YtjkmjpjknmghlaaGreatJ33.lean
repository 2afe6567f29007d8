/-
  The greatest number of each window, and the mean (layer 19: pool.made, Max, Mean).
  The greatest number of each window, and the mean (layer 19: pool.Max, pool.Mean; the document's Of).
-/
import Derived.Test.YtjkmjpjknmghlaaGreatJ32
import Derived.Test.YtjkmjpjknmghlaaGreatJ28
set_option linter.unusedVariables false
set_option linter.unusedSimpArgs false
namespace Go.Proofs.YtjkmjpjknmghlaaGreat
open Go.RowKit Go.ChangeShapes Go.WideShapes Fx
set_option maxRecDepth 100000
set_option maxHeartbeats 8000000
def poolF (U:List Int → Int) (H V C:Nat) (l:List Int) (K S P Wo:Nat) (i:Nat):Int:=U (winL H V C l K S P (i % C) (i / C / Wo) (i / C % Wo) (K*K))
def poolQ (U:List Int → Int) (t:Tensor) (d:Node):Tensor × Int :=
 if (slideV t.h t.v t.c d.k d.s d.p t.c).2=0 then (⟨(slideV t.h t.v t.c d.k d.s d.p t.c).1.1,(slideV t.h t.v t.c d.k d.s d.p t.c).1.2.1,(slideV t.h t.v t.c d.k d.s d.p t.c).1.2.2,
  (List.range (elems (slideV t.h t.v t.c d.k d.s d.p t.c).1.1 (slideV t.h t.v t.c d.k d.s d.p t.c).1.2.1 (slideV t.h t.v t.c d.k d.s d.p t.c).1.2.2).toNat).map (poolF U t.h.toNat t.v.toNat t.c.toNat t.data d.k.toNat d.s.toNat d.p.toNat (slideV t.h t.v t.c d.k d.s d.p t.c).1.2.1.toNat)⟩,0) else (noTensor,(slideV t.h t.v t.c d.k d.s d.p t.c).2)
theorem pool_nat {U:List Int → Int} {t:Tensor} {d:Node} (h1:t.ok=true) (h2:(slideV t.h t.v t.c d.k d.s d.p t.c).2=0):∃ H V C K S P Ho Wo:Nat,TOk t t.data.length H V C∧WOk d H V C K S P Ho Wo C∧slideV t.h t.v t.c d.k d.s d.p t.c=(((Ho:Int),(Wo:Int),(C:Int)),0)∧elems Ho Wo C=(Ho*Wo*C:Nat) ∧
  poolQ U t d=(⟨Ho,Wo,C,(List.range (Ho*Wo*C)).map (poolF U H V C t.data K S P Wo)⟩,0):=by
 obtain ⟨H,V,C,T⟩:=tok_of h1
 obtain ⟨⟨⟨x1,x2,x3⟩,e⟩,hx⟩:∃ x,slideV t.h t.v t.c d.k d.s d.p t.c=x:=⟨_,rfl⟩
 have hx':=hx
 rw [hx] at h2
 obtain rfl:e=0:=h2
 rw [T.h,T.v,T.c] at hx'
 obtain ⟨K,S,P,Ho,Wo,Co,hw,e1,e2,e3,e4,e5⟩:=slide_nat hx'
 obtain rfl:C=Co:=by omega
 subst e1 e2 e3
 refine ⟨H,V,C,K,S,P,Ho,Wo,T,hw,hx,e5,?_⟩
 unfold poolQ
 rw [hx,if_pos rfl]
 simp only [e5,Int.toNat_natCast,T.h,T.v,T.c,hw.k,hw.s,hw.p]
theorem stF_more (f:Nat → Int) (k n:Nat):(stF f (fun j=>decide (j < k)) n).set k (f k)=stF f (fun j=>decide (j < k+1)) n:=by
 rw [stF_set]
 refine stF_ext fun j _=>?_
 by_cases h:j=k
 ·subst h;simp
 ·have:(j < k+1)=(j < k):=by apply propext;omega
  simp [h,this]
theorem stF_skip (f:Nat → Int) (k n:Nat) (h0:f k=0):stF f (fun j=>decide (j < k)) n=stF f (fun j=>decide (j < k+1)) n:=by
 unfold stF
 apply List.map_congr_left
 intro j _
 by_cases h:j=k
 ·subst h;simp [h0]
 ·have:(j < k+1)=(j < k):=by apply propext;omega
  simp [this]
theorem tok_right {t:Tensor} {n H V C:Nat} (T:TOk t n H V C):decide (0 < elems (H:Int) (V:Int) (C:Int)∧elems (H:Int) (V:Int) (C:Int)=n)=true:=by
 have e:=tok_elems T
 have e2:elems (H:Int) (V:Int) (C:Int)=(n:Int):=by
  rw [elems_iff,if_pos]
  ·rw [T.n_eq,Int.natCast_mul,Int.natCast_mul]
  ·have:=T.h1;have:=T.v1;have:=T.c1;have h7:=T.n_le;rw [T.n_eq] at h7
   exact ⟨by omega,by omega,by omega,by omega,by omega,by omega,by rw [← Int.natCast_mul,← Int.natCast_mul];omega⟩
 simp only [decide_eq_true_eq] at e ⊢
 exact ⟨e,e2⟩
theorem made_code (ff:Nat) (t:Tensor) (A:Option Addr) (n cap:Nat) (d:Node) (W:Option Addr) (nw cw:Nat) (B:Option Addr) (nb cb:Nat) (w:World)
  (ha:Sl (tInt .i8) w (blo w.heap.size) A n cap t.data) (c1:t.ok=true) (c2:¬ (slideV t.h t.v t.c d.k d.s d.p t.c).2=0) :
  Calls Tryz.prog 79 #[.agg (tN t.h t.v t.c A n cap),.agg (nN d.kind d.a d.b d.k d.s d.p d.out d.za d.zb W nw cw B nb cb d.qm d.qs d.qz d.rm d.rs d.rz d.lo d.hi),.func (.func ff) #[] #[]] w (RetT .i8 noTensor (slideV t.h t.v t.c d.k d.s d.p t.c).2 w):=by
 have HA:=zH ha
 obtain ⟨H,V,C,TK0⟩:=tok_of c1
 have en:t.data.length=n:=HA.out.n_eq
 rw [en] at TK0
 have RI:=zH (fun w=>tensorRight_any (H:Int) (V:Int) (C:Int) A n cap w (by have:=TK0.h1;rw [inK_i64];omega) (by have:=TK0.v1;rw [inK_i64];omega) (by have:=TK0.c1;rw [inK_i64];omega) (Nat.le_trans HA.out.cap_le HA.out.max_le))
 rw [tok_right TK0] at RI
 have CI:=zH (fun w=>slide_any (H:Int) (V:Int) (C:Int) d.k d.s d.p (C:Int) w (by have:=TK0.h1;rw [inK_i64];omega) (by have:=TK0.v1;rw [inK_i64];omega) (by have:=TK0.c1;rw [inK_i64];omega) (by have:=TK0.c1;rw [inK_i64];omega))
 rw [TK0.h,TK0.v,TK0.c] at c2 ⊢
 obtain ⟨⟨⟨x1,x2,x3⟩,k⟩,hx⟩:∃ x,slideV H V C d.k d.s d.p C=x:=⟨_,rfl⟩
 rw [hx] at c2 CI ⊢
 have hk2:(k != 0)=true:=by rw [bne_iff_ne];exact c2
 clear hx c2
 have FR:=zH (Far.refl w)
 obtain ⟨w1,hw_w1,BA,k_w1⟩:=nB w (tN H V C A n cap) 27
 replace FR:=zH (FR.out.fut k_w1)
 clear k_w1
 obtain ⟨w2,hw_w2,BN,k_w2⟩:=nB w1 (nN d.kind d.a d.b d.k d.s d.p d.out d.za d.zb W nw cw B nb cb d.qm d.qs d.qz d.rm d.rs d.rz d.lo d.hi) 44
 replace FR:=zH (FR.out.fut k_w2)
 replace BA:=zH (BA.out.fut k_w2)
 clear k_w2
 obtain ⟨w3,hw_w3,BR,k_w3⟩:=nB w2 (tN 0 0 0 none 0 0) 27
 replace FR:=zH (FR.out.fut k_w3)
 replace BA:=zH (BA.out.fut k_w3)
 replace BN:=zH (BN.out.fut k_w3)
 clear k_w3
 have l1:w.heap.size < w1.heap.size:=by rw [← hw_w1];simp
 have l2:w1.heap.size < w2.heap.size:=by rw [← hw_w2];simp
 have l3:w2.heap.size < w3.heap.size:=by rw [← hw_w3];simp
 go_enter Tryz.func79,Tryz.ntmps79
 go_wp2_with (first|(refine lB 27 (.tmp 3) w.heap.size BA.out Tryz.underlying27 ?_)|(go_at_call 13;refine (RI.out _).mono ?_;rintro e w4 ⟨rfl,hb⟩;have l4:=hb.size;replace FR:=zH (FR.out.fut hb);replace BA:=zH (BA.out.fut hb);replace BN:=zH (BN.out.fut hb);replace BR:=zH (BR.out.fut hb);clear hb hw_w1 hw_w2 hw_w3;have a2:=BA.out.cell 2;have b3:=BN.out.cell 3;have b4:=BN.out.cell 4;have b5:=BN.out.cell 5;simp only [gX] at a2 b3 b4 b5)|(refine wpList_load_blk rfl 24 (.tmp 18) rfl w.heap.size 0 rfl _ (tN H V C A n cap) (sN H V C) _ BA.out Tryz.underlying24 rfl (by kernel_rfl) rfl ?_))
 refine (CI.out _).mono ?_
 clear a2 b3 b4 b5
 rintro e w5 ⟨rfl,hb⟩
 simp only [retS]
 have l5:=hb.size
 replace FR:=zH (FR.out.fut hb)
 replace BA:=zH (BA.out.fut hb)
 replace BN:=zH (BN.out.fut hb)
 replace BR:=zH (BR.out.fut hb)
 clear hb
 obtain ⟨w6,hw_w6,BD,k_w6⟩:=nB w5 (sN x1 x2 x3) 24
 replace FR:=zH (FR.out.fut k_w6)
 replace BA:=zH (BA.out.fut k_w6)
 replace BN:=zH (BN.out.fut k_w6)
 replace BR:=zH (BR.out.fut k_w6)
 clear k_w6
 go_wp2_with (refine sB 27 (.tmp 6) (.tmp 34) w2.heap.size (tN 0 0 0 none 0 0) BR.out ?_;intro w9 B9 g9)
 refine rC B9 Tryz.underlying27 ?_
 exact RetT.none (FR.out.away g9 (by omega)).out
theorem made_good (ff:Nat) (U:List Int → Int) (hU0:U []=0) (hUi:∀ l,InK .i8 (U l)) (hff:∀ (A:Option Addr) (n cap:Nat) (l:List Int) (w:World),Sl (tInt .i8) w (blo w.heap.size) A n cap l → n≤1024 → 1≤n → Calls Tryz.prog ff #[.slice A n cap] w fun e w'=>e=.returned (.int .i8 (U l))∧Below w.heap.size w w') (heg:∀ args w,(callFunc ff args).run Tryz.prog w=.ok (.enter ff args) w) (t:Tensor) (A:Option Addr) (n cap:Nat) (d:Node) (W:Option Addr) (nw cw:Nat) (B:Option Addr) (nb cb:Nat) (w:World)
  (ha:Sl (tInt .i8) w (blo w.heap.size) A n cap t.data) (c1:t.ok=true) (c2:(slideV t.h t.v t.c d.k d.s d.p t.c).2=0) :
  Calls Tryz.prog 79 #[.agg (tN t.h t.v t.c A n cap),.agg (nN d.kind d.a d.b d.k d.s d.p d.out d.za d.zb W nw cw B nb cb d.qm d.qs d.qz d.rm d.rs d.rz d.lo d.hi),.func (.func ff) #[] #[]] w (RetT .i8 (poolQ U t d).1 (poolQ U t d).2 w):=by
 have HA:=zH ha
 obtain ⟨H,V,C,TK0⟩:=tok_of c1
 have en:t.data.length=n:=HA.out.n_eq
 rw [en] at TK0
 have RI:=zH (fun w=>tensorRight_any (H:Int) (V:Int) (C:Int) A n cap w (by have:=TK0.h1;rw [inK_i64];omega) (by have:=TK0.v1;rw [inK_i64];omega) (by have:=TK0.c1;rw [inK_i64];omega) (Nat.le_trans HA.out.cap_le HA.out.max_le))
 rw [tok_right TK0] at RI
 have CI:=zH (fun w=>slide_any (H:Int) (V:Int) (C:Int) d.k d.s d.p (C:Int) w (by have:=TK0.h1;rw [inK_i64];omega) (by have:=TK0.v1;rw [inK_i64];omega) (by have:=TK0.c1;rw [inK_i64];omega) (by have:=TK0.c1;rw [inK_i64];omega))
 obtain ⟨H',V',C',K,S,P,Ho,Wo,TK,WK,hx,el,ev⟩:=pool_nat (U:=U) c1 c2
 rw [en] at TK
 obtain rfl:H=H':=by have:=TK.h;have:=TK0.h;omega
 obtain rfl:V=V':=by have:=TK.v;have:=TK0.v;omega
 obtain rfl:C=C':=by have:=TK.c;have:=TK0.c;omega
 rw [ev]
 rw [TK.h,TK.v,TK.c] at hx ⊢
 rw [hx] at CI
 have TK:=zH TK
 have WK:=zH WK
 have EL:=zH (fun w=>elems_any (Ho:Int) (C:Int) (Wo:Int) w (by have:=WK.out.ho1;rw [inK_i64];omega) (by have:=WK.out.wo1;rw [inK_i64];omega) (by have:=WK.out.co1;rw [inK_i64];omega))
 rw [el] at EL
 have hN:=WK.out.no
 obtain ⟨N,hNe⟩:∃ N,Ho*Wo*C=N:=⟨_,rfl⟩
 rw [hNe] at EL hN ⊢
 have NE:=zH hNe
 obtain ⟨PF,hPF⟩:∃ f,poolF U H V C t.data K S P Wo=f:=⟨_,rfl⟩
 rw [hPF]
 have HPF:=zH hPF
 have HU:=zH (And.intro hU0 hUi)
 have HFF:=zH hff
 have WN:=zH (fun (y x o:Nat) (hy:y≤1000) (hx:x≤1000) (ho:o < C) (wq:World) (ha:Sl (tInt .i8) wq (blo wq.heap.size) A n cap t.data) =>
  window_any H V C A n cap t.data d W nw cw B nb cb K S P y x o wq ha TK.out.n_eq TK.out.n_le TK.out.h1 TK.out.v1 TK.out.c1 (tok_elems TK.out) WK.out.k WK.out.s WK.out.p WK.out.k1 WK.out.s1 WK.out.p1.1 hy hx ho)
 have ub1:(Ho:Int)≤16:=by have:=WK.out.ho1;omega
 have ub2:1≤(Wo:Int)∧(Wo:Int)≤16:=by have:=WK.out.wo1;omega
 have ub3:1≤(C:Int)∧(C:Int)≤1024:=by have:=WK.out.co1;omega
 clear c1 c2 hx el ev hNe hPF hU0 hUi hff en TK0 ha
 have FR:=zH (Far.refl w)
 obtain ⟨w1,hw_w1,BA,k_w1⟩:=nB w (tN H V C A n cap) 27
 replace FR:=zH (FR.out.fut k_w1)
 clear k_w1
 obtain ⟨w2,hw_w2,BN,k_w2⟩:=nB w1 (nN d.kind d.a d.b d.k d.s d.p d.out d.za d.zb W nw cw B nb cb d.qm d.qs d.qz d.rm d.rs d.rz d.lo d.hi) 44
 replace FR:=zH (FR.out.fut k_w2)
 replace BA:=zH (BA.out.fut k_w2)
 clear k_w2
 obtain ⟨w3,hw_w3,BR,k_w3⟩:=nB w2 (tN 0 0 0 none 0 0) 27
 replace FR:=zH (FR.out.fut k_w3)
 replace BA:=zH (BA.out.fut k_w3)
 replace BN:=zH (BN.out.fut k_w3)
 clear k_w3
 have l1:w.heap.size < w1.heap.size:=by rw [← hw_w1];simp
 have l2:w1.heap.size < w2.heap.size:=by rw [← hw_w2];simp
 have l3:w2.heap.size < w3.heap.size:=by rw [← hw_w3];simp
 go_enter Tryz.func79,Tryz.ntmps79
 go_wp2_with (first|(refine lB 27 (.tmp 3) w.heap.size BA.out Tryz.underlying27 ?_)|(go_at_call 13;refine (RI.out _).mono ?_;rintro e w4 ⟨rfl,hb⟩;have l4:=hb.size;replace FR:=zH (FR.out.fut hb);replace BA:=zH (BA.out.fut hb);replace BN:=zH (BN.out.fut hb);replace BR:=zH (BR.out.fut hb);clear hb hw_w1 hw_w2 hw_w3;have a2:=BA.out.cell 2;have b3:=BN.out.cell 3;have b4:=BN.out.cell 4;have b5:=BN.out.cell 5;simp only [gX] at a2 b3 b4 b5)|(refine wpList_load_blk rfl 24 (.tmp 18) rfl w.heap.size 0 rfl _ (tN H V C A n cap) (sN H V C) _ BA.out Tryz.underlying24 rfl (by kernel_rfl) rfl ?_))
 refine (CI.out _).mono ?_
 clear a2 b3 b4 b5
 rintro e w5 ⟨rfl,hb⟩
 simp only [retS]
 have l5:=hb.size
 replace FR:=zH (FR.out.fut hb)
 replace BA:=zH (BA.out.fut hb)
 replace BN:=zH (BN.out.fut hb)
 replace BR:=zH (BR.out.fut hb)
 clear hb
 obtain ⟨w6,hw_w6,BD,k_w6⟩:=nB w5 (sN (Ho:Int) (Wo:Int) (C:Int)) 24
 replace FR:=zH (FR.out.fut k_w6)
 replace BA:=zH (BA.out.fut k_w6)
 replace BN:=zH (BN.out.fut k_w6)
 replace BR:=zH (BR.out.fut k_w6)
 clear k_w6
 have l56:w5.heap.size < w6.heap.size:=by rw [← hw_w6];simp
 go_wp2_with fail
 clear hw_w6
 go_cut [10] (fun b wx=>∃ g q,b=.pointer (some ⟨g,0,none⟩)∧Blk wx g 27 (tN (Ho:Int) (Wo:Int) (C:Int) (some ⟨q,0,none⟩) (N) (N))∧Own (tInt .i8) wx (fun _=>False) w6.heap.size 39 (.slice (some ⟨q,0,none⟩) (N) (N)) (N) (List.replicate (N) 0)∧q ≠ g∧w6.heap.size≤g∧Below w6.heap.size w6 wx)
 case first =>
  refine wp_region_held_drew (S:=fun w'=>Blk w' (w5.heap.size) 24 (sN (Ho:Int) (Wo:Int) (C:Int))∧Below w6.heap.size w6 w') (by kernel_rfl) ?_ (fun hS=>?_)
  ·exact ⟨BD.out.drew,(Below.refl _ _).drew⟩
  refine tkH 0 rfl (yieldsIf_load_blk (by rfl) 24 (.tmp 8) rfl w5.heap.size 0 rfl _ _ (sN (Ho:Int) (Wo:Int) (C:Int)) _ (fun w hs=>hs.1) Tryz.underlying24 rfl (by kernel_rfl) rfl) hS ?_
  try simp only [pX]
  refine tkH 1 rfl (yieldsIf_load_blk (by rfl) 24 (.tmp 8) rfl w5.heap.size 0 rfl _ _ (sN (Ho:Int) (Wo:Int) (C:Int)) _ (fun w hs=>hs.1) Tryz.underlying24 rfl (by kernel_rfl) rfl) hS ?_
  try simp only [pX]
  refine wpAnyH_ready (rs:=[2,5]) (by kernel_rfl) (by simp) ?_
  refine AllReadyH.cons rfl (fun K hK=>?_) (AllReadyH.cons rfl (fun K hK=>?_) AllReadyH.nil)
  ·go_simp
   refine (EL.out _).mono ?_
   rintro e wa ⟨rfl,hb⟩
   refine hK.out _ _ ?_ (fun hS=>?_)
   ·exact ⟨Blk.later hS.1 hb,below_later hb hS.2⟩
   clear hK K
   try simp only [pX]
   refine wpAnyH_ready (rs:=[3,5]) (by kernel_rfl) (by simp) ?_
   refine AllReadyH.cons rfl (fun K hK=>?_) (AllReadyH.cons rfl (fun K hK=>?_) AllReadyH.nil)
   ·rw [if_pos (by rfl)]
    have zq:w6.heap.size≤wa.heap.size:=hS.2.size
    refine oper_make (k:=.i8) (base:=w6.heap.size) (n:=N) (.tmp 38) (.tmp 38) rfl ei_b8 .i64 .i64 rfl rfl (by omega) (by unfold maxLen;omega) zq (by decide) ?_
    intro wm own gm
    have OW:=zH (show Own (tInt .i8) wm (fun _=>False) w6.heap.size 39 (.slice (some ⟨wa.heap.size,0,none⟩) (N) (N)) (N) (List.replicate (N) 0) by first|exact own|simpa [World.size_alloc] using own)
    refine hK.out _ _ ⟨Blk.grown0 hS.1 gm,hS.2.grown gm zq (by simp)⟩ (fun hS=>?_)
    clear hK K own gm
    try simp only [pX]
    refine kH 4 rfl hS ?_
    try simp only [pX]
    refine rH 5 rfl (fun K hK=>?_)
    go_simp
    have zg:w6.heap.size≤wm.heap.size:=hS.2.size
    have hb:Below wm.heap.size wm (wm.alloc (.cells (tN 0 0 0 none 0 0) 27)):=(Below.refl _ _).alloc (Nat.le_refl _) _
    have BZ:=zH (Blk.now wm wm.heap.size 27 (tN 0 0 0 none 0 0) rfl)
    have ltq:wa.heap.size < wm.heap.size:=(OW.out.lt _ rfl).2
    replace OW:=zH (OW.out.below hb (Nat.le_refl _) (fun _ h=>h.elim))
    refine hK.out _ _ ?_ (fun hS=>?_)
    ·exact ⟨Blk.later hS.1 hb,below_later hb hS.2⟩
    clear hK K
    try simp only [pX]
    refine rH 6 rfl (fun K hK=>?_)
    rw [if_pos (by rfl)]
    refine oper_store_blk 27 (.tmp 10) (.tmp 40) rfl wm.heap.size 0 (tN (Ho:Int) (Wo:Int) (C:Int) (some ⟨wa.heap.size,0,none⟩) (N) (N)) rfl rfl _ (tN 0 0 0 none 0 0) (tN (Ho:Int) (Wo:Int) (C:Int) (some ⟨wa.heap.size,0,none⟩) (N) (N)) BZ.out (by simp) (by kernel_rfl) (by simp [Value.oneCell']) rfl ?_
    intro wc BX gc
    have hne:wa.heap.size ≠ wm.heap.size:=by have:=ltq;omega
    replace OW:=zH (OW.out.flat gc (.inr (by first|(simp [Value.ownBlock];done)|(simp [Value.ownBlock];exact hne))) (fun _ h=>h))
    refine hK.out _ _ ⟨hS.1.away gc (by have:=l56;have:=zg;simp only [World.size_drew] at *;omega),hS.2.grown gc hS.2.size (fun k h=>by have:=Option.some.inj h;have:=zg;simp only [World.size_drew] at *;omega)⟩ (fun hS=>?_)
    clear hK K
    try simp only [pX]
    refine wpAnyH_done (by kernel_rfl) ?_ _
    have FZ:=hS.2
    go_wp2_with fail
    go_meet
    case rel=>exact ⟨_,_,rfl,BX,OW.out,hne,zg,FZ⟩
   ·go_simp
    have zg:w6.heap.size≤wa.heap.size:=hS.2.size
    have hb:Below wa.heap.size wa (wa.alloc (.cells (tN 0 0 0 none 0 0) 27)):=(Below.refl _ _).alloc (Nat.le_refl _) _
    have BZ:=zH (Blk.now wa wa.heap.size 27 (tN 0 0 0 none 0 0) rfl)
    refine hK.out _ _ ?_ (fun hS=>?_)
    ·exact ⟨Blk.later hS.1 hb,below_later hb hS.2⟩
    clear hK K
    try simp only [pX]
    refine rH 3 rfl (fun K hK=>?_)
    rw [if_pos (by rfl)]
    have zq:w6.heap.size≤(wa.alloc (.cells (tN 0 0 0 none 0 0) 27)).heap.size:=hS.2.size
    refine oper_make (k:=.i8) (base:=w6.heap.size) (n:=N) (.tmp 38) (.tmp 38) rfl ei_b8 .i64 .i64 rfl rfl (by omega) (by unfold maxLen;omega) zq (by decide) ?_
    intro wm own gm
    have OW:=zH (show Own (tInt .i8) wm (fun _=>False) w6.heap.size 39 (.slice (some ⟨(wa.heap.size+1),0,none⟩) (N) (N)) (N) (List.replicate (N) 0) by first|exact own|simpa [World.size_alloc] using own)
    replace BZ:=zH (BZ.out.grown0 gm)
    refine hK.out _ _ ⟨Blk.grown0 hS.1 gm,hS.2.grown gm zq (by simp)⟩ (fun hS=>?_)
    clear hK K own gm
    try simp only [pX]
    refine kH 4 rfl hS ?_
    try simp only [pX]
    refine rH 6 rfl (fun K hK=>?_)
    rw [if_pos (by rfl)]
    refine oper_store_blk 27 (.tmp 10) (.tmp 40) rfl wa.heap.size 0 #[.int .i64 (Ho:Int),.int .i64 (Wo:Int),.int .i64 (C:Int),.slice (some ⟨(wa.heap.size+1),0,none⟩) (N) (N)] rfl rfl _ (tN 0 0 0 none 0 0) #[.int .i64 (Ho:Int),.int .i64 (Wo:Int),.int .i64 (C:Int),.slice (some ⟨(wa.heap.size+1),0,none⟩) (N) (N)] BZ.out (by simp) (by kernel_rfl) (by simp [Value.oneCell']) rfl ?_
    intro wc BX gc
    have hne:(wa.heap.size+1) ≠ wa.heap.size:=by omega
    replace OW:=zH (OW.out.flat gc (.inr (by first|(simp [Value.ownBlock];done)|(simp [Value.ownBlock];exact hne))) (fun _ h=>h))
    refine hK.out _ _ ⟨hS.1.away gc (by have:=l56;have:=zg;simp only [World.size_drew] at *;omega),hS.2.grown gc hS.2.size (fun k h=>by have:=Option.some.inj h;have:=zg;simp only [World.size_drew] at *;omega)⟩ (fun hS=>?_)
    clear hK K
    try simp only [pX]
    refine wpAnyH_done (by kernel_rfl) ?_ _
    have FZ:=hS.2
    go_wp2_with fail
    go_meet
    case rel=>exact ⟨_,_,rfl,BX,OW.out,hne,zg,FZ⟩
  ·go_simp
   have zg:w6.heap.size≤w6.heap.size:=hS.2.size
   have hb:Below w6.drew.heap.size w6.drew (w6.drew.alloc (.cells (tN 0 0 0 none 0 0) 27)):=(Below.refl _ _).alloc (Nat.le_refl _) _
   have BZ:=zH (Blk.now w6.drew w6.heap.size 27 (tN 0 0 0 none 0 0) rfl)
   refine hK.out _ _ ?_ (fun hS=>?_)
   ·exact ⟨Blk.later hS.1 hb,below_later hb hS.2⟩
   clear hK K
   try simp only [pX]
   refine rH 2 rfl (fun K hK=>?_)
   go_simp
   refine (EL.out _).mono ?_
   rintro e wa ⟨rfl,hb⟩
   replace BZ:=zH (BZ.out.later hb)
   have zwa:=BZ.out.lt
   refine hK.out _ _ ?_ (fun hS=>?_)
   ·exact ⟨Blk.later hS.1 hb,below_later hb hS.2⟩
   clear hK K
   try simp only [pX]
   refine rH 3 rfl (fun K hK=>?_)
   rw [if_pos (by rfl)]
   have zq:w6.heap.size≤wa.heap.size:=hS.2.size
   refine oper_make (k:=.i8) (base:=w6.heap.size) (n:=N) (.tmp 38) (.tmp 38) rfl ei_b8 .i64 .i64 rfl rfl (by omega) (by unfold maxLen;omega) zq (by decide) ?_
   intro wm own gm
   have OW:=zH (show Own (tInt .i8) wm (fun _=>False) w6.heap.size 39 (.slice (some ⟨wa.heap.size,0,none⟩) (N) (N)) (N) (List.replicate (N) 0) by first|exact own|simpa [World.size_alloc] using own)
   replace BZ:=zH (BZ.out.grown0 gm)
   refine hK.out _ _ ⟨Blk.grown0 hS.1 gm,hS.2.grown gm zq (by simp)⟩ (fun hS=>?_)
   clear hK K own gm
   try simp only [pX]
   refine kH 4 rfl hS ?_
   try simp only [pX]
   refine rH 6 rfl (fun K hK=>?_)
   rw [if_pos (by rfl)]
   refine oper_store_blk 27 (.tmp 10) (.tmp 40) rfl w6.heap.size 0 (tN (Ho:Int) (Wo:Int) (C:Int) (some ⟨wa.heap.size,0,none⟩) (N) (N)) rfl rfl _ (tN 0 0 0 none 0 0) (tN (Ho:Int) (Wo:Int) (C:Int) (some ⟨wa.heap.size,0,none⟩) (N) (N)) BZ.out (by simp) (by kernel_rfl) (by simp [Value.oneCell']) rfl ?_
   intro wc BX gc
   have hne:wa.heap.size ≠ w6.heap.size:=by have:=zwa;omega
   replace OW:=zH (OW.out.flat gc (.inr (by first|(simp [Value.ownBlock];done)|(simp [Value.ownBlock];exact hne))) (fun _ h=>h))
   refine hK.out _ _ ⟨hS.1.away gc (by have:=l56;have:=zg;simp only [World.size_drew] at *;omega),hS.2.grown gc hS.2.size (fun k h=>by have:=Option.some.inj h;have:=zg;simp only [World.size_drew] at *;omega)⟩ (fun hS=>?_)
   clear hK K
   try simp only [pX]
   refine wpAnyH_done (by kernel_rfl) ?_ _
   have FZ:=hS.2
   go_wp2_with fail
   go_meet
   case rel=>exact ⟨_,_,rfl,BX,OW.out,hne,zg,FZ⟩
 case rest =>
  obtain ⟨g,q,rfl,bg,own,hqg,zg,b4⟩:=hcut
  obtain ⟨w7,rfl⟩:∃ x,x=wc:=⟨_,rfl⟩
  have BG:=zH bg
  have lq:w6.heap.size≤q∧q < w7.heap.size:=own.lt _ rfl
  have lg5:=bg.lt
  rw [← stF_none PF (fun j=>decide (j < 0)) N (fun j _=>by simp)] at own
  have ON:=zH own
  clear bg own CI RI
  replace FR:=zH (FR.out.fut b4)
  replace BA:=zH (BA.out.fut b4)
  replace BN:=zH (BN.out.fut b4)
  replace BR:=zH (BR.out.fut b4)
  replace BD:=zH (BD.out.fut b4)
  clear b4
  have g3:=BG.out.cell 3
  go_wp2_with fail
  clear g3
  go_loopw [44] (fun ii wr=>∃ k:Nat,k≤N∧ii=.int .i64 k∧Far w wr∧Blk wr w.heap.size 27 (tN H V C A n cap)∧Blk wr w1.heap.size 44 (nN d.kind d.a d.b d.k d.s d.p d.out d.za d.zb W nw cw B nb cb d.qm d.qs d.qz d.rm d.rs d.rz d.lo d.hi)∧Blk wr w2.heap.size 27 (tN 0 0 0 none 0 0)∧Blk wr w5.heap.size 24 (sN (Ho:Int) (Wo:Int) (C:Int))∧Blk wr g 27 (tN (Ho:Int) (Wo:Int) (C:Int) (some ⟨q,0,none⟩) N N)∧Own (tInt .i8) wr (fun _=>False) w6.heap.size 39 (.slice (some ⟨q,0,none⟩) N N) N (stF PF (fun j=>decide (j < k)) N)) (fun ii _=>N - (intOf ii).toNat)
  case atStart=>exact ⟨0,Nat.zero_le _,rfl,FR.out,BA.out,BN.out,BR.out,BD.out,BG.out,ON.out⟩
  case round =>
   obtain ⟨k,hk,rfl,f0,f1,f2,f3,f4,f5,f6⟩:=hrel
   clear FR BA BN BR BD BG ON
   have FR:=zH f0
   have BA:=zH f1
   have BN:=zH f2
   have BR:=zH f3
   have BD:=zH f4
   have BG:=zH f5
   have ON:=zH f6
   clear f0 f1 f2 f3 f4 f5 f6
   by_cases hlt:k < N
   ·have p1:(k:Int) < (N:Int):=by omega
    go_wp2_with fail
    obtain ⟨a1,ha1⟩:∃ m,k / C=m:=⟨_,rfl⟩
    obtain ⟨yb,hyb⟩:∃ m,a1 / Wo=m:=⟨_,rfl⟩
    obtain ⟨xb,hxb⟩:∃ m,a1 % Wo=m:=⟨_,rfl⟩
    obtain ⟨cb',hcb⟩:∃ m,k % C=m:=⟨_,rfl⟩
    have k1:a1≤1000000:=by rw [← ha1];exact Nat.le_trans (Nat.div_le_self _ _) (by omega)
    have byb:yb≤1000:=by
     rw [← hyb,← ha1]
     have:k / C / Wo < Ho:=by
      rw [Nat.div_lt_iff_lt_mul (by omega),Nat.div_lt_iff_lt_mul (by omega),NE.out];exact hlt
     omega
    have bxb:xb≤1000:=by rw [← hxb];have:=Nat.mod_lt a1 (show Wo > 0 by omega);omega
    have bcb:cb' < C:=by rw [← hcb];exact Nat.mod_lt _ (by omega)
    have hC0:¬ C=0:=by omega
    have hW0:¬ Wo=0:=by omega
    have d1:(k:Int).tdiv (C:Int)=(a1:Int):=by rw [← ha1,Int.tdiv_eq_ediv_of_nonneg (by omega)];simp
    have d2:(a1:Int).tdiv (Wo:Int)=(yb:Int):=by rw [← hyb,Int.tdiv_eq_ediv_of_nonneg (by omega)];simp
    have d3:(a1:Int).tmod (Wo:Int)=(xb:Int):=by rw [← hxb,Int.tmod_eq_emod_of_nonneg (by omega)];simp
    have d4:(k:Int).tmod (C:Int)=(cb':Int):=by rw [← hcb,Int.tmod_eq_emod_of_nonneg (by omega)];simp
    have e1:IntKind.i64.wrap (a1:Int)=(a1:Int):=IntWalk.i64_in _ (by omega)
    have e2:IntKind.i64.wrap (yb:Int)=(yb:Int):=IntWalk.i64_in _ (by omega)
    have e3:IntKind.i64.wrap (xb:Int)=(xb:Int):=IntWalk.i64_in _ (by omega)
    have e4:IntKind.i64.wrap (cb':Int)=(cb':Int):=IntWalk.i64_in _ (by omega)
    obtain ⟨WL,hWL⟩:∃ L,winL H V C t.data K S P cb' yb xb (K*K)=L:=⟨_,rfl⟩
    have CW:=zH (fun wq ha=>WN.out yb xb cb' byb bxb bcb wq ha)
    rw [hWL] at CW
    have FK:=zH (show PF k=U WL by rw [← HPF.out];unfold poolF;rw [hcb,ha1,hyb,hxb,hWL])
    have WLL:=zH (show WL.length≤1024 by rw [← hWL];exact Nat.le_trans (winL_len _ _ _ _ _ _ _ _ _ _ _) (Nat.le_trans (Nat.mul_le_mul WK.out.k1.2 WK.out.k1.2) (by decide)))
    clear hWL ha1 hyb hxb hcb
    have fd:Below wr.heap.size wr wr.drew:=(Below.refl _ _).drew
    have x1:=(BD.out.fut fd).cell 1
    have x2:=(BD.out.fut fd).cell 2
    simp only [gX] at x1 x2
    refine wp_region_T (fun w'=>w'.cell? ⟨w5.heap.size,1,none⟩=some (.int .i64 Wo)∧w'.cell? ⟨w5.heap.size,2,none⟩=some (.int .i64 C)∧Below wr.heap.size wr w') 22 (by kernel_rfl) ?_ (fun hS=>?_)
    ·exact ⟨x1,x2,fd⟩
    refine tkT 0 rfl (yB 27 (.tmp 3) w.heap.size (fun w hs=>BA.out.later hs.2.2) Tryz.underlying27) hS ?_
    try simp only [pX]
    refine tkT 1 rfl (yB 44 (.tmp 4) w1.heap.size (fun w hs=>BN.out.later hs.2.2) Tryz.underlying44) hS ?_
    try simp only [pX]
    refine kT 2 rfl hS ?_
    try simp only [pX]
    refine kT 3 rfl hS ?_
    try simp only [pX]
    refine kT 4 rfl hS ?_
    try simp only [pX]
    refine kT 5 rfl hS ?_
    try simp only [pX]
    refine kT 6 rfl hS ?_
    try simp only [pX]
    refine kT 7 rfl hS ?_
    try simp only [pX]
    refine kT 8 rfl hS ?_
    try simp only [pX]
    refine kT 9 rfl hS ?_
    try simp only [pX]
    refine kT 10 rfl hS ?_
    try simp only [pX]
    refine kT 11 rfl hS ?_
    try simp only [pX]
    refine kT 12 rfl hS ?_
    try simp only [pX]
    refine kT 13 rfl hS ?_
    try simp only [pX]
    refine kT 14 rfl hS ?_
    try simp only [pX]
    refine kT 15 rfl hS ?_
    try simp only [pX]
    refine kT 16 rfl hS ?_
    try simp only [pX]
    refine kT 17 rfl hS ?_
    try simp only [pX]
    refine kT 18 rfl hS ?_
    try simp only [pX]
    refine kT 19 rfl hS ?_
    try simp only [pX]
    refine wpAnyT_one (i:=20) (by kernel_rfl) rfl rfl (fun K hK=>?_)
    go_simp
    refine (CW.out _ ((Old.now HA.out).fut (FR.out.fut hS.2.2).out).all).mono ?_;rintro e w8 ⟨Fv,rfl,hb,CC⟩
    refine hK.out _ _ ?_ (fun hS=>?_)
    ·exact ⟨(by first|exact cell_later hb hS.1|exact Blk.later hS.1 hb),(by first|exact cell_later hb hS.2.1|exact Blk.later hS.2.1 hb),(by first|exact below_later hb hS.2.2|exact grown_below hS.2.2 hb)⟩
    clear hK K
    try simp only [pX]
    refine wpAnyT_one (i:=21) (by kernel_rfl) rfl rfl (fun K hK=>?_)
    go_simp
    refine CC.mono ?_;rintro e w9 ⟨RA,rn,rc,rfl,rs,hb⟩;have RS:=zH rs.old;have lrn:=rs.n_eq;have mrn:rn≤9223372036854775807:=Nat.le_trans rs.cap_le rs.max_le;clear CC rs
    refine hK.out _ _ ?_ (fun hS=>?_)
    ·exact ⟨(by first|exact cell_later hb hS.1|exact Blk.later hS.1 hb),(by first|exact cell_later hb hS.2.1|exact Blk.later hS.2.1 hb),(by first|exact below_later hb hS.2.2|exact grown_below hS.2.2 hb)⟩
    clear hK K
    try simp only [pX]
    refine wpAnyT_tail _ _ rfl rfl (by kernel_rfl) ?_
    have kd:=hS.2.2
    replace ON:=zH (ON.out.below kd (Nat.le_refl _) (fun _ h=>h.elim))
    replace FR:=zH (FR.out.fut kd)
    replace BA:=zH (BA.out.fut kd)
    replace BN:=zH (BN.out.fut kd)
    replace BR:=zH (BR.out.fut kd)
    replace BD:=zH (BD.out.fut kd)
    replace BG:=zH (BG.out.fut kd)
    clear kd
    clear x1 x2 hS fd hb d1 d2 d3 d4 e1 e2 e3 e4
    by_cases r0:0 < rn
    ·have r0':(0:Int) < (rn:Int):=by omega
     have lg9:=BG.out.lt
     have FU:=zH (HFF.out RA rn rc WL)
     go_wp2_with fail
     have fd:Below w9.heap.size w9 w9.drew:=(Below.refl _ _).drew
     have cd:=(BG.out.fut fd).cell 3
     simp only [gX] at cd
     refine wp_region_T (fun w'=>w'.cell? ⟨g,3,none⟩=some (.slice (some ⟨q,0,none⟩) N N)∧Below w9.heap.size w9 w') 6 (by kernel_rfl) ?_ (fun hS=>?_)
     ·exact ⟨cd,fd⟩
     refine kT 0 rfl hS ?_
     try simp only [pX]
     refine kT 1 rfl hS ?_
     try simp only [pX]
     refine kT 2 rfl hS ?_
     try simp only [pX]
     refine kT 3 rfl hS ?_
     try simp only [pX]
     refine kT 4 rfl hS ?_
     try simp only [pX]
     refine wpAnyT_one (i:=5) (by kernel_rfl) rfl rfl (fun K hK=>?_)
     go_simp
     refine (FU.out _ (RS.out.fut hS.2) (by have:=WLL.out;omega) (by omega)).mono ?_;rintro e wa ⟨rfl,hb⟩
     refine hK.out _ _ ?_ (fun hS=>?_)
     ·exact ⟨(by first|exact cell_later hb hS.1|exact Blk.later hS.1 hb),(by first|exact below_later hb hS.2|exact grown_below hS.2 hb)⟩
     clear hK K
     try simp only [pX]
     refine wpAnyT_tail _ _ rfl rfl (by kernel_rfl) ?_
     have hb:=hS.2
     have O4:=zH (ON.out.below hb (Nat.le_refl _) (fun _ h=>h.elim))
     replace FR:=zH (FR.out.fut hb)
     replace BA:=zH (BA.out.fut hb)
     replace BN:=zH (BN.out.fut hb)
     replace BR:=zH (BR.out.fut hb)
     replace BD:=zH (BD.out.fut hb)
     replace BG:=zH (BG.out.fut hb)
     clear hb
     obtain ⟨x1,u1,-,-,c5,c6,c7,-⟩:=O4.out.cell rfl k hlt
     go_wp2_with fail
     obtain ⟨o3,g3⟩:=O4.out.set1 rfl k (.int .i8 (U WL)) (U WL) ⟨rfl,HU.out.2 WL⟩ (fun _ h=>h.elim)
     rw [← FK.out,stF_more] at o3
     rw [← FK.out]
     exact ⟨⟨k+1,by omega,by go_num,FR.out.away (by rw [FK.out];exact g3) (by omega),BA.out.away (by rw [FK.out];exact g3) (.inl (by omega)),BN.out.away (by rw [FK.out];exact g3) (.inl (by omega)),BR.out.away (by rw [FK.out];exact g3) (.inl (by omega)),BD.out.away (by rw [FK.out];exact g3) (.inl (by omega)),BG.out.away (by rw [FK.out];exact g3) (by omega),o3⟩,by simp [intOf];omega⟩
    ·obtain rfl:rn=0:=by omega
     obtain rfl:WL=[]:=List.length_eq_zero_iff.1 lrn
     have r0':¬ (0:Int) < ((0:Nat):Int):=by omega
     go_wp2_with fail
     have o3:=ON.out
     rw [stF_skip PF k N (by rw [FK.out];exact HU.out.1)] at o3
     exact ⟨⟨k+1,by omega,by go_num,FR.out,BA.out,BN.out,BR.out,BD.out,BG.out,o3⟩,by simp [intOf];omega⟩
   ·obtain rfl:k=N:=by omega
    go_wp2_with (first|(refine lB 27 (.tmp 10) g BG.out Tryz.underlying27 ?_)|(refine sB 27 (.tmp 6) (.tmp 80) w2.heap.size (tN (Ho:Int) (Wo:Int) (C:Int) (some ⟨q,0,none⟩) k k) BR.out ?_;intro w9 B9 g9))
    have e1:=ON.out
    rw [stF_all _ _ _ (fun j hj=>by simpa using hj)] at e1
    have e2:=e1.flat g9 (.inr (by simp [Value.ownBlock];omega)) (fun _ h=>h)
    refine rC B9 Tryz.underlying27 ?_
    have FE:=FR.out.away g9 (by omega)
    obtain ⟨A2,c2,hv,s⟩:=e2.sl (S':=bin w.heap.size _) (by decide) (fun b h1 h2=>⟨by omega,h2⟩) (fun b h=>h.elim)
    injection hv with hv1 hv2 hv3
    subst hv1 hv3
    exact ⟨_,_,_,rfl,s,FE.out⟩
end Go.Proofs.YtjkmjpjknmghlaaGreat
namespace Go.Proofs.YtjkmjpjknmghlaaGreat
open Go.RowKit Go.ChangeShapes Go.WideShapes Fx
set_option maxRecDepth 100000
set_option maxHeartbeats 8000000
def maxW (l:List Int):Int:=if l.length=0 then 0 else hiN l l.length
theorem hiN_in {l:List Int} (h:∀ i,InK .i8 (l.getD i 0)):∀ n,InK .i8 (hiN l n)
 | 0=>h 0
 | n+1=>by
  unfold hiN
  split
  ·exact h n
  ·exact hiN_in h n
theorem w8_of {x:Int} (h:InK .i8 x):w8 x=x:=by rw [w8_eq];rw [inK_i8] at h;omega
def maxU (l:List Int):Int:=w8 (maxW l)
theorem maxU_of {l:List Int} (h:∀ i,InK .i8 (l.getD i 0)):maxU l=if l.length=0 then 0 else hiN l l.length:=by
 unfold maxU maxW
 split
 ·decide
 ·exact w8_of (hiN_in h _)
theorem meanV_nil:meanV []=0:=by decide
theorem maxU_nil:maxU []=0:=by decide
theorem poolMax_any (t:Tensor) (A:Option Addr) (n cap:Nat) (d:Node) (W:Option Addr) (nw cw:Nat) (B:Option Addr) (nb cb:Nat) (w:World)
  (ha:Sl (tInt .i8) w (blo w.heap.size) A n cap t.data) (c1:t.ok=true) :
  Calls Tryz.prog 43 #[.agg (tN t.h t.v t.c A n cap),.agg (nN d.kind d.a d.b d.k d.s d.p d.out d.za d.zb W nw cw B nb cb d.qm d.qs d.qz d.rm d.rs d.rz d.lo d.hi)] w (RetT .i8 (poolQ maxU t d).1 (poolQ maxU t d).2 w):=by
 have HA:=zH ha
 have MD:=zH (fun w ha=>show Calls Tryz.prog 79 #[.agg (tN t.h t.v t.c A n cap),.agg (nN d.kind d.a d.b d.k d.s d.p d.out d.za d.zb W nw cw B nb cb d.qm d.qs d.qz d.rm d.rs d.rz d.lo d.hi),.func (.func 80) #[] #[]] w (RetT .i8 (poolQ maxU t d).1 (poolQ maxU t d).2 w) from by
  by_cases c2:(slideV t.h t.v t.c d.k d.s d.p t.c).2=0
  ·exact made_good 80 maxU maxU_nil (fun l=>w8_in _) (fun A n cap l w hl hn h1=>by rw [maxU_of hl.allK,hl.n_eq,if_neg (by omega)];exact (greatest_any A n cap l w hl hn h1).mono fun e w' h=>⟨h.1,by rw [← h.2];exact Below.refl _ _⟩) (enters_of Tryz.func80 (by kernel_rfl) rfl) t A n cap d W nw cw B nb cb w ha c1 c2
  ·have e:poolQ maxU t d=(noTensor,(slideV t.h t.v t.c d.k d.s d.p t.c).2):=by unfold poolQ;rw [if_neg c2]
   rw [e]
   exact made_code 80 t A n cap d W nw cw B nb cb w ha c1 c2)
 obtain ⟨Q,hQ⟩:∃ q,poolQ maxU t d=q:=⟨_,rfl⟩
 rw [hQ] at MD ⊢
 have FR:=zH (Far.refl w)
 clear ha c1 hQ
 obtain ⟨w1,hw_w1,BA,k_w1⟩:=nB w (tN t.h t.v t.c A n cap) 27
 replace FR:=zH (FR.out.fut k_w1)
 clear k_w1
 obtain ⟨w2,hw_w2,BN,k_w2⟩:=nB w1 (nN d.kind d.a d.b d.k d.s d.p d.out d.za d.zb W nw cw B nb cb d.qm d.qs d.qz d.rm d.rs d.rz d.lo d.hi) 44
 replace FR:=zH (FR.out.fut k_w2)
 replace BA:=zH (BA.out.fut k_w2)
 clear k_w2
 obtain ⟨w3,hw_w3,BR,k_w3⟩:=nB w2 (tN 0 0 0 none 0 0) 27
 replace FR:=zH (FR.out.fut k_w3)
 replace BA:=zH (BA.out.fut k_w3)
 replace BN:=zH (BN.out.fut k_w3)
 clear k_w3
 have l1:w.heap.size < w1.heap.size:=by rw [← hw_w1];simp
 have l2:w1.heap.size < w2.heap.size:=by rw [← hw_w2];simp
 go_enter Tryz.func43,Tryz.ntmps43
 go_wp2_with (first|(refine lB 27 (.tmp 2) w.heap.size BA.out Tryz.underlying27 ?_)|(refine lB 44 (.tmp 3) w1.heap.size BN.out Tryz.underlying44 ?_))
 refine (MD.out _ ((Old.now HA.out).fut FR.out.out).all).mono ?_
 rintro e w4 ⟨A2,n2,c2,rfl,rs,hb⟩
 have BR4:=zH (BR.out.fut hb)
 have F4:=zH (FR.out.fut hb)
 have RS:=zH (New.of rs FR.out)
 have l34:=hb.size
 have lr:=BR.out.lt
 have hlow:=zH (show ∀ b,bin w3.heap.size w4.heap.size b → b ≠ w2.heap.size from fun b h e=>by have:=h.1;omega)
 have RS2:=zH rs
 clear hb rs hw_w1 hw_w2 hw_w3 MD
 go_wp2_with (refine sB 27 (.tmp 4) (.tmp 9) w2.heap.size (tN Q.1.h Q.1.v Q.1.c A2 n2 c2) BR4.out ?_;intro w9 B9 g9)
 refine rC B9 Tryz.underlying27 ?_
 have s9:=g9.size
 refine ⟨A2,n2,c2,rfl,?_,(F4.out.away g9 (by omega)).out⟩
 exact (RS2.out.keep (w':=w9) fun b h=>g9.block b (by have:=h.2;omega) (fun e=>hlow.out b h (by have:=Option.some.inj e;omega))).more fun b h=>⟨by have:=h.1;omega,by have:=h.2;omega⟩
theorem poolMean2_any (t:Tensor) (A:Option Addr) (n cap:Nat) (d:Node) (W:Option Addr) (nw cw:Nat) (B:Option Addr) (nb cb:Nat) (w:World)
  (ha:Sl (tInt .i8) w (blo w.heap.size) A n cap t.data) (c1:t.ok=true) :
  Calls Tryz.prog 44 #[.agg (tN t.h t.v t.c A n cap),.agg (nN d.kind d.a d.b d.k d.s d.p d.out d.za d.zb W nw cw B nb cb d.qm d.qs d.qz d.rm d.rs d.rz d.lo d.hi)] w (RetT .i8 (poolQ meanV t d).1 (poolQ meanV t d).2 w):=by
 have HA:=zH ha
 have MD:=zH (fun w ha=>show Calls Tryz.prog 79 #[.agg (tN t.h t.v t.c A n cap),.agg (nN d.kind d.a d.b d.k d.s d.p d.out d.za d.zb W nw cw B nb cb d.qm d.qs d.qz d.rm d.rs d.rz d.lo d.hi),.func (.func 81) #[] #[]] w (RetT .i8 (poolQ meanV t d).1 (poolQ meanV t d).2 w) from by
  by_cases c2:(slideV t.h t.v t.c d.k d.s d.p t.c).2=0
  ·exact made_good 81 meanV meanV_nil meanV_in (fun A n cap l w hl hn h1=>poolMean_any A n cap l w hl hn) (enters_of Tryz.func81 (by kernel_rfl) rfl) t A n cap d W nw cw B nb cb w ha c1 c2
  ·have e:poolQ meanV t d=(noTensor,(slideV t.h t.v t.c d.k d.s d.p t.c).2):=by unfold poolQ;rw [if_neg c2]
   rw [e]
   exact made_code 81 t A n cap d W nw cw B nb cb w ha c1 c2)
 obtain ⟨Q,hQ⟩:∃ q,poolQ meanV t d=q:=⟨_,rfl⟩
 rw [hQ] at MD ⊢
 have FR:=zH (Far.refl w)
 clear ha c1 hQ
 obtain ⟨w1,hw_w1,BA,k_w1⟩:=nB w (tN t.h t.v t.c A n cap) 27
 replace FR:=zH (FR.out.fut k_w1)
 clear k_w1
 obtain ⟨w2,hw_w2,BN,k_w2⟩:=nB w1 (nN d.kind d.a d.b d.k d.s d.p d.out d.za d.zb W nw cw B nb cb d.qm d.qs d.qz d.rm d.rs d.rz d.lo d.hi) 44
 replace FR:=zH (FR.out.fut k_w2)
 replace BA:=zH (BA.out.fut k_w2)
 clear k_w2
 obtain ⟨w3,hw_w3,BR,k_w3⟩:=nB w2 (tN 0 0 0 none 0 0) 27
 replace FR:=zH (FR.out.fut k_w3)
 replace BA:=zH (BA.out.fut k_w3)
 replace BN:=zH (BN.out.fut k_w3)
 clear k_w3
 have l1:w.heap.size < w1.heap.size:=by rw [← hw_w1];simp
 have l2:w1.heap.size < w2.heap.size:=by rw [← hw_w2];simp
 go_enter Tryz.func44,Tryz.ntmps44
 go_wp2_with (first|(refine lB 27 (.tmp 2) w.heap.size BA.out Tryz.underlying27 ?_)|(refine lB 44 (.tmp 3) w1.heap.size BN.out Tryz.underlying44 ?_))
 refine (MD.out _ ((Old.now HA.out).fut FR.out.out).all).mono ?_
 rintro e w4 ⟨A2,n2,c2,rfl,rs,hb⟩
 have BR4:=zH (BR.out.fut hb)
 have F4:=zH (FR.out.fut hb)
 have RS:=zH (New.of rs FR.out)
 have l34:=hb.size
 have lr:=BR.out.lt
 have hlow:=zH (show ∀ b,bin w3.heap.size w4.heap.size b → b ≠ w2.heap.size from fun b h e=>by have:=h.1;omega)
 have RS2:=zH rs
 clear hb rs hw_w1 hw_w2 hw_w3 MD
 go_wp2_with (refine sB 27 (.tmp 4) (.tmp 9) w2.heap.size (tN Q.1.h Q.1.v Q.1.c A2 n2 c2) BR4.out ?_;intro w9 B9 g9)
 refine rC B9 Tryz.underlying27 ?_
 have s9:=g9.size
 refine ⟨A2,n2,c2,rfl,?_,(F4.out.away g9 (by omega)).out⟩
 exact (RS2.out.keep (w':=w9) fun b h=>g9.block b (by have:=h.2;omega) (fun e=>hlow.out b h (by have:=Option.some.inj e;omega))).more fun b h=>⟨by have:=h.1;omega,by have:=h.2;omega⟩
theorem rpool_code (mo:Bool) (t:Tensor) (A:Option Addr) (n cap:Nat) (d:Node) (W:Option Addr) (nw cw:Nat) (B:Option Addr) (nb cb:Nat) (w:World)
  (ha:Sl (tInt .i8) w (blo w.heap.size) A n cap t.data) (c1:t.ok=true) (c2:¬ (slideV t.h t.v t.c d.k d.s d.p t.c).2=0) :
  Calls Tryz.prog 33 #[.agg (tN t.h t.v t.c A n cap),.agg (nN d.kind d.a d.b d.k d.s d.p d.out d.za d.zb W nw cw B nb cb d.qm d.qs d.qz d.rm d.rs d.rz d.lo d.hi),.bool mo] w (RetT .i8 noTensor (slideV t.h t.v t.c d.k d.s d.p t.c).2 w):=by
 have HA:=zH ha
 obtain ⟨H,V,C,TK0⟩:=tok_of c1
 have en:t.data.length=n:=HA.out.n_eq
 rw [en] at TK0
 have RI:=zH (fun w=>rtensorRight_any (H:Int) (V:Int) (C:Int) A n cap w (by have:=TK0.h1;rw [inK_i64];omega) (by have:=TK0.v1;rw [inK_i64];omega) (by have:=TK0.c1;rw [inK_i64];omega) (Nat.le_trans HA.out.cap_le HA.out.max_le))
 rw [tok_right TK0] at RI
 have CI:=zH (fun w=>rslide_any (H:Int) (V:Int) (C:Int) d.k d.s d.p (C:Int) w (by have:=TK0.h1;rw [inK_i64];omega) (by have:=TK0.v1;rw [inK_i64];omega) (by have:=TK0.c1;rw [inK_i64];omega) (by have:=TK0.c1;rw [inK_i64];omega))
 rw [TK0.h,TK0.v,TK0.c] at c2 ⊢
 obtain ⟨⟨⟨x1,x2,x3⟩,k⟩,hx⟩:∃ x,slideV H V C d.k d.s d.p C=x:=⟨_,rfl⟩
 rw [hx] at c2 CI ⊢
 have hk2:(k != 0)=true:=by rw [bne_iff_ne];exact c2
 clear hx c2
 have FR:=zH (Far.refl w)
 obtain ⟨w1,hw_w1,BA,k_w1⟩:=nB w (tN H V C A n cap) 27
 replace FR:=zH (FR.out.fut k_w1)
 clear k_w1
 obtain ⟨w2,hw_w2,BN,k_w2⟩:=nB w1 (nN d.kind d.a d.b d.k d.s d.p d.out d.za d.zb W nw cw B nb cb d.qm d.qs d.qz d.rm d.rs d.rz d.lo d.hi) 44
 replace FR:=zH (FR.out.fut k_w2)
 replace BA:=zH (BA.out.fut k_w2)
 clear k_w2
 obtain ⟨w3,hw_w3,BR,k_w3⟩:=nB w2 (tN 0 0 0 none 0 0) 27
 replace FR:=zH (FR.out.fut k_w3)
 replace BA:=zH (BA.out.fut k_w3)
 replace BN:=zH (BN.out.fut k_w3)
 clear k_w3
 have l1:w.heap.size < w1.heap.size:=by rw [← hw_w1];simp
 have l2:w1.heap.size < w2.heap.size:=by rw [← hw_w2];simp
 have l3:w2.heap.size < w3.heap.size:=by rw [← hw_w3];simp
 go_enter Tryz.func33,Tryz.ntmps33
 go_wp2_with (first|(refine lB 27 (.tmp 3) w.heap.size BA.out Tryz.underlying27 ?_)|(go_at_call 17;refine (RI.out _).mono ?_;rintro e w4 ⟨rfl,hb⟩;have l4:=hb.size;replace FR:=zH (FR.out.fut hb);replace BA:=zH (BA.out.fut hb);replace BN:=zH (BN.out.fut hb);replace BR:=zH (BR.out.fut hb);clear hb hw_w1 hw_w2 hw_w3;have a2:=BA.out.cell 2;have b3:=BN.out.cell 3;have b4:=BN.out.cell 4;have b5:=BN.out.cell 5;simp only [gX] at a2 b3 b4 b5)|(refine wpList_load_blk rfl 24 (.tmp 20) rfl w.heap.size 0 rfl _ (tN H V C A n cap) (sN H V C) _ BA.out Tryz.underlying24 rfl (by kernel_rfl) rfl ?_))
 refine (CI.out _).mono ?_
 clear a2 b3 b4 b5
 rintro e w5 ⟨rfl,hb⟩
 simp only [retS]
 have l5:=hb.size
 replace FR:=zH (FR.out.fut hb)
 replace BA:=zH (BA.out.fut hb)
 replace BN:=zH (BN.out.fut hb)
 replace BR:=zH (BR.out.fut hb)
 clear hb
 obtain ⟨w6,hw_w6,BD,k_w6⟩:=nB w5 (sN x1 x2 x3) 24
 replace FR:=zH (FR.out.fut k_w6)
 replace BA:=zH (BA.out.fut k_w6)
 replace BN:=zH (BN.out.fut k_w6)
 replace BR:=zH (BR.out.fut k_w6)
 clear k_w6
 go_wp2_with (refine sB 27 (.tmp 6) (.tmp 36) w2.heap.size (tN 0 0 0 none 0 0) BR.out ?_;intro w9 B9 g9)
 refine rC B9 Tryz.underlying27 ?_
 exact RetT.none (FR.out.away g9 (by omega)).out
def poolU (mo:Bool):List Int → Int:=if mo=true then maxU else meanV
theorem poolU_in (mo:Bool) (l:List Int):InK .i8 (poolU mo l):=by unfold poolU;split;exact w8_in _;exact meanV_in l
theorem rpool_good (mo:Bool) (t:Tensor) (A:Option Addr) (n cap:Nat) (d:Node) (W:Option Addr) (nw cw:Nat) (B:Option Addr) (nb cb:Nat) (w:World)
  (ha:Sl (tInt .i8) w (blo w.heap.size) A n cap t.data) (c1:t.ok=true) (c2:(slideV t.h t.v t.c d.k d.s d.p t.c).2=0) :
  Calls Tryz.prog 33 #[.agg (tN t.h t.v t.c A n cap),.agg (nN d.kind d.a d.b d.k d.s d.p d.out d.za d.zb W nw cw B nb cb d.qm d.qs d.qz d.rm d.rs d.rz d.lo d.hi),.bool mo] w (RetT .i8 (poolQ (poolU mo) t d).1 (poolQ (poolU mo) t d).2 w):=by
 have HA:=zH ha
 obtain ⟨H,V,C,TK0⟩:=tok_of c1
 have en:t.data.length=n:=HA.out.n_eq
 rw [en] at TK0
 have RI:=zH (fun w=>rtensorRight_any (H:Int) (V:Int) (C:Int) A n cap w (by have:=TK0.h1;rw [inK_i64];omega) (by have:=TK0.v1;rw [inK_i64];omega) (by have:=TK0.c1;rw [inK_i64];omega) (Nat.le_trans HA.out.cap_le HA.out.max_le))
 rw [tok_right TK0] at RI
 have CI:=zH (fun w=>rslide_any (H:Int) (V:Int) (C:Int) d.k d.s d.p (C:Int) w (by have:=TK0.h1;rw [inK_i64];omega) (by have:=TK0.v1;rw [inK_i64];omega) (by have:=TK0.c1;rw [inK_i64];omega) (by have:=TK0.c1;rw [inK_i64];omega))
 obtain ⟨H',V',C',K,S,P,Ho,Wo,TK,WK,hx,el,ev⟩:=pool_nat (U:=poolU mo) c1 c2
 rw [en] at TK
 obtain rfl:H=H':=by have:=TK.h;have:=TK0.h;omega
 obtain rfl:V=V':=by have:=TK.v;have:=TK0.v;omega
 obtain rfl:C=C':=by have:=TK.c;have:=TK0.c;omega
 rw [ev]
 rw [TK.h,TK.v,TK.c] at hx ⊢
 rw [hx] at CI
 have TK:=zH TK
 have WK:=zH WK
 have EL:=zH (fun w=>relems_any (Ho:Int) (C:Int) (Wo:Int) w (by have:=WK.out.ho1;rw [inK_i64];omega) (by have:=WK.out.wo1;rw [inK_i64];omega) (by have:=WK.out.co1;rw [inK_i64];omega))
 rw [el] at EL
 have hN:=WK.out.no
 obtain ⟨N,hNe⟩:∃ N,Ho*Wo*C=N:=⟨_,rfl⟩
 rw [hNe] at EL hN ⊢
 have NE:=zH hNe
 obtain ⟨U,hU⟩:∃ U,poolU mo=U:=⟨_,rfl⟩
 have HUI:=zH (show ∀ l,InK .i8 (U l) from fun l=>by rw [← hU];exact poolU_in mo l)
 rw [hU]
 have HU:=zH hU
 obtain ⟨PF,hPF⟩:∃ f,poolF U H V C t.data K S P Wo=f:=⟨_,rfl⟩
 rw [hPF]
 have HPF:=zH hPF
 have WN:=zH (fun (y x o:Nat) (hy:y≤1000) (hx:x≤1000) (ho:o < C) (wq:World) (ha:Sl (tInt .i8) wq (blo wq.heap.size) A n cap t.data) =>
  rwindow_any H V C A n cap t.data d W nw cw B nb cb K S P y x o wq ha TK.out.n_eq TK.out.n_le TK.out.h1 TK.out.v1 TK.out.c1 WK.out.k WK.out.s WK.out.p WK.out.k1 WK.out.s1 WK.out.p1.1 hy hx ho)
 have ub1:(Ho:Int)≤16:=by have:=WK.out.ho1;omega
 have ub2:1≤(Wo:Int)∧(Wo:Int)≤16:=by have:=WK.out.wo1;omega
 have ub3:1≤(C:Int)∧(C:Int)≤1024:=by have:=WK.out.co1;omega
 clear c1 c2 hx el ev hNe hPF hU en TK0 ha
 have FR:=zH (Far.refl w)
 obtain ⟨w1,hw_w1,BA,k_w1⟩:=nB w (tN H V C A n cap) 27
 replace FR:=zH (FR.out.fut k_w1)
 clear k_w1
 obtain ⟨w2,hw_w2,BN,k_w2⟩:=nB w1 (nN d.kind d.a d.b d.k d.s d.p d.out d.za d.zb W nw cw B nb cb d.qm d.qs d.qz d.rm d.rs d.rz d.lo d.hi) 44
 replace FR:=zH (FR.out.fut k_w2)
 replace BA:=zH (BA.out.fut k_w2)
 clear k_w2
 obtain ⟨w3,hw_w3,BR,k_w3⟩:=nB w2 (tN 0 0 0 none 0 0) 27
 replace FR:=zH (FR.out.fut k_w3)
 replace BA:=zH (BA.out.fut k_w3)
 replace BN:=zH (BN.out.fut k_w3)
 clear k_w3
 have l1:w.heap.size < w1.heap.size:=by rw [← hw_w1];simp
 have l2:w1.heap.size < w2.heap.size:=by rw [← hw_w2];simp
 have l3:w2.heap.size < w3.heap.size:=by rw [← hw_w3];simp
 go_enter Tryz.func33,Tryz.ntmps33
 go_wp2_with (first|(refine lB 27 (.tmp 3) w.heap.size BA.out Tryz.underlying27 ?_)|(go_at_call 17;refine (RI.out _).mono ?_;rintro e w4 ⟨rfl,hb⟩;have l4:=hb.size;replace FR:=zH (FR.out.fut hb);replace BA:=zH (BA.out.fut hb);replace BN:=zH (BN.out.fut hb);replace BR:=zH (BR.out.fut hb);clear hb hw_w1 hw_w2 hw_w3;have a2:=BA.out.cell 2;have b3:=BN.out.cell 3;have b4:=BN.out.cell 4;have b5:=BN.out.cell 5;simp only [gX] at a2 b3 b4 b5)|(refine wpList_load_blk rfl 24 (.tmp 20) rfl w.heap.size 0 rfl _ (tN H V C A n cap) (sN H V C) _ BA.out Tryz.underlying24 rfl (by kernel_rfl) rfl ?_))
 refine (CI.out _).mono ?_
 clear a2 b3 b4 b5
 rintro e w5 ⟨rfl,hb⟩
 simp only [retS]
 have l5:=hb.size
 replace FR:=zH (FR.out.fut hb)
 replace BA:=zH (BA.out.fut hb)
 replace BN:=zH (BN.out.fut hb)
 replace BR:=zH (BR.out.fut hb)
 clear hb
 obtain ⟨w6,hw_w6,BD,k_w6⟩:=nB w5 (sN (Ho:Int) (Wo:Int) (C:Int)) 24
 replace FR:=zH (FR.out.fut k_w6)
 replace BA:=zH (BA.out.fut k_w6)
 replace BN:=zH (BN.out.fut k_w6)
 replace BR:=zH (BR.out.fut k_w6)
 clear k_w6
 have l56:w5.heap.size < w6.heap.size:=by rw [← hw_w6];simp
 have BD6:=zH BD.out
 obtain ⟨w7,hw_w7,BG,k_w7⟩:=nB w6 (tN 0 0 0 none 0 0) 27
 replace FR:=zH (FR.out.fut k_w7)
 replace BA:=zH (BA.out.fut k_w7)
 replace BN:=zH (BN.out.fut k_w7)
 replace BR:=zH (BR.out.fut k_w7)
 replace BD:=zH (BD.out.fut k_w7)
 clear k_w7
 have l67:w7.heap.size=w6.heap.size+1:=by rw [← hw_w7];simp
 go_wp2_with (first|(refine lB 24 (.tmp 8) w5.heap.size BD6.out Tryz.underlying24 ?_)|(refine sB 27 (.tmp 10) (.tmp 39) w6.heap.size (tN (Ho:Int) (Wo:Int) (C:Int) none 0 0) BG.out ?_;intro w8 B8 g8))
 clear hw_w6 hw_w7 BD6
 replace FR:=zH (FR.out.away g8 (by omega))
 replace BA:=zH (BA.out.away g8 (.inl (by omega)))
 replace BN:=zH (BN.out.away g8 (.inl (by omega)))
 replace BR:=zH (BR.out.away g8 (.inl (by omega)))
 replace BD:=zH (BD.out.away g8 (.inl (by omega)))
 replace BG:=zH B8
 clear B8 g8 CI RI
 have ON:=zH (show Own (tInt .i8) w8 (fun _=>False) w7.heap.size 39 (.slice none 0 0) 0 ((List.range 0).map PF) from Own.nil _ _ _ _ _)
 go_loopw [11] (fun ii wr=>∃ k:Nat,k≤N∧ii=.int .i64 k∧Far w wr∧Blk wr w.heap.size 27 (tN H V C A n cap)∧Blk wr w1.heap.size 44 (nN d.kind d.a d.b d.k d.s d.p d.out d.za d.zb W nw cw B nb cb d.qm d.qs d.qz d.rm d.rs d.rz d.lo d.hi)∧Blk wr w2.heap.size 27 (tN 0 0 0 none 0 0)∧Blk wr w5.heap.size 24 (sN (Ho:Int) (Wo:Int) (C:Int))∧∃ u,Blk wr w6.heap.size 27 #[.int .i64 (Ho:Int),.int .i64 (Wo:Int),.int .i64 (C:Int),u]∧Own (tInt .i8) wr (fun _=>False) w7.heap.size 39 u k ((List.range k).map PF)) (fun ii _=>N - (intOf ii).toNat)
 case atStart=>exact ⟨0,Nat.zero_le _,rfl,FR.out,BA.out,BN.out,BR.out,BD.out,_,BG.out,ON.out⟩
 case round =>
  obtain ⟨k,hk,rfl,f0,f1,f2,f3,f4,u,f5,f6⟩:=hrel
  clear FR BA BN BR BD BG ON
  have FR:=zH f0
  have BA:=zH f1
  have BN:=zH f2
  have BR:=zH f3
  have BD:=zH f4
  have BG:=zH f5
  have ON:=zH f6
  clear f0 f1 f2 f3 f4 f5 f6
  go_wp2_with (refine lB 24 (.tmp 8) w5.heap.size BD.out Tryz.underlying24 ?_)
  refine (EL.out _).mono ?_
  rintro e wv ⟨rfl,hb⟩
  replace ON:=zH (ON.out.below hb (Nat.le_refl _) (fun _ h=>h.elim))
  replace FR:=zH (FR.out.fut hb)
  replace BA:=zH (BA.out.fut hb)
  replace BN:=zH (BN.out.fut hb)
  replace BR:=zH (BR.out.fut hb)
  replace BD:=zH (BD.out.fut hb)
  replace BG:=zH (BG.out.fut hb)
  clear hb
  by_cases hlt:k < N
  ·have p1:(k:Int) < (N:Int):=by omega
   go_wp2_with fail
   obtain ⟨a1,ha1⟩:∃ m,k / C=m:=⟨_,rfl⟩
   obtain ⟨yb,hyb⟩:∃ m,a1 / Wo=m:=⟨_,rfl⟩
   obtain ⟨xb,hxb⟩:∃ m,a1 % Wo=m:=⟨_,rfl⟩
   obtain ⟨cb',hcb⟩:∃ m,k % C=m:=⟨_,rfl⟩
   have k1:a1≤1000000:=by rw [← ha1];exact Nat.le_trans (Nat.div_le_self _ _) (by omega)
   have byb:yb≤1000:=by
    rw [← hyb,← ha1]
    have:k / C / Wo < Ho:=by
     rw [Nat.div_lt_iff_lt_mul (by omega),Nat.div_lt_iff_lt_mul (by omega),NE.out];exact hlt
    omega
   have bxb:xb≤1000:=by rw [← hxb];have:=Nat.mod_lt a1 (show Wo > 0 by omega);omega
   have bcb:cb' < C:=by rw [← hcb];exact Nat.mod_lt _ (by omega)
   have hC0:¬ C=0:=by omega
   have hW0:¬ Wo=0:=by omega
   have d1:(k:Int).tdiv (C:Int)=(a1:Int):=by rw [← ha1,Int.tdiv_eq_ediv_of_nonneg (by omega)];simp
   have d2:(a1:Int).tdiv (Wo:Int)=(yb:Int):=by rw [← hyb,Int.tdiv_eq_ediv_of_nonneg (by omega)];simp
   have d3:(a1:Int).tmod (Wo:Int)=(xb:Int):=by rw [← hxb,Int.tmod_eq_emod_of_nonneg (by omega)];simp
   have d4:(k:Int).tmod (C:Int)=(cb':Int):=by rw [← hcb,Int.tmod_eq_emod_of_nonneg (by omega)];simp
   have e1:IntKind.i64.wrap (a1:Int)=(a1:Int):=IntWalk.i64_in _ (by omega)
   have e2:IntKind.i64.wrap (yb:Int)=(yb:Int):=IntWalk.i64_in _ (by omega)
   have e3:IntKind.i64.wrap (xb:Int)=(xb:Int):=IntWalk.i64_in _ (by omega)
   have e4:IntKind.i64.wrap (cb':Int)=(cb':Int):=IntWalk.i64_in _ (by omega)
   obtain ⟨WL,hWL⟩:∃ L,winL H V C t.data K S P cb' yb xb (K*K)=L:=⟨_,rfl⟩
   have CW:=zH (fun wq ha=>WN.out yb xb cb' byb bxb bcb wq ha)
   rw [hWL] at CW
   have FK:=zH (show PF k=U WL by rw [← HPF.out];unfold poolF;rw [hcb,ha1,hyb,hxb,hWL])
   have WLL:=zH (show WL.length≤1024 by rw [← hWL];exact Nat.le_trans (winL_len _ _ _ _ _ _ _ _ _ _ _) (Nat.le_trans (Nat.mul_le_mul WK.out.k1.2 WK.out.k1.2) (by decide)))
   clear hWL ha1 hyb hxb hcb
   have fd:Below wv.heap.size wv wv.drew:=(Below.refl _ _).drew
   have x1:=(BD.out.fut fd).cell 1
   have x2:=(BD.out.fut fd).cell 2
   simp only [gX] at x1 x2
   refine wp_region_T (fun w'=>w'.cell? ⟨w5.heap.size,1,none⟩=some (.int .i64 Wo)∧w'.cell? ⟨w5.heap.size,2,none⟩=some (.int .i64 C)∧Below wv.heap.size wv w') 21 (by kernel_rfl) ?_ (fun hS=>?_)
   ·exact ⟨x1,x2,fd⟩
   refine tkT 0 rfl (yB 27 (.tmp 3) w.heap.size (fun w hs=>BA.out.later hs.2.2) Tryz.underlying27) hS ?_
   try simp only [pX]
   refine tkT 1 rfl (yB 44 (.tmp 4) w1.heap.size (fun w hs=>BN.out.later hs.2.2) Tryz.underlying44) hS ?_
   try simp only [pX]
   refine kT 2 rfl hS ?_
   try simp only [pX]
   refine kT 3 rfl hS ?_
   try simp only [pX]
   refine kT 4 rfl hS ?_
   try simp only [pX]
   refine kT 5 rfl hS ?_
   try simp only [pX]
   refine kT 6 rfl hS ?_
   try simp only [pX]
   refine kT 7 rfl hS ?_
   try simp only [pX]
   refine kT 8 rfl hS ?_
   try simp only [pX]
   refine kT 9 rfl hS ?_
   try simp only [pX]
   refine kT 10 rfl hS ?_
   try simp only [pX]
   refine kT 11 rfl hS ?_
   try simp only [pX]
   refine kT 12 rfl hS ?_
   try simp only [pX]
   refine kT 13 rfl hS ?_
   try simp only [pX]
   refine kT 14 rfl hS ?_
   try simp only [pX]
   refine kT 15 rfl hS ?_
   try simp only [pX]
   refine kT 16 rfl hS ?_
   try simp only [pX]
   refine kT 17 rfl hS ?_
   try simp only [pX]
   refine kT 18 rfl hS ?_
   try simp only [pX]
   refine kT 19 rfl hS ?_
   try simp only [pX]
   refine wpAnyT_one (i:=20) (by kernel_rfl) rfl rfl (fun K hK=>?_)
   go_simp
   refine (CW.out _ ((Old.now HA.out).fut (FR.out.fut hS.2.2).out).all).mono ?_;rintro e w9 ⟨RA,rn,rc,rfl,rs,hb⟩;have RS:=zH rs.old;have lrn:=rs.n_eq;have mrn:rn≤9223372036854775807:=Nat.le_trans rs.cap_le rs.max_le;clear rs
   refine hK.out _ _ ?_ (fun hS=>?_)
   ·exact ⟨(by first|exact cell_later hb hS.1|exact Blk.later hS.1 hb),(by first|exact cell_later hb hS.2.1|exact Blk.later hS.2.1 hb),(by first|exact below_later hb hS.2.2|exact grown_below hS.2.2 hb)⟩
   clear hK K
   try simp only [pX]
   refine wpAnyT_tail _ _ rfl rfl (by kernel_rfl) ?_
   have kd:=hS.2.2
   replace ON:=zH (ON.out.below kd (Nat.le_refl _) (fun _ h=>h.elim))
   replace FR:=zH (FR.out.fut kd)
   replace BA:=zH (BA.out.fut kd)
   replace BN:=zH (BN.out.fut kd)
   replace BR:=zH (BR.out.fut kd)
   replace BD:=zH (BD.out.fut kd)
   replace BG:=zH (BG.out.fut kd)
   clear kd
   clear x1 x2 hS fd hb d1 d2 d3 d4 e1 e2 e3 e4
   have brn:rn≤1024:=by have:=WLL.out;omega
   have w8all:=zH (show ∀ i,InK .i8 (WL.getD i 0) from RS.out.allK)
   have UI:=zH (HUI.out WL)
   have FS:=zH (range_snoc PF k)
   cases mo
   ·have EU:=zH (show meanV WL=U WL by rw [← HU.out];rfl)
    obtain ⟨v,hv⟩:∃ v,U WL=v:=⟨_,rfl⟩
    rw [hv] at EU FK UI
    have MC:=zH (fun w h=>rpoolMean_any RA rn rc WL w h brn)
    rw [EU.out] at MC
    have IV:=zH UI.out
    clear hv
    go_wp2_with fail
    have lw:w7.heap.size≤w9.drew.heap.size:=by have:=BG.out.lt;show w7.heap.size≤w9.heap.size;omega
    have OD:=zH (ON.out.heap (w':=w9.drew) rfl)
    have fd:Below w.heap.size w w9.drew:=FR.out.out.drew
    have nu:=zH (show ∀ b,b < w7.heap.size → some b ≠ u.ownBlock from fun b hb e=>absurd (ON.out.lt b e.symm).1 (by omega))
    refine wp_region_T (fun w'=>w'.cell? ⟨w6.heap.size,3,none⟩=some u∧Below w.heap.size w w') 6 (by kernel_rfl) ?_ (fun hS=>?_)
    ·exact ⟨BG.out.drew.cell 3,fd⟩
    refine kT 0 rfl hS ?_
    try simp only [pX]
    refine kT 1 rfl hS ?_
    try simp only [pX]
    refine kT 2 rfl hS ?_
    try simp only [pX]
    refine wpAnyT_one (i:=3) (by kernel_rfl) rfl rfl (fun K hK=>?_)
    go_simp
    refine (MC.out _ (RS.out.fut (Below.refl _ _).drew)).mono ?_;rintro e wa ⟨rfl,hb⟩;have OA:=zH (OD.out.below hb (Nat.le_refl _) (fun _ h=>h.elim));have za:w7.heap.size≤wa.heap.size:=Nat.le_trans lw hb.size;have XX:=zH (And.intro (BA.out.drew.later hb) (And.intro (BN.out.drew.later hb) (BR.out.drew.later hb)));have YY:=zH (And.intro (BD.out.drew.later hb) (BG.out.drew.later hb));have FA:=zH (below_call fd hb fd.size)
    refine hK.out _ _ ?_ (fun hS=>?_)
    ·exact ⟨(by first|exact cell_later hb hS.1|exact Blk.later hS.1 hb),(by first|exact below_later hb hS.2|exact grown_below hS.2 hb)⟩
    clear hK K
    try simp only [pX]
    refine wpAnyT_one (i:=4) (by kernel_rfl) rfl rfl (fun K hK=>?_)
    go_simp
    have hb:Below wa.heap.size wa (wa.alloc (.cells #[.int .i8 v] 39)):=(Below.refl _ _).alloc (Nat.le_refl _) _
    refine hK.out _ _ ?_ (fun hS=>?_)
    ·exact ⟨(by first|exact cell_later hb hS.1|exact Blk.later hS.1 hb),(by first|exact below_later hb hS.2|exact grown_below hS.2 hb)⟩
    clear hK K
    try simp only [pX]
    refine wpAnyT_one (i:=5) (by kernel_rfl) rfl rfl (fun K hK=>?_)
    (rw [if_pos (by rfl)];refine oper_push (W:=wa) (cs:=#[.int .i8 v]) (E:=39) (t:=tInt .i8) (.tmp 80) (.tmp 83) rfl ei_b8 rfl OA.out 1 rfl v ⟨rfl,IV.out⟩ (by unfold maxLen;omega) (by omega) za (fun _ h=>h.elim) ?_;intro u' wb own7 g7 at7;have B7:=zH (YY.out.2.rowR g7 (nu.out _ (by omega)));refine hK.out _ _ ⟨B7.out.cell 3,FA.out.grown g7 FA.out.size (fun j hj=>Nat.le_trans (by omega) (OA.out.lt j hj).1)⟩ (fun hS=>?_))
    clear hK K
    try simp only [pX]
    refine wpAnyT_tail _ _ rfl rfl (by kernel_rfl) ?_
    have FZ:=hS.2
    have XA:=zH (XX.out.1.rowR g7 (nu.out _ (by omega)))
    have XN:=zH (XX.out.2.1.rowR g7 (nu.out _ (by omega)))
    have XR:=zH (XX.out.2.2.rowR g7 (nu.out _ (by omega)))
    have XD:=zH (YY.out.1.rowR g7 (nu.out _ (by omega)))
    have NU:=zH (show u'.ownBlock=none ∨ u'.ownBlock ≠ some w6.heap.size by
     cases hu:u'.ownBlock with
     | none=>exact .inl rfl
     | some m=>right;intro e;have:=(own7.lt m hu).1;have:=Option.some.inj e;omega)
    obtain ⟨A7,c7,rfl,-⟩:=own7.sl (S':=fun _=>True) (by decide) (fun _ _ _=>trivial) (fun _ _=>trivial)
    clear hS hb nu at7
    go_wp2_with (refine wpList_store_one rfl 25 (.tmp 85) (.tmp 84) rfl w6.heap.size 3 (.slice A7 (k+1) c7) rfl rfl rfl rfl _ #[.int .i64 (Ho:Int),.int .i64 (Wo:Int),.int .i64 (C:Int),u] (tN (Ho:Int) (Wo:Int) (C:Int) A7 (k+1) c7) B7.out (by simp) (by kernel_rfl) rfl ?_;intro w8 B8 g8)
    have F8:=(show Far w wb from ⟨FZ⟩).away g8 (by omega)
    have O8:=own7.flat g8 (by rcases NU.out with e|e;exact .inl e;exact .inr e) (fun _ h=>h)
    have fs:=FS.out
    rw [FK.out] at fs
    rw [fs] at O8
    exact ⟨⟨k+1,by omega,by go_num,F8,XA.out.away g8 (.inl (by omega)),XN.out.away g8 (.inl (by omega)),XR.out.away g8 (.inl (by omega)),XD.out.away g8 (.inl (by omega)),_,B8,O8⟩,by simp [intOf];omega⟩
   ·have EU:=zH (show maxU WL=U WL by rw [← HU.out];rfl)
    obtain ⟨v,hv⟩:∃ v,U WL=v:=⟨_,rfl⟩
    rw [hv] at EU FK UI
    have MC:=zH (fun w h=>reach_any RA rn rc WL w h brn)
    have eM:(if rn=0 then 0 else hiN WL rn)=v:=by rw [← EU.out,maxU_of w8all.out,lrn]
    rw [eM] at MC
    have IV:=zH UI.out
    clear hv eM
    go_wp2_with fail
    refine (MC.out _ RS.out).mono ?_
    rintro e wx ⟨rfl,hb⟩
    replace ON:=zH (ON.out.below hb (Nat.le_refl _) (fun _ h=>h.elim))
    replace FR:=zH (FR.out.fut hb)
    replace BA:=zH (BA.out.fut hb)
    replace BN:=zH (BN.out.fut hb)
    replace BR:=zH (BR.out.fut hb)
    replace BD:=zH (BD.out.fut hb)
    replace BG:=zH (BG.out.fut hb)
    clear hb
    have lw:w7.heap.size≤wx.heap.size:=by have:=BG.out.lt;omega
    have nu:=zH (show ∀ b,b < w7.heap.size → some b ≠ u.ownBlock from fun b hb e=>absurd (ON.out.lt b e.symm).1 (by omega))
    have g3:=BG.out.cell 3
    simp only [gX] at g3
    go_wp2_with (first|(at_builtin;refine wpList_push (W:=wx) (cs:=#[.int .i8 v]) (E:=39) (t:=tInt .i8) (S:=fun _=>False) (base:=w7.heap.size) rfl (.tmp 74) (.tmp 76) rfl ei_b8 rfl ON.out 1 rfl v ⟨rfl,IV.out⟩ (by unfold maxLen;omega) (by omega) lw (fun _ h=>h.elim) ?_;intro u' wb own7 g7 at7;have B7:=zH (BG.out.rowR g7 (nu.out _ (by omega)));have NU:=zH (show u'.ownBlock=none ∨ u'.ownBlock ≠ some w6.heap.size by (cases hu:u'.ownBlock with|none=>exact .inl rfl|some m=>(right;intro e;have:=(own7.lt m hu).1;have:=Option.some.inj e;omega)));obtain ⟨A7,c7,rfl,-⟩:=own7.sl (S':=fun _=>True) (by decide) (fun _ _ _=>trivial) (fun _ _=>trivial))|(refine wpList_store_one rfl 25 (.tmp 78) (.tmp 77) rfl w6.heap.size 3 (.slice A7 (k+1) c7) rfl rfl rfl rfl _ #[.int .i64 (Ho:Int),.int .i64 (Wo:Int),.int .i64 (C:Int),u] (tN (Ho:Int) (Wo:Int) (C:Int) A7 (k+1) c7) B7.out (by simp) (by kernel_rfl) rfl ?_;intro w8 B8 g8))
    have XA:=BA.out.rowR g7 (nu.out _ (by omega))
    have XN:=BN.out.rowR g7 (nu.out _ (by omega))
    have XR:=BR.out.rowR g7 (nu.out _ (by omega))
    have XD:=BD.out.rowR g7 (nu.out _ (by omega))
    have F7:Far w wb:=⟨FR.out.out.grown g7 FR.out.size (fun j hj=>Nat.le_trans (by omega) (ON.out.lt j hj).1)⟩
    have F8:=F7.away g8 (by omega)
    have O8:=own7.flat g8 (by rcases NU.out with e|e;exact .inl e;exact .inr e) (fun _ h=>h)
    have fs:=FS.out
    rw [FK.out] at fs
    rw [fs] at O8
    exact ⟨⟨k+1,by omega,by go_num,F8,XA.away g8 (.inl (by omega)),XN.away g8 (.inl (by omega)),XR.away g8 (.inl (by omega)),XD.away g8 (.inl (by omega)),_,B8,O8⟩,by simp [intOf];omega⟩
  ·obtain rfl:k=N:=by omega
   obtain ⟨A9,c9,rfl,-⟩:=ON.out.sl (S':=fun _=>True) (by decide) (fun _ _ _=>trivial) (fun _ _=>trivial)
   go_wp2_with (first|(refine lB 27 (.tmp 10) w6.heap.size BG.out Tryz.underlying27 ?_)|(refine sB 27 (.tmp 6) (.tmp 86) w2.heap.size (tN (Ho:Int) (Wo:Int) (C:Int) A9 k c9) BR.out ?_;intro w9 B9 g9))
   have e2:=ON.out.flat g9 (by
    cases hu:(Value.slice A9 k c9).ownBlock with
    | none=>exact .inl rfl
    | some m=>right;intro e;have:=(ON.out.lt m hu).1;have:=Option.some.inj e;omega) (fun _ h=>h)
   refine rC B9 Tryz.underlying27 ?_
   have FE:=FR.out.away g9 (by omega)
   obtain ⟨A2,c2,hv,s⟩:=e2.sl (S':=bin w.heap.size _) (by decide) (fun b h1 h2=>⟨by omega,h2⟩) (fun b h=>h.elim)
   injection hv with hv1 hv2 hv3
   subst hv1 hv3
   exact ⟨_,_,_,rfl,s,FE.out⟩
theorem rpool_any (mo:Bool) (t:Tensor) (A:Option Addr) (n cap:Nat) (d:Node) (W:Option Addr) (nw cw:Nat) (B:Option Addr) (nb cb:Nat) (w:World)
  (ha:Sl (tInt .i8) w (blo w.heap.size) A n cap t.data) (c1:t.ok=true) :
  Calls Tryz.prog 33 #[.agg (tN t.h t.v t.c A n cap),.agg (nN d.kind d.a d.b d.k d.s d.p d.out d.za d.zb W nw cw B nb cb d.qm d.qs d.qz d.rm d.rs d.rz d.lo d.hi),.bool mo] w (RetT .i8 (poolQ (poolU mo) t d).1 (poolQ (poolU mo) t d).2 w):=by
 by_cases c2:(slideV t.h t.v t.c d.k d.s d.p t.c).2=0
 ·exact rpool_good mo t A n cap d W nw cw B nb cb w ha c1 c2
 ·have e:poolQ (poolU mo) t d=(noTensor,(slideV t.h t.v t.c d.k d.s d.p t.c).2):=by unfold poolQ;rw [if_neg c2]
  rw [e]
  exact rpool_code mo t A n cap d W nw cw B nb cb w ha c1 c2
end Go.Proofs.YtjkmjpjknmghlaaGreat
