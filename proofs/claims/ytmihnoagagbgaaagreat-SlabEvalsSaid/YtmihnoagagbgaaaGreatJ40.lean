/-
  The greatest number of each window, and the mean (layer 19: pool.made, Max, Mean).
  The greatest number of each window, and the mean (layer 19: pool.Max, pool.Mean; the document's Of).
-/
import Derived.Test.YtmihnoagagbgaaaGreatJ33
import Derived.Test.YtmihnoagagbgaaaGreatJ39
import Derived.Test.YtmihnoagagbgaaaGreatJ27
set_option linter.unusedVariables false
set_option linter.unusedSimpArgs false
set_option maxRecDepth 100000
set_option maxHeartbeats 16000000
namespace Go.Proofs.YtmihnoagagbgaaaGreat
open Go.RowKit Go.ChangeShapes Go.WideShapes Fx Tryz
set_option maxRecDepth 100000
set_option maxHeartbeats 16000000
def iJ (U:List Int → Int) (H V C:Nat) (l:List Int) (K S P Wo:Nat) (i:Nat):Int:=U (dc H V C l K S P (i % C) (i / C / Wo) (i / C % Wo) (K*K))
def a8 (U:List Int → Int) (t:ae) (d:af):ae × Int :=
 if (aw t.h t.v t.c d.k d.s d.p t.c).2=0 then (⟨(aw t.h t.v t.c d.k d.s d.p t.c).1.1,(aw t.h t.v t.c d.k d.s d.p t.c).1.2.1,(aw t.h t.v t.c d.k d.s d.p t.c).1.2.2,
  (List.range (ab (aw t.h t.v t.c d.k d.s d.p t.c).1.1 (aw t.h t.v t.c d.k d.s d.p t.c).1.2.1 (aw t.h t.v t.c d.k d.s d.p t.c).1.2.2).toNat).map (iJ U t.h.toNat t.v.toNat t.c.toNat t.data d.k.toNat d.s.toNat d.p.toNat (aw t.h t.v t.c d.k d.s d.p t.c).1.2.1.toNat)⟩,0) else (aj,(aw t.h t.v t.c d.k d.s d.p t.c).2)
theorem ja {U:List Int → Int} {t:ae} {d:af} (h1:t.ok=true) (h2:(aw t.h t.v t.c d.k d.s d.p t.c).2=0):∃ H V C K S P Ho Wo:Nat,TOk t t.data.length H V C∧WOk d H V C K S P Ho Wo C∧aw t.h t.v t.c d.k d.s d.p t.c=(((Ho:Int),(Wo:Int),(C:Int)),0)∧ab Ho Wo C=(Ho*Wo*C:Nat) ∧
  a8 U t d=(⟨Ho,Wo,C,(List.range (Ho*Wo*C)).map (iJ U H V C t.data K S P Wo)⟩,0):=by
 obtain ⟨H,V,C,T⟩:=cY h1
 obtain ⟨⟨⟨x1,x2,x3⟩,e⟩,hx⟩:∃ x,aw t.h t.v t.c d.k d.s d.p t.c=x:=⟨_,rfl⟩
 have hx':=hx
 rw [hx] at h2
 obtain rfl:e=0:=h2
 rw [T.h,T.v,T.c] at hx'
 obtain ⟨K,S,P,Ho,Wo,Co,hw,e1,e2,e3,e4,e5⟩:=gh hx'
 obtain rfl:C=Co:=oM
 subst e1 e2 e3
 refine ⟨H,V,C,K,S,P,Ho,Wo,T,hw,hx,e5,?_⟩
 unfold a8
 rw [hx,if_pos rfl]
 simp only [e5,Int.toNat_natCast,T.h,T.v,T.c,hw.k,hw.s,hw.p]
theorem sQ (f:Nat → Int) (k n:Nat):(stF f (fun j=>decide (j < k)) n).set k (f k)=stF f (fun j=>decide (j < k+1)) n:=by
 rw [oU]
 refine iL fun j _=>?_
 by_cases h:j=k
 ·subst h;simp
 ·have:(j < k+1)=(j < k):=by apply propext;omega
  simp [h,this]
theorem sR (f:Nat → Int) (k n:Nat) (h0:f k=0):stF f (fun j=>decide (j < k)) n=stF f (fun j=>decide (j < k+1)) n:=by
 unfold stF
 apply List.map_congr_left
 intro j _
 by_cases h:j=k
 ·subst h;simp [h0]
 ·have:(j < k+1)=(j < k):=by apply propext;omega
  simp [this]
theorem gk {t:ae} {n H V C:Nat} (T:TOk t n H V C):decide (0 < ab (H:Int) (V:Int) (C:Int)∧ab (H:Int) (V:Int) (C:Int)=n)=true:=by
 have e:=dw T
 have e2:ab (H:Int) (V:Int) (C:Int)=(n:Int):=by
  rw [bI,if_pos]
  ·rw [T.n_eq,Int.natCast_mul,Int.natCast_mul]
  ·have:=T.h1;have:=T.v1;have:=T.c1;have h7:=T.n_le;rw [T.n_eq] at h7
   exact ⟨by omega,by omega,by omega,by omega,by omega,by omega,by rw [← Int.natCast_mul,← Int.natCast_mul];omega⟩
 simp only [decide_eq_true_eq] at e ⊢
 exact ⟨e,e2⟩
theorem kh (ff:Nat) (t:ae) (A:QA) (n cap:Nat) (d:af) (W:QA) (nw cw:Nat) (B:QA) (nb cb:Nat) (w:World)
  (ha:xA w A n cap t.data) (c1:t.ok=true) (c2:¬ (aw t.h t.v t.c d.k d.s d.p t.c).2=0) :
  Calls prog 82 #[.agg (tN t.h t.v t.c A n cap),.agg (nD d W nw cw B nb cb),.func (.func ff) #[] #[]] w (ar .i8 aj (aw t.h t.v t.c d.k d.s d.p t.c).2 w):=by
 have HA:=zH ha
 obtain ⟨H,V,C,TK0⟩:=cY c1
 have en:t.data.length=n:=HA.o.n_eq
 rw [en] at TK0
 have RI:=zH (fun w=>av (H:Int) (V:Int) (C:Int) A n cap w (by have:=TK0.h1;rw [ah];omega) (by have:=TK0.v1;rw [ah];omega) (by have:=TK0.c1;rw [ah];omega) (lT HA.o.cap_le HA.o.max_le))
 rw [gk TK0] at RI
 have CI:=zH (fun w=>dQ (H:Int) (V:Int) (C:Int) d.k d.s d.p (C:Int) w (by have:=TK0.h1;rw [ah];omega) (by have:=TK0.v1;rw [ah];omega) (by have:=TK0.c1;rw [ah];omega) (by have:=TK0.c1;rw [ah];omega))
 rw [TK0.h,TK0.v,TK0.c] at c2 ⊢
 obtain ⟨⟨⟨x1,x2,x3⟩,k⟩,hx⟩:∃ x,aw H V C d.k d.s d.p C=x:=⟨_,rfl⟩
 rw [hx] at c2 CI ⊢
 have hk2:(k != 0)=true:=by rw [bne_iff_ne];exact c2
 clear hx c2
 have FR:=zW w
 obtain ⟨w1,w2,w3,yw1,yw2,yw3,l1,l2,l3,BA,BN,BR,yk3⟩:=bk3 w (tN H V C A n cap) 27 (nD d W nw cw B nb cb) 42 (tN 0 0 0 none 0 0) 27
 replace FR:=zF yk3 FR
 clear yk3
 go_in
 go_wp2_with (first|(refine lGJ19 BA.o ?_)|(go_at_call 11;refine qM (RI.o _) fun w4 hb=>?_;have l4:=hb.size;obtain ⟨FR,BA,BN,BR⟩:=uz4 hb FR BA BN BR;clear hb yw1 yw2 yw3;have a2:=BA.o.cell 2;obtain ⟨b3,b4,b5⟩:=uc3 BN 3 4 5;simp only [gX] at a2 b3 b4 b5)|(refine lQJ 24 (sN H V C) BA.o ?_))
 refine (CI.o _).mono ?_
 clear a2 b3 b4 b5
 rintro e w5 ⟨rfl,hb⟩
 simp only [aL]
 have l5:=hb.size
 obtain ⟨FR,BA,BN,BR⟩:=uz4 hb FR BA BN BR
 clear hb
 obtain ⟨w6,yw6,BD,yk6⟩:=nB w5 (sN x1 x2 x3) 24
 obtain ⟨FR,BA,BN,BR⟩:=uz4 yk6 FR BA BN BR
 clear yk6
 go_wp2_with (refine sGJ19 (tN 0 0 0 none 0 0) BR.o ?_;intro w9 B9 g9)
 refine rG B9 ?_
 exact ar.none (FR.o.away g9 oM).out
theorem km (ff:Nat) (U:List Int → Int) (hU0:U []=0) (hUi:∀ l,InK .i8 (U l)) (hff:∀ (A:QA) (n cap:Nat) (l:List Int) (w:World),xA w A n cap l → n≤1024 → 1≤n → Calls prog ff #[.slice A n cap] w fun e w'=>e=.returned (.int .i8 (U l))∧Below w w w') (heg:∀ args w,(callFunc ff args).run prog w=.ok (.enter ff args) w) (t:ae) (A:QA) (n cap:Nat) (d:af) (W:QA) (nw cw:Nat) (B:QA) (nb cb:Nat) (w:World)
  (ha:xA w A n cap t.data) (c1:t.ok=true) (c2:(aw t.h t.v t.c d.k d.s d.p t.c).2=0) :
  Calls prog 82 #[.agg (tN t.h t.v t.c A n cap),.agg (nD d W nw cw B nb cb),.func (.func ff) #[] #[]] w (ar .i8 (a8 U t d).1 (a8 U t d).2 w):=by
 have HA:=zH ha
 obtain ⟨H,V,C,TK0⟩:=cY c1
 have en:t.data.length=n:=HA.o.n_eq
 rw [en] at TK0
 have RI:=zH (fun w=>av (H:Int) (V:Int) (C:Int) A n cap w (by have:=TK0.h1;rw [ah];omega) (by have:=TK0.v1;rw [ah];omega) (by have:=TK0.c1;rw [ah];omega) (lT HA.o.cap_le HA.o.max_le))
 rw [gk TK0] at RI
 have CI:=zH (fun w=>dQ (H:Int) (V:Int) (C:Int) d.k d.s d.p (C:Int) w (by have:=TK0.h1;rw [ah];omega) (by have:=TK0.v1;rw [ah];omega) (by have:=TK0.c1;rw [ah];omega) (by have:=TK0.c1;rw [ah];omega))
 obtain ⟨H',V',C',K,S,P,Ho,Wo,TK,WK,hx,el,ev⟩:=ja (U:=U) c1 c2
 rw [en] at TK
 obtain rfl:H=H':=by have:=TK.h;have:=TK0.h;omega
 obtain rfl:V=V':=by have:=TK.v;have:=TK0.v;omega
 obtain rfl:C=C':=by have:=TK.c;have:=TK0.c;omega
 rw [ev]
 rw [TK.h,TK.v,TK.c] at hx ⊢
 rw [hx] at CI
 have TK:=zH TK
 have WK:=zH WK
 have EL:=zH (fun w=>bQ (Ho:Int) (C:Int) (Wo:Int) w (by have:=WK.o.ho1;rw [ah];omega) (by have:=WK.o.wo1;rw [ah];omega) (by have:=WK.o.co1;rw [ah];omega))
 rw [el] at EL
 have hN:=WK.o.no
 obtain ⟨N,hNe⟩:∃ N,Ho*Wo*C=N:=⟨_,rfl⟩
 rw [hNe] at EL hN ⊢
 have NE:=zH hNe
 obtain ⟨PF,hPF⟩:∃ f,iJ U H V C t.data K S P Wo=f:=⟨_,rfl⟩
 rw [hPF]
 have HPF:=zH hPF
 have HU:=zH (And.intro hU0 hUi)
 have HFF:=zH hff
 have WN:=zH (fun (y x o:Nat) (hy:y≤1000) (hx:x≤1000) (ho:o < C) (wq:World) (ha:xA wq A n cap t.data) =>
  qo H V C A n cap t.data d W nw cw B nb cb K S P y x o wq ha TK.o.n_eq TK.o.n_le TK.o.h1 TK.o.v1 TK.o.c1 (dw TK.o) WK.o.k WK.o.s WK.o.p WK.o.k1 WK.o.s1 WK.o.p1.1 hy hx ho)
 have ub1:(Ho:Int)≤16:=by have:=WK.o.ho1;omega
 have ub2:1≤(Wo:Int)∧(Wo:Int)≤16:=by have:=WK.o.wo1;omega
 have ub3:1≤(C:Int)∧(C:Int)≤1024:=by have:=WK.o.co1;omega
 clear c1 c2 hx el ev hNe hPF hU0 hUi hff en TK0 ha
 have FR:=zW w
 obtain ⟨w1,w2,w3,yw1,yw2,yw3,l1,l2,l3,BA,BN,BR,yk3⟩:=bk3 w (tN H V C A n cap) 27 (nD d W nw cw B nb cb) 42 (tN 0 0 0 none 0 0) 27
 replace FR:=zF yk3 FR
 clear yk3
 go_in
 go_wp2_with (first|(refine lGJ19 BA.o ?_)|(go_at_call 11;refine qM (RI.o _) fun w4 hb=>?_;have l4:=hb.size;obtain ⟨FR,BA,BN,BR⟩:=uz4 hb FR BA BN BR;clear hb yw1 yw2 yw3;have a2:=BA.o.cell 2;obtain ⟨b3,b4,b5⟩:=uc3 BN 3 4 5;simp only [gX] at a2 b3 b4 b5)|(refine lQJ 24 (sN H V C) BA.o ?_))
 refine (CI.o _).mono ?_
 clear a2 b3 b4 b5
 rintro e w5 ⟨rfl,hb⟩
 simp only [aL]
 have l5:=hb.size
 obtain ⟨FR,BA,BN,BR⟩:=uz4 hb FR BA BN BR
 clear hb
 obtain ⟨w6,yw6,BD,yk6⟩:=nB w5 (sN (Ho:Int) (Wo:Int) (C:Int)) 24
 obtain ⟨FR,BA,BN,BR⟩:=uz4 yk6 FR BA BN BR
 clear yk6
 have l56:=zL yw6
 go_wp2_with fail
 clear yw6
 go_cut [10] (fun b wx=>∃ g q,b=.pointer (some ⟨g,0,none⟩)∧Blk wx g 27 (tN (Ho:Int) (Wo:Int) (C:Int) (some ⟨q,0,none⟩) (N) (N))∧Own (aa .i8) wx (fun _=>False) w6.heap.size 37 (.slice (some ⟨q,0,none⟩) (N) (N)) (N) (List.replicate (N) 0)∧q ≠ g∧w6.heap.size≤g∧Below w6 w6 wx)
 case first =>
  refine wp_region_held_drew (S:=fun w'=>Blk w' (w5.heap.size) 24 (sN (Ho:Int) (Wo:Int) (C:Int))∧Below w6 w6 w') kM ?_ (fun hS=>?_)
  ·exact ⟨BD.o.drew,(qB _ _).drew⟩
  refine tkH 0 rfl (yP (sN (Ho:Int) (Wo:Int) (C:Int)) (fun w hs=>hs.1)) hS ?_
  try simp only [pX]
  refine tkH 1 rfl (yP (sN (Ho:Int) (Wo:Int) (C:Int)) (fun w hs=>hs.1)) hS ?_
  try simp only [pX]
  refine wpAnyH_ready (rs:=[2,5]) kM sM ?_
  refine AllReadyH.cons rfl (fun K hK=>?_) (AllReadyH.cons rfl (fun K hK=>?_) AllReadyH.nil)
  ·go_simp
   refine qM (EL.o _) fun wa hb=>?_
   refine xK hK (zR hb hS) fun hS=>?_
   clear hK K
   refine wpAnyH_ready (rs:=[3,5]) kM sM ?_
   refine AllReadyH.cons rfl (fun K hK=>?_) (AllReadyH.cons rfl (fun K hK=>?_) AllReadyH.nil)
   ·rw [if_pos (by rfl)]
    have zq:w6.heap.size≤wa.heap.size:=hS.2.size
    refine cE (k:=.i8) (base:=w6.heap.size) (n:=N) (.tmp 38) (.tmp 38) rfl dy .i64 .i64 rfl rfl oM (by unfold maxLen;omega) zq dM ?_
    intro wm own gm
    have OW:=zH (show Own (aa .i8) wm (fun _=>False) w6.heap.size 37 (.slice (some ⟨wa.heap.size,0,none⟩) (N) (N)) (N) (List.replicate (N) 0) by first|exact own|simpa [World.size_alloc] using own)
    refine hK.out _ _ ⟨Blk.grown0 hS.1 gm,hS.2.grown gm zq sM⟩ (fun hS=>?_)
    clear hK K own gm
    try simp only [pX]
    refine kH' 4 hS ?_
    refine rH 5 rfl (fun K hK=>?_)
    go_simp
    have zg:w6.heap.size≤wm.heap.size:=hS.2.size
    obtain ⟨hb,BZ⟩:=zB wm (tN 0 0 0 none 0 0) 27
    have ltq:wa.heap.size < wm.heap.size:=(OW.o.lt _ rfl).2
    replace OW:=zH (OW.o.below hb (lR _) (fun _ h=>h.elim))
    refine xK hK (zR hb hS) fun hS=>?_
    clear hK K
    refine rH 6 rfl (fun K hK=>?_)
    rw [if_pos (by rfl)]
    refine oG (tN (Ho:Int) (Wo:Int) (C:Int) (some ⟨wa.heap.size,0,none⟩) (N) (N)) BZ.o ?_
    intro wc BX gc
    have hne:wa.heap.size ≠ wm.heap.size:=by have:=ltq;omega
    replace OW:=zH (OW.o.flat gc (.inr (by first|(simp [Value.ownBlock];done)|(simp [Value.ownBlock];exact hne))) (fun _ h=>h))
    refine hK.out _ _ ⟨hS.1.away gc (by have:=l56;have:=zg;simp only [World.size_drew] at *;omega),hS.2.grown gc hS.2.size (fun k h=>by have:=sI h;have:=zg;simp only [World.size_drew] at *;omega)⟩ (fun hS=>?_)
    clear hK K
    try simp only [pX]
    refine wpAnyH_done kM ?_ _
    have FZ:=hS.2
    go_wp2_with fail
    go_meet
    case rel=>exact ⟨_,_,rfl,BX,OW.o,hne,zg,FZ⟩
   ·go_simp
    have zg:w6.heap.size≤wa.heap.size:=hS.2.size
    obtain ⟨hb,BZ⟩:=zB wa (tN 0 0 0 none 0 0) 27
    refine xK hK (zR hb hS) fun hS=>?_
    clear hK K
    refine rH 3 rfl (fun K hK=>?_)
    rw [if_pos (by rfl)]
    have zq:w6.heap.size≤(wa.alloc (.cells (tN 0 0 0 none 0 0) 27)).heap.size:=hS.2.size
    refine cE (k:=.i8) (base:=w6.heap.size) (n:=N) (.tmp 38) (.tmp 38) rfl dy .i64 .i64 rfl rfl oM (by unfold maxLen;omega) zq dM ?_
    intro wm own gm
    have OW:=zH (show Own (aa .i8) wm (fun _=>False) w6.heap.size 37 (.slice (some ⟨(wa.heap.size+1),0,none⟩) (N) (N)) (N) (List.replicate (N) 0) by first|exact own|simpa [World.size_alloc] using own)
    replace BZ:=zH (BZ.o.grown0 gm)
    refine hK.out _ _ ⟨Blk.grown0 hS.1 gm,hS.2.grown gm zq sM⟩ (fun hS=>?_)
    clear hK K own gm
    try simp only [pX]
    refine kH' 4 hS ?_
    refine rH 6 rfl (fun K hK=>?_)
    rw [if_pos (by rfl)]
    refine oG #[.int .i64 (Ho:Int),.int .i64 (Wo:Int),.int .i64 (C:Int),.slice (some ⟨(wa.heap.size+1),0,none⟩) (N) (N)] BZ.o ?_
    intro wc BX gc
    have hne:(wa.heap.size+1) ≠ wa.heap.size:=oM
    replace OW:=zH (OW.o.flat gc (.inr (by first|(simp [Value.ownBlock];done)|(simp [Value.ownBlock];exact hne))) (fun _ h=>h))
    refine hK.out _ _ ⟨hS.1.away gc (by have:=l56;have:=zg;simp only [World.size_drew] at *;omega),hS.2.grown gc hS.2.size (fun k h=>by have:=sI h;have:=zg;simp only [World.size_drew] at *;omega)⟩ (fun hS=>?_)
    clear hK K
    try simp only [pX]
    refine wpAnyH_done kM ?_ _
    have FZ:=hS.2
    go_wp2_with fail
    go_meet
    case rel=>exact ⟨_,_,rfl,BX,OW.o,hne,zg,FZ⟩
  ·go_simp
   have zg:w6.heap.size≤w6.heap.size:=hS.2.size
   have hb:Below w6.drew.heap.size w6.drew (w6.drew.alloc (.cells (tN 0 0 0 none 0 0) 27)):=(qB _ _).alloc (lR _) _
   have BZ:=zH (Blk.now w6.drew w6.heap.size 27 (tN 0 0 0 none 0 0) rfl)
   refine xK hK (zR hb hS) fun hS=>?_
   clear hK K
   refine rH 2 rfl (fun K hK=>?_)
   go_simp
   refine qM (EL.o _) fun wa hb=>?_
   replace BZ:=zH (BZ.o.later hb)
   have zwa:=BZ.o.lt
   refine xK hK (zR hb hS) fun hS=>?_
   clear hK K
   refine rH 3 rfl (fun K hK=>?_)
   rw [if_pos (by rfl)]
   have zq:w6.heap.size≤wa.heap.size:=hS.2.size
   refine cE (k:=.i8) (base:=w6.heap.size) (n:=N) (.tmp 38) (.tmp 38) rfl dy .i64 .i64 rfl rfl oM (by unfold maxLen;omega) zq dM ?_
   intro wm own gm
   have OW:=zH (show Own (aa .i8) wm (fun _=>False) w6.heap.size 37 (.slice (some ⟨wa.heap.size,0,none⟩) (N) (N)) (N) (List.replicate (N) 0) by first|exact own|simpa [World.size_alloc] using own)
   replace BZ:=zH (BZ.o.grown0 gm)
   refine hK.out _ _ ⟨Blk.grown0 hS.1 gm,hS.2.grown gm zq sM⟩ (fun hS=>?_)
   clear hK K own gm
   try simp only [pX]
   refine kH' 4 hS ?_
   refine rH 6 rfl (fun K hK=>?_)
   rw [if_pos (by rfl)]
   refine oG (tN (Ho:Int) (Wo:Int) (C:Int) (some ⟨wa.heap.size,0,none⟩) (N) (N)) BZ.o ?_
   intro wc BX gc
   have hne:wa.heap.size ≠ w6.heap.size:=by have:=zwa;omega
   replace OW:=zH (OW.o.flat gc (.inr (by first|(simp [Value.ownBlock];done)|(simp [Value.ownBlock];exact hne))) (fun _ h=>h))
   refine hK.out _ _ ⟨hS.1.away gc (by have:=l56;have:=zg;simp only [World.size_drew] at *;omega),hS.2.grown gc hS.2.size (fun k h=>by have:=sI h;have:=zg;simp only [World.size_drew] at *;omega)⟩ (fun hS=>?_)
   clear hK K
   try simp only [pX]
   refine wpAnyH_done kM ?_ _
   have FZ:=hS.2
   go_wp2_with fail
   go_meet
   case rel=>exact ⟨_,_,rfl,BX,OW.o,hne,zg,FZ⟩
 case rest =>
  obtain ⟨g,q,rfl,bg,own,hqg,zg,b4⟩:=hcut
  obtain ⟨w7,rfl⟩:∃ x,x=wc:=⟨_,rfl⟩
  have BG:=zH bg
  have lq:w6.heap.size≤q∧q < w7.heap.size:=own.lt _ rfl
  have lg5:=bg.lt
  rw [← mQ PF (fun j=>decide (j < 0)) N (fun j _=>by simp)] at own
  have ON:=zH own
  clear bg own CI RI
  obtain ⟨FR,BA,BN,BR,BD⟩:=uz5 b4 FR BA BN BR BD
  clear b4
  have g3:=BG.o.cell 3
  go_wp2_with fail
  clear g3
  go_loopw [44] (fun ii wr=>∃ k:Nat,k≤N∧ii=.int .i64 k∧Far w wr∧Blk wr w.heap.size 27 (tN H V C A n cap)∧Blk wr w1.heap.size 42 (nD d W nw cw B nb cb)∧Blk wr w2.heap.size 27 (tN 0 0 0 none 0 0)∧Blk wr w5.heap.size 24 (sN (Ho:Int) (Wo:Int) (C:Int))∧Blk wr g 27 (tN (Ho:Int) (Wo:Int) (C:Int) (some ⟨q,0,none⟩) N N)∧Own (aa .i8) wr (fun _=>False) w6.heap.size 37 (.slice (some ⟨q,0,none⟩) N N) N (stF PF (fun j=>decide (j < k)) N)) (fun ii _=>N - (intOf ii).toNat)
  case atStart=>exact ⟨0,zl _,rfl,FR.o,BA.o,BN.o,BR.o,BD.o,BG.o,ON.o⟩
  case round =>
   obtain ⟨k,hk,rfl,f0,f1,f2,f3,f4,f5,f6⟩:=hrel
   clear FR BA BN BR BD BG ON
   have FR:=zH f0
   have BA:=zH f1
   have BN:=zH f2
   have BR:=zH f3
   have BD:=zH f4
   have BG:=zH f5
   have ON:=zH f6
   clear f0 f1 f2 f3 f4 f5 f6
   by_cases hlt:k < N
   ·have p1:(k:Int) < (N:Int):=oM
    go_wp2_with fail
    obtain ⟨a1,ha1⟩:∃ m,k / C=m:=⟨_,rfl⟩
    obtain ⟨yb,hyb⟩:∃ m,a1 / Wo=m:=⟨_,rfl⟩
    obtain ⟨xb,hxb⟩:∃ m,a1 % Wo=m:=⟨_,rfl⟩
    obtain ⟨cb',hcb⟩:∃ m,k % C=m:=⟨_,rfl⟩
    have k1:a1≤1000000:=by rw [← ha1];exact lT (Nat.div_le_self _ _) oM
    have byb:yb≤1000:=by
     rw [← hyb,← ha1]
     have:k / C / Wo < Ho:=by
      rw [Nat.div_lt_iff_lt_mul oM,Nat.div_lt_iff_lt_mul oM,NE.o];exact hlt
     omega
    have bxb:xb≤1000:=by rw [← hxb];have:=Nat.mod_lt a1 (show Wo > 0 by omega);omega
    have bcb:cb' < C:=by rw [← hcb];exact Nat.mod_lt _ oM
    have hC0:¬ C=0:=oM
    have hW0:¬ Wo=0:=oM
    have d1:(k:Int).tdiv (C:Int)=(a1:Int):=by rw [← ha1,Int.tdiv_eq_ediv_of_nonneg oM];simp
    have d2:(a1:Int).tdiv (Wo:Int)=(yb:Int):=by rw [← hyb,Int.tdiv_eq_ediv_of_nonneg oM];simp
    have d3:(a1:Int).tmod (Wo:Int)=(xb:Int):=by rw [← hxb,Int.tmod_eq_emod_of_nonneg oM];simp
    have d4:(k:Int).tmod (C:Int)=(cb':Int):=by rw [← hcb,Int.tmod_eq_emod_of_nonneg oM];simp
    have e1:IntKind.i64.wrap (a1:Int)=(a1:Int):=wJ
    have e2:IntKind.i64.wrap (yb:Int)=(yb:Int):=wJ
    have e3:IntKind.i64.wrap (xb:Int)=(xb:Int):=wJ
    have e4:IntKind.i64.wrap (cb':Int)=(cb':Int):=wJ
    obtain ⟨WL,hWL⟩:∃ L,dc H V C t.data K S P cb' yb xb (K*K)=L:=⟨_,rfl⟩
    have CW:=zH (fun wq ha=>WN.o yb xb cb' byb bxb bcb wq ha)
    rw [hWL] at CW
    have FK:=zH (show PF k=U WL by rw [← HPF.o];unfold iJ;rw [hcb,ha1,hyb,hxb,hWL])
    have WLL:=zH (show WL.length≤1024 by rw [← hWL];exact lT (fW _ _ _ _ _ _ _ _ _ _ _) (lT (Nat.mul_le_mul WK.o.k1.2 WK.o.k1.2) dM))
    clear hWL ha1 hyb hxb hcb
    have fd:Below wr wr wr.drew:=(qB _ _).drew
    have x1:=(BD.o.fut fd).cell 1
    have x2:=(BD.o.fut fd).cell 2
    simp only [gX] at x1 x2
    refine aJ (fun w'=>w'.cell? ⟨w5.heap.size,1,none⟩=some (.int .i64 Wo)∧w'.cell? ⟨w5.heap.size,2,none⟩=some (.int .i64 C)∧Below wr wr w') 22 kM ?_ (fun hS=>?_)
    ·exact ⟨x1,x2,fd⟩
    refine tkT 0 rfl (yB 27 (.tmp 3) w (fun w hs=>BA.o.later hs.2.2) underlying27) hS ?_
    try simp only [pX]
    refine tkT 1 rfl (yB 42 (.tmp 4) w1 (fun w hs=>BN.o.later hs.2.2) underlying42) hS ?_
    try simp only [pX]
    refine kT' 2 hS ?_
    refine kT' 3 hS ?_
    refine kT' 4 hS ?_
    refine kT' 5 hS ?_
    refine kT' 6 hS ?_
    refine kT' 7 hS ?_
    refine kT' 8 hS ?_
    refine kT' 9 hS ?_
    refine kT' 10 hS ?_
    refine kT' 11 hS ?_
    refine kT' 12 hS ?_
    refine kT' 13 hS ?_
    refine kT' 14 hS ?_
    refine kT' 15 hS ?_
    refine kT' 16 hS ?_
    refine kT' 17 hS ?_
    refine kT' 18 hS ?_
    refine kT' 19 hS ?_
    refine rT 20 (fun K hK=>?_)
    go_simp
    refine (CW.o _ ((Old.now HA.o).fut (FR.o.fut hS.2.2).out).all).mono ?_;rintro e w8 ⟨Fv,rfl,hb,CC⟩
    refine xK hK (zR hb hS) fun hS=>?_
    clear hK K
    refine rT 21 (fun K hK=>?_)
    go_simp
    refine CC.mono ?_;rintro e w9 ⟨RA,rn,rc,rfl,rs,hb⟩;have RS:=zH rs.old;have lrn:=rs.n_eq;have mrn:rn≤9223372036854775807:=lT rs.cap_le rs.max_le;clear CC rs
    refine xK hK (zR hb hS) fun hS=>?_
    clear hK K
    refine wpAnyT_tail _ _ rfl rfl kM ?_
    have kd:=hS.2.2
    replace ON:=zH (ON.o.below kd (lR _) (fun _ h=>h.elim))
    obtain ⟨FR,BA,BN,BR,BD,BG⟩:=uz6 kd FR BA BN BR BD BG
    clear kd
    clear x1 x2 hS fd hb d1 d2 d3 d4 e1 e2 e3 e4
    by_cases r0:0 < rn
    ·have r0':(0:Int) < (rn:Int):=oM
     have lg9:=BG.o.lt
     have FU:=zH (HFF.o RA rn rc WL)
     go_wp2_with fail
     have fd:Below w9 w9 w9.drew:=(qB _ _).drew
     have cd:=(BG.o.fut fd).cell 3
     simp only [gX] at cd
     refine aJ (fun w'=>w'.cell? ⟨g,3,none⟩=some (.slice (some ⟨q,0,none⟩) N N)∧Below w9 w9 w') 6 kM ?_ (fun hS=>?_)
     ·exact ⟨cd,fd⟩
     refine kT' 0 hS ?_
     refine kT' 1 hS ?_
     refine kT' 2 hS ?_
     refine kT' 3 hS ?_
     refine kT' 4 hS ?_
     refine rT 5 (fun K hK=>?_)
     go_simp
     refine qM (FU.o _ (RS.o.fut hS.2) (by have:=WLL.o;omega) oM) fun wa hb=>?_
     refine xK hK (zR hb hS) fun hS=>?_
     clear hK K
     refine wpAnyT_tail _ _ rfl rfl kM ?_
     have hb:=hS.2
     have O4:=zH (ON.o.below hb (lR _) (fun _ h=>h.elim))
     obtain ⟨FR,BA,BN,BR,BD,BG⟩:=uz6 hb FR BA BN BR BD BG
     clear hb
     obtain ⟨x1,u1,-,-,c5,c6,c7,-⟩:=O4.o.cell rfl k hlt
     go_wp2_with fail
     obtain ⟨o3,g3⟩:=O4.o.set1 rfl k (.int .i8 (U WL)) (U WL) ⟨rfl,HU.o.2 WL⟩ (fun _ h=>h.elim)
     rw [← FK.o,sQ] at o3
     rw [← FK.o]
     exact ⟨⟨k+1,by omega,by go_num,FR.o.away (by rw [FK.o];exact g3) oM,BA.o.away (by rw [FK.o];exact g3) (.inl oM),BN.o.away (by rw [FK.o];exact g3) (.inl oM),BR.o.away (by rw [FK.o];exact g3) (.inl oM),BD.o.away (by rw [FK.o];exact g3) (.inl oM),BG.o.away (by rw [FK.o];exact g3) oM,o3⟩,by simp [intOf];omega⟩
    ·obtain rfl:rn=0:=oM
     obtain rfl:WL=[]:=List.length_eq_zero_iff.1 lrn
     have r0':¬ (0:Int) < ((0:Nat):Int):=oM
     go_wp2_with fail
     have o3:=ON.o
     rw [sR PF k N (by rw [FK.o];exact HU.o.1)] at o3
     exact ⟨⟨k+1,by omega,by go_num,FR.o,BA.o,BN.o,BR.o,BD.o,BG.o,o3⟩,by simp [intOf];omega⟩
   ·obtain rfl:k=N:=oM
    go_wp2_with (first|(refine lB 27 (.tmp 10) g BG.o underlying27 ?_)|(refine sGJ19 (tN (Ho:Int) (Wo:Int) (C:Int) (some ⟨q,0,none⟩) k k) BR.o ?_;intro w9 B9 g9))
    have e1:=ON.o
    rw [oT _ _ _ (fun j hj=>by simpa using hj)] at e1
    have e2:=e1.flat g9 (.inr (by simp [Value.ownBlock];omega)) (fun _ h=>h)
    refine rG B9 ?_
    have FE:=FR.o.away g9 oM
    obtain ⟨A2,c2,hv,s⟩:=e2.sl (S':=bin w.heap.size _) dM (fun b h1 h2=>⟨by omega,h2⟩) (fun b h=>h.elim)
    injection hv with hv1 hv2 hv3
    subst hv1 hv3
    exact ⟨_,_,_,rfl,s,FE.out⟩
def tM (l:List Int):Int:=if l.length=0 then 0 else hiN l l.length
theorem qR {l:List Int} (h:∀ i,InK .i8 (l.getD i 0)):∀ n,InK .i8 (hiN l n)
 | 0=>h 0
 | n+1=>by
  unfold hiN
  split
  ·exact h n
  ·exact qR h n
theorem uk {x:Int} (h:InK .i8 x):w8 x=x:=by rw [qk];rw [aT] at h;omega
def dG (l:List Int):Int:=w8 (tM l)
theorem oL {l:List Int} (h:∀ i,InK .i8 (l.getD i 0)):dG l=if l.length=0 then 0 else hiN l l.length:=by
 unfold dG tM
 split
 ·decide
 ·exact uk (qR h _)
theorem qW:cP []=0:=by decide
theorem sx:dG []=0:=by decide
theorem nU (t:ae) (A:QA) (n cap:Nat) (d:af) (W:QA) (nw cw:Nat) (B:QA) (nb cb:Nat) (w:World)
  (ha:xA w A n cap t.data) (c1:t.ok=true) :
  Calls prog 45 #[.agg (tN t.h t.v t.c A n cap),.agg (nD d W nw cw B nb cb)] w (ar .i8 (a8 dG t d).1 (a8 dG t d).2 w):=by
 have HA:=zH ha
 have MD:=zH (fun w ha=>show Calls prog 82 #[.agg (tN t.h t.v t.c A n cap),.agg (nD d W nw cw B nb cb),.func (.func 83) #[] #[]] w (ar .i8 (a8 dG t d).1 (a8 dG t d).2 w) from by
  by_cases c2:(aw t.h t.v t.c d.k d.s d.p t.c).2=0
  ·exact km 83 dG sx (fun l=>jM _) (fun A n cap l w hl hn h1=>by rw [oL hl.allK,hl.n_eq,if_neg oM];exact (l0 A n cap l w hl hn h1).mono fun e w' h=>⟨h.1,by rw [← h.2];exact qB _ _⟩) (enters_of func83 kM rfl) t A n cap d W nw cw B nb cb w ha c1 c2
  ·have e:a8 dG t d=(aj,(aw t.h t.v t.c d.k d.s d.p t.c).2):=by unfold a8;rw [if_neg c2]
   rw [e]
   exact kh 83 t A n cap d W nw cw B nb cb w ha c1 c2)
 obtain ⟨Q,hQ⟩:∃ q,a8 dG t d=q:=⟨_,rfl⟩
 rw [hQ] at MD ⊢
 have FR:=zW w
 clear ha c1 hQ
 obtain ⟨w1,w2,w3,yw1,yw2,yw3,l1,l2,_,BA,BN,BR,yk3⟩:=bk3 w (tN t.h t.v t.c A n cap) 27 (nD d W nw cw B nb cb) 42 (tN 0 0 0 none 0 0) 27
 replace FR:=zF yk3 FR
 clear yk3
 go_in
 go_wp2_with (first|(refine lGJ19 BA.o ?_)|(refine lGJ19 BN.o ?_))
 refine (MD.o _ (zO HA FR)).mono ?_
 rintro e w4 ⟨A2,n2,c2,rfl,rs,hb⟩
 have BR4:=zH (BR.o.fut hb)
 have F4:=zH (FR.o.fut hb)
 have RS:=zH (New.of rs FR.o)
 have l34:=hb.size
 have lr:=BR.o.lt
 have hlow:=zH (show ∀ b,bin w3 w4 b → b ≠ w2.heap.size from fun b h e=>by have:=h.1;omega)
 have RS2:=zH rs
 clear hb rs yw1 yw2 yw3 MD
 go_wp2_with (refine sGJ19 (tN Q.1.h Q.1.v Q.1.c A2 n2 c2) BR4.o ?_;intro w9 B9 g9)
 refine rG B9 ?_
 have s9:=g9.size
 refine ⟨A2,n2,c2,rfl,?_,(F4.o.away g9 oM).out⟩
 exact (RS2.o.keep (w':=w9) fun b h=>g9.block b (by have:=h.2;omega) (fun e=>hlow.out b h (by have:=sI e;omega))).more fun b h=>⟨by have:=h.1;omega,by have:=h.2;omega⟩
theorem kP (t:ae) (A:QA) (n cap:Nat) (d:af) (W:QA) (nw cw:Nat) (B:QA) (nb cb:Nat) (w:World)
  (ha:xA w A n cap t.data) (c1:t.ok=true) :
  Calls prog 46 #[.agg (tN t.h t.v t.c A n cap),.agg (nD d W nw cw B nb cb)] w (ar .i8 (a8 cP t d).1 (a8 cP t d).2 w):=by
 have HA:=zH ha
 have MD:=zH (fun w ha=>show Calls prog 82 #[.agg (tN t.h t.v t.c A n cap),.agg (nD d W nw cw B nb cb),.func (.func 84) #[] #[]] w (ar .i8 (a8 cP t d).1 (a8 cP t d).2 w) from by
  by_cases c2:(aw t.h t.v t.c d.k d.s d.p t.c).2=0
  ·exact km 84 cP qW mi (fun A n cap l w hl hn h1=>mr A n cap l w hl hn) (enters_of func84 kM rfl) t A n cap d W nw cw B nb cb w ha c1 c2
  ·have e:a8 cP t d=(aj,(aw t.h t.v t.c d.k d.s d.p t.c).2):=by unfold a8;rw [if_neg c2]
   rw [e]
   exact kh 84 t A n cap d W nw cw B nb cb w ha c1 c2)
 obtain ⟨Q,hQ⟩:∃ q,a8 cP t d=q:=⟨_,rfl⟩
 rw [hQ] at MD ⊢
 have FR:=zW w
 clear ha c1 hQ
 obtain ⟨w1,w2,w3,yw1,yw2,yw3,l1,l2,_,BA,BN,BR,yk3⟩:=bk3 w (tN t.h t.v t.c A n cap) 27 (nD d W nw cw B nb cb) 42 (tN 0 0 0 none 0 0) 27
 replace FR:=zF yk3 FR
 clear yk3
 go_in
 go_wp2_with (first|(refine lGJ19 BA.o ?_)|(refine lGJ19 BN.o ?_))
 refine (MD.o _ (zO HA FR)).mono ?_
 rintro e w4 ⟨A2,n2,c2,rfl,rs,hb⟩
 have BR4:=zH (BR.o.fut hb)
 have F4:=zH (FR.o.fut hb)
 have RS:=zH (New.of rs FR.o)
 have l34:=hb.size
 have lr:=BR.o.lt
 have hlow:=zH (show ∀ b,bin w3 w4 b → b ≠ w2.heap.size from fun b h e=>by have:=h.1;omega)
 have RS2:=zH rs
 clear hb rs yw1 yw2 yw3 MD
 go_wp2_with (refine sGJ19 (tN Q.1.h Q.1.v Q.1.c A2 n2 c2) BR4.o ?_;intro w9 B9 g9)
 refine rG B9 ?_
 have s9:=g9.size
 refine ⟨A2,n2,c2,rfl,?_,(F4.o.away g9 oM).out⟩
 exact (RS2.o.keep (w':=w9) fun b h=>g9.block b (by have:=h.2;omega) (fun e=>hlow.out b h (by have:=sI e;omega))).more fun b h=>⟨by have:=h.1;omega,by have:=h.2;omega⟩
theorem pV (mo:Bool) (t:ae) (A:QA) (n cap:Nat) (d:af) (W:QA) (nw cw:Nat) (B:QA) (nb cb:Nat) (w:World)
  (ha:xA w A n cap t.data) (c1:t.ok=true) (c2:¬ (aw t.h t.v t.c d.k d.s d.p t.c).2=0) :
  Calls prog 29 #[.agg (tN t.h t.v t.c A n cap),.agg (nD d W nw cw B nb cb),.bool mo] w (ar .i8 aj (aw t.h t.v t.c d.k d.s d.p t.c).2 w):=by
 have HA:=zH ha
 obtain ⟨H,V,C,TK0⟩:=cY c1
 have en:t.data.length=n:=HA.o.n_eq
 rw [en] at TK0
 have RI:=zH (fun w=>aF (H:Int) (V:Int) (C:Int) A n cap w (by have:=TK0.h1;rw [ah];omega) (by have:=TK0.v1;rw [ah];omega) (by have:=TK0.c1;rw [ah];omega) (lT HA.o.cap_le HA.o.max_le))
 rw [gk TK0] at RI
 have CI:=zH (fun w=>dU (H:Int) (V:Int) (C:Int) d.k d.s d.p (C:Int) w (by have:=TK0.h1;rw [ah];omega) (by have:=TK0.v1;rw [ah];omega) (by have:=TK0.c1;rw [ah];omega) (by have:=TK0.c1;rw [ah];omega))
 rw [TK0.h,TK0.v,TK0.c] at c2 ⊢
 obtain ⟨⟨⟨x1,x2,x3⟩,k⟩,hx⟩:∃ x,aw H V C d.k d.s d.p C=x:=⟨_,rfl⟩
 rw [hx] at c2 CI ⊢
 have hk2:(k != 0)=true:=by rw [bne_iff_ne];exact c2
 clear hx c2
 have FR:=zW w
 obtain ⟨w1,w2,w3,yw1,yw2,yw3,l1,l2,l3,BA,BN,BR,yk3⟩:=bk3 w (tN H V C A n cap) 27 (nD d W nw cw B nb cb) 42 (tN 0 0 0 none 0 0) 27
 replace FR:=zF yk3 FR
 clear yk3
 go_in
 go_wp2_with (first|(refine lGJ19 BA.o ?_)|(go_at_call 15;refine qM (RI.o _) fun w4 hb=>?_;have l4:=hb.size;obtain ⟨FR,BA,BN,BR⟩:=uz4 hb FR BA BN BR;clear hb yw1 yw2 yw3;have a2:=BA.o.cell 2;obtain ⟨b3,b4,b5⟩:=uc3 BN 3 4 5;simp only [gX] at a2 b3 b4 b5)|(refine lQJ 24 (sN H V C) BA.o ?_))
 refine (CI.o _).mono ?_
 clear a2 b3 b4 b5
 rintro e w5 ⟨rfl,hb⟩
 simp only [aL]
 have l5:=hb.size
 obtain ⟨FR,BA,BN,BR⟩:=uz4 hb FR BA BN BR
 clear hb
 obtain ⟨w6,yw6,BD,yk6⟩:=nB w5 (sN x1 x2 x3) 24
 obtain ⟨FR,BA,BN,BR⟩:=uz4 yk6 FR BA BN BR
 clear yk6
 go_wp2_with (refine sGJ19 (tN 0 0 0 none 0 0) BR.o ?_;intro w9 B9 g9)
 refine rG B9 ?_
 exact ar.none (FR.o.away g9 oM).out
def eO (mo:Bool):List Int → Int:=if mo=true then dG else cP
theorem sL (mo:Bool) (l:List Int):InK .i8 (eO mo l):=by unfold eO;split;exact jM _;exact mi l
theorem pW (mo:Bool) (t:ae) (A:QA) (n cap:Nat) (d:af) (W:QA) (nw cw:Nat) (B:QA) (nb cb:Nat) (w:World)
  (ha:xA w A n cap t.data) (c1:t.ok=true) (c2:(aw t.h t.v t.c d.k d.s d.p t.c).2=0) :
  Calls prog 29 #[.agg (tN t.h t.v t.c A n cap),.agg (nD d W nw cw B nb cb),.bool mo] w (ar .i8 (a8 (eO mo) t d).1 (a8 (eO mo) t d).2 w):=by
 have HA:=zH ha
 obtain ⟨H,V,C,TK0⟩:=cY c1
 have en:t.data.length=n:=HA.o.n_eq
 rw [en] at TK0
 have RI:=zH (fun w=>aF (H:Int) (V:Int) (C:Int) A n cap w (by have:=TK0.h1;rw [ah];omega) (by have:=TK0.v1;rw [ah];omega) (by have:=TK0.c1;rw [ah];omega) (lT HA.o.cap_le HA.o.max_le))
 rw [gk TK0] at RI
 have CI:=zH (fun w=>dU (H:Int) (V:Int) (C:Int) d.k d.s d.p (C:Int) w (by have:=TK0.h1;rw [ah];omega) (by have:=TK0.v1;rw [ah];omega) (by have:=TK0.c1;rw [ah];omega) (by have:=TK0.c1;rw [ah];omega))
 obtain ⟨H',V',C',K,S,P,Ho,Wo,TK,WK,hx,el,ev⟩:=ja (U:=eO mo) c1 c2
 rw [en] at TK
 obtain rfl:H=H':=by have:=TK.h;have:=TK0.h;omega
 obtain rfl:V=V':=by have:=TK.v;have:=TK0.v;omega
 obtain rfl:C=C':=by have:=TK.c;have:=TK0.c;omega
 rw [ev]
 rw [TK.h,TK.v,TK.c] at hx ⊢
 rw [hx] at CI
 have TK:=zH TK
 have WK:=zH WK
 have EL:=zH (fun w=>aQ (Ho:Int) (C:Int) (Wo:Int) w (by have:=WK.o.ho1;rw [ah];omega) (by have:=WK.o.wo1;rw [ah];omega) (by have:=WK.o.co1;rw [ah];omega))
 rw [el] at EL
 have hN:=WK.o.no
 obtain ⟨N,hNe⟩:∃ N,Ho*Wo*C=N:=⟨_,rfl⟩
 rw [hNe] at EL hN ⊢
 have NE:=zH hNe
 obtain ⟨U,hU⟩:∃ U,eO mo=U:=⟨_,rfl⟩
 have HUI:=zH (show ∀ l,InK .i8 (U l) from fun l=>by rw [← hU];exact sL mo l)
 rw [hU]
 have HU:=zH hU
 obtain ⟨PF,hPF⟩:∃ f,iJ U H V C t.data K S P Wo=f:=⟨_,rfl⟩
 rw [hPF]
 have HPF:=zH hPF
 have WN:=zH (fun (y x o:Nat) (hy:y≤1000) (hx:x≤1000) (ho:o < C) (wq:World) (ha:xA wq A n cap t.data) =>
  oC H V C A n cap t.data d W nw cw B nb cb K S P y x o wq ha TK.o.n_eq TK.o.n_le TK.o.h1 TK.o.v1 TK.o.c1 WK.o.k WK.o.s WK.o.p WK.o.k1 WK.o.s1 WK.o.p1.1 hy hx ho)
 have ub1:(Ho:Int)≤16:=by have:=WK.o.ho1;omega
 have ub2:1≤(Wo:Int)∧(Wo:Int)≤16:=by have:=WK.o.wo1;omega
 have ub3:1≤(C:Int)∧(C:Int)≤1024:=by have:=WK.o.co1;omega
 clear c1 c2 hx el ev hNe hPF hU en TK0 ha
 have FR:=zW w
 obtain ⟨w1,w2,w3,yw1,yw2,yw3,l1,l2,l3,BA,BN,BR,yk3⟩:=bk3 w (tN H V C A n cap) 27 (nD d W nw cw B nb cb) 42 (tN 0 0 0 none 0 0) 27
 replace FR:=zF yk3 FR
 clear yk3
 go_in
 go_wp2_with (first|(refine lGJ19 BA.o ?_)|(go_at_call 15;refine qM (RI.o _) fun w4 hb=>?_;have l4:=hb.size;obtain ⟨FR,BA,BN,BR⟩:=uz4 hb FR BA BN BR;clear hb yw1 yw2 yw3;have a2:=BA.o.cell 2;obtain ⟨b3,b4,b5⟩:=uc3 BN 3 4 5;simp only [gX] at a2 b3 b4 b5)|(refine lQJ 24 (sN H V C) BA.o ?_))
 refine (CI.o _).mono ?_
 clear a2 b3 b4 b5
 rintro e w5 ⟨rfl,hb⟩
 simp only [aL]
 have l5:=hb.size
 obtain ⟨FR,BA,BN,BR⟩:=uz4 hb FR BA BN BR
 clear hb
 obtain ⟨w6,yw6,BD,yk6⟩:=nB w5 (sN (Ho:Int) (Wo:Int) (C:Int)) 24
 obtain ⟨FR,BA,BN,BR⟩:=uz4 yk6 FR BA BN BR
 clear yk6
 have l56:=zL yw6
 have BD6:=zH BD.o
 obtain ⟨w7,yw7,BG,yk7⟩:=nB w6 (tN 0 0 0 none 0 0) 27
 obtain ⟨FR,BA,BN,BR,BD⟩:=uz5 yk7 FR BA BN BR BD
 clear yk7
 have l67:w7.heap.size=w6.heap.size+1:=by rw [← yw7];simp
 go_wp2_with (first|(refine lGJ19 BD6.o ?_)|(refine sGJ19 (tN (Ho:Int) (Wo:Int) (C:Int) none 0 0) BG.o ?_;intro w8 B8 g8))
 clear yw6 yw7 BD6
 replace FR:=zA g8 FR
 replace BA:=zA g8 BA
 replace BN:=zA g8 BN
 replace BR:=zA g8 BR
 replace BD:=zA g8 BD
 replace BG:=zH B8
 clear B8 g8 CI RI
 have ON:=zH (show Own (aa .i8) w8 (fun _=>False) w7.heap.size 37 (.slice none 0 0) 0 ((List.range 0).map PF) from Own.nil _ _ _ _ _)
 go_loopw [11] (fun ii wr=>∃ k:Nat,k≤N∧ii=.int .i64 k∧Far w wr∧Blk wr w.heap.size 27 (tN H V C A n cap)∧Blk wr w1.heap.size 42 (nD d W nw cw B nb cb)∧Blk wr w2.heap.size 27 (tN 0 0 0 none 0 0)∧Blk wr w5.heap.size 24 (sN (Ho:Int) (Wo:Int) (C:Int))∧∃ u,Blk wr w6.heap.size 27 #[.int .i64 (Ho:Int),.int .i64 (Wo:Int),.int .i64 (C:Int),u]∧Own (aa .i8) wr (fun _=>False) w7.heap.size 37 u k ((List.range k).map PF)) (fun ii _=>N - (intOf ii).toNat)
 case atStart=>exact ⟨0,zl _,rfl,FR.o,BA.o,BN.o,BR.o,BD.o,_,BG.o,ON.o⟩
 case round =>
  obtain ⟨k,hk,rfl,f0,f1,f2,f3,f4,u,f5,f6⟩:=hrel
  clear FR BA BN BR BD BG ON
  have FR:=zH f0
  have BA:=zH f1
  have BN:=zH f2
  have BR:=zH f3
  have BD:=zH f4
  have BG:=zH f5
  have ON:=zH f6
  clear f0 f1 f2 f3 f4 f5 f6
  go_wp2_with (refine lGJ19 BD.o ?_)
  refine qM (EL.o _) fun wv hb=>?_
  replace ON:=zH (ON.o.below hb (lR _) (fun _ h=>h.elim))
  obtain ⟨FR,BA,BN,BR,BD,BG⟩:=uz6 hb FR BA BN BR BD BG
  clear hb
  by_cases hlt:k < N
  ·have p1:(k:Int) < (N:Int):=oM
   go_wp2_with fail
   obtain ⟨a1,ha1⟩:∃ m,k / C=m:=⟨_,rfl⟩
   obtain ⟨yb,hyb⟩:∃ m,a1 / Wo=m:=⟨_,rfl⟩
   obtain ⟨xb,hxb⟩:∃ m,a1 % Wo=m:=⟨_,rfl⟩
   obtain ⟨cb',hcb⟩:∃ m,k % C=m:=⟨_,rfl⟩
   have k1:a1≤1000000:=by rw [← ha1];exact lT (Nat.div_le_self _ _) oM
   have byb:yb≤1000:=by
    rw [← hyb,← ha1]
    have:k / C / Wo < Ho:=by
     rw [Nat.div_lt_iff_lt_mul oM,Nat.div_lt_iff_lt_mul oM,NE.o];exact hlt
    omega
   have bxb:xb≤1000:=by rw [← hxb];have:=Nat.mod_lt a1 (show Wo > 0 by omega);omega
   have bcb:cb' < C:=by rw [← hcb];exact Nat.mod_lt _ oM
   have hC0:¬ C=0:=oM
   have hW0:¬ Wo=0:=oM
   have d1:(k:Int).tdiv (C:Int)=(a1:Int):=by rw [← ha1,Int.tdiv_eq_ediv_of_nonneg oM];simp
   have d2:(a1:Int).tdiv (Wo:Int)=(yb:Int):=by rw [← hyb,Int.tdiv_eq_ediv_of_nonneg oM];simp
   have d3:(a1:Int).tmod (Wo:Int)=(xb:Int):=by rw [← hxb,Int.tmod_eq_emod_of_nonneg oM];simp
   have d4:(k:Int).tmod (C:Int)=(cb':Int):=by rw [← hcb,Int.tmod_eq_emod_of_nonneg oM];simp
   have e1:IntKind.i64.wrap (a1:Int)=(a1:Int):=wJ
   have e2:IntKind.i64.wrap (yb:Int)=(yb:Int):=wJ
   have e3:IntKind.i64.wrap (xb:Int)=(xb:Int):=wJ
   have e4:IntKind.i64.wrap (cb':Int)=(cb':Int):=wJ
   obtain ⟨WL,hWL⟩:∃ L,dc H V C t.data K S P cb' yb xb (K*K)=L:=⟨_,rfl⟩
   have CW:=zH (fun wq ha=>WN.o yb xb cb' byb bxb bcb wq ha)
   rw [hWL] at CW
   have FK:=zH (show PF k=U WL by rw [← HPF.o];unfold iJ;rw [hcb,ha1,hyb,hxb,hWL])
   have WLL:=zH (show WL.length≤1024 by rw [← hWL];exact lT (fW _ _ _ _ _ _ _ _ _ _ _) (lT (Nat.mul_le_mul WK.o.k1.2 WK.o.k1.2) dM))
   clear hWL ha1 hyb hxb hcb
   have fd:Below wv wv wv.drew:=(qB _ _).drew
   have x1:=(BD.o.fut fd).cell 1
   have x2:=(BD.o.fut fd).cell 2
   simp only [gX] at x1 x2
   refine aJ (fun w'=>w'.cell? ⟨w5.heap.size,1,none⟩=some (.int .i64 Wo)∧w'.cell? ⟨w5.heap.size,2,none⟩=some (.int .i64 C)∧Below wv wv w') 21 kM ?_ (fun hS=>?_)
   ·exact ⟨x1,x2,fd⟩
   refine tkT 0 rfl (yB 27 (.tmp 3) w (fun w hs=>BA.o.later hs.2.2) underlying27) hS ?_
   try simp only [pX]
   refine tkT 1 rfl (yB 42 (.tmp 4) w1 (fun w hs=>BN.o.later hs.2.2) underlying42) hS ?_
   try simp only [pX]
   refine kT' 2 hS ?_
   refine kT' 3 hS ?_
   refine kT' 4 hS ?_
   refine kT' 5 hS ?_
   refine kT' 6 hS ?_
   refine kT' 7 hS ?_
   refine kT' 8 hS ?_
   refine kT' 9 hS ?_
   refine kT' 10 hS ?_
   refine kT' 11 hS ?_
   refine kT' 12 hS ?_
   refine kT' 13 hS ?_
   refine kT' 14 hS ?_
   refine kT' 15 hS ?_
   refine kT' 16 hS ?_
   refine kT' 17 hS ?_
   refine kT' 18 hS ?_
   refine kT' 19 hS ?_
   refine rT 20 (fun K hK=>?_)
   go_simp
   refine (CW.o _ ((Old.now HA.o).fut (FR.o.fut hS.2.2).out).all).mono ?_;rintro e w9 ⟨RA,rn,rc,rfl,rs,hb⟩;have RS:=zH rs.old;have lrn:=rs.n_eq;have mrn:rn≤9223372036854775807:=lT rs.cap_le rs.max_le;clear rs
   refine xK hK (zR hb hS) fun hS=>?_
   clear hK K
   refine wpAnyT_tail _ _ rfl rfl kM ?_
   have kd:=hS.2.2
   replace ON:=zH (ON.o.below kd (lR _) (fun _ h=>h.elim))
   obtain ⟨FR,BA,BN,BR,BD,BG⟩:=uz6 kd FR BA BN BR BD BG
   clear kd
   clear x1 x2 hS fd hb d1 d2 d3 d4 e1 e2 e3 e4
   have brn:rn≤1024:=by have:=WLL.o;omega
   have w8all:=zH (show ∀ i,InK .i8 (WL.getD i 0) from RS.o.allK)
   have UI:=zH (HUI.o WL)
   have FS:=zH (dz PF k)
   cases mo
   ·have EU:=zH (show cP WL=U WL by rw [← HU.o];rfl)
    obtain ⟨v,hv⟩:∃ v,U WL=v:=⟨_,rfl⟩
    rw [hv] at EU FK UI
    have MC:=zH (fun w h=>lj RA rn rc WL w h brn)
    rw [EU.o] at MC
    have IV:=zH UI.o
    clear hv
    go_wp2_with fail
    have lw:w7.heap.size≤w9.drew.heap.size:=by have:=BG.o.lt;show w7.heap.size≤w9.heap.size;omega
    have OD:=zH (ON.o.heap (w':=w9.drew) rfl)
    have fd:Below w w w9.drew:=FR.u.drew
    have nu:=zH (show ∀ b,b < w7.heap.size → some b ≠ u.ownBlock from fun b hb e=>absurd (ON.o.lt b e.symm).1 oM)
    refine aJ (fun w'=>w'.cell? ⟨w6.heap.size,3,none⟩=some u∧Below w w w') 6 kM ?_ (fun hS=>?_)
    ·exact ⟨BG.o.drew.cell 3,fd⟩
    refine kT' 0 hS ?_
    refine kT' 1 hS ?_
    refine kT' 2 hS ?_
    refine rT 3 (fun K hK=>?_)
    go_simp
    refine qM (MC.o _ (RS.o.fut (qB _ _).drew)) fun wa hb=>?_;have OA:=zH (OD.o.below hb (lR _) (fun _ h=>h.elim));have za:w7.heap.size≤wa.heap.size:=lT lw hb.size;have XX:=zH (And.intro (BA.o.drew.later hb) (And.intro (BN.o.drew.later hb) (BR.o.drew.later hb)));have YY:=zH (And.intro (BD.o.drew.later hb) (BG.o.drew.later hb));have FA:=zH (ai fd hb fd.size)
    refine xK hK (zR hb hS) fun hS=>?_
    clear hK K
    refine rT 4 (fun K hK=>?_)
    go_simp
    have hb:Below wa wa (wa.alloc (.cells #[.int .i8 v] 37)):=(qB _ _).alloc (lR _) _
    refine xK hK (zR hb hS) fun hS=>?_
    clear hK K
    refine rT 5 (fun K hK=>?_)
    (rw [if_pos (by rfl)];refine cU (W:=wa) (cs:=#[.int .i8 v]) (E:=37) (t:=aa .i8) (.tmp 80) (.tmp 83) rfl dy rfl OA.o 1 rfl v ⟨rfl,IV.o⟩ (by unfold maxLen;omega) oM za (fun _ h=>h.elim) ?_;intro u' wb own7 g7 at7;have B7:=zH (YY.o.2.rowR g7 (nu.out _ oM));refine hK.out _ _ ⟨B7.o.cell 3,FA.o.grown g7 FA.o.size (fun j hj=>lT oM (OA.o.lt j hj).1)⟩ (fun hS=>?_))
    clear hK K
    try simp only [pX]
    refine wpAnyT_tail _ _ rfl rfl kM ?_
    have FZ:=hS.2
    have XA:=zH (XX.o.1.rowR g7 (nu.out _ oM))
    have XN:=zH (XX.o.2.1.rowR g7 (nu.out _ oM))
    have XR:=zH (XX.o.2.2.rowR g7 (nu.out _ oM))
    have XD:=zH (YY.o.1.rowR g7 (nu.out _ oM))
    have NU:=zH (show u'.ownBlock=none ∨ u'.ownBlock ≠ some w6.heap.size by
     cases hu:u'.ownBlock with
     | none=>exact .inl rfl
     | some m=>right;intro e;have:=(own7.lt m hu).1;have:=sI e;omega)
    obtain ⟨A7,c7,rfl,-⟩:=own7.sl (S':=fun _=>True) dM (fun _ _ _=>trivial) (fun _ _=>trivial)
    clear hS hb nu at7
    go_wp2_with (refine wpList_store_one rfl 25 (.tmp 85) (.tmp 84) rfl w6.heap.size 3 (.slice A7 (k+1) c7) rfl rfl rfl rfl _ #[.int .i64 (Ho:Int),.int .i64 (Wo:Int),.int .i64 (C:Int),u] (tN (Ho:Int) (Wo:Int) (C:Int) A7 (k+1) c7) B7.o sM kM rfl ?_;intro w8 B8 g8)
    have F8:=(show Far w wb from ⟨FZ⟩).away g8 oM
    have O8:=own7.flat g8 (by rcases NU.o with e|e;exact .inl e;exact .inr e) (fun _ h=>h)
    have fs:=FS.o
    rw [FK.o] at fs
    rw [fs] at O8
    exact ⟨⟨k+1,by omega,by go_num,F8,XA.o.away g8 (.inl oM),XN.o.away g8 (.inl oM),XR.o.away g8 (.inl oM),XD.o.away g8 (.inl oM),_,B8,O8⟩,by simp [intOf];omega⟩
   ·have EU:=zH (show dG WL=U WL by rw [← HU.o];rfl)
    obtain ⟨v,hv⟩:∃ v,U WL=v:=⟨_,rfl⟩
    rw [hv] at EU FK UI
    have MC:=zH (fun w h=>rt RA rn rc WL w h brn)
    have eM:(if rn=0 then 0 else hiN WL rn)=v:=by rw [← EU.o,oL w8all.out,lrn]
    rw [eM] at MC
    have IV:=zH UI.o
    clear hv eM
    go_wp2_with fail
    refine qM (MC.o _ RS.o) fun wx hb=>?_
    replace ON:=zH (ON.o.below hb (lR _) (fun _ h=>h.elim))
    obtain ⟨FR,BA,BN,BR,BD,BG⟩:=uz6 hb FR BA BN BR BD BG
    clear hb
    have lw:w7.heap.size≤wx.heap.size:=by have:=BG.o.lt;omega
    have nu:=zH (show ∀ b,b < w7.heap.size → some b ≠ u.ownBlock from fun b hb e=>absurd (ON.o.lt b e.symm).1 oM)
    have g3:=BG.o.cell 3
    simp only [gX] at g3
    go_wp2_with (first|(at_builtin;refine wpList_push (W:=wx) (cs:=#[.int .i8 v]) (E:=37) (t:=aa .i8) (S:=fun _=>False) (base:=w7.heap.size) rfl (.tmp 74) (.tmp 76) rfl dy rfl ON.o 1 rfl v ⟨rfl,IV.o⟩ (by unfold maxLen;omega) oM lw (fun _ h=>h.elim) ?_;intro u' wb own7 g7 at7;have B7:=zH (BG.o.rowR g7 (nu.out _ oM));have NU:=zH (show u'.ownBlock=none ∨ u'.ownBlock ≠ some w6.heap.size by (cases hu:u'.ownBlock with|none=>exact .inl rfl|some m=>(right;intro e;have:=(own7.lt m hu).1;have:=sI e;omega)));obtain ⟨A7,c7,rfl,-⟩:=own7.sl (S':=fun _=>True) dM (fun _ _ _=>trivial) (fun _ _=>trivial))|(refine wpList_store_one rfl 25 (.tmp 78) (.tmp 77) rfl w6.heap.size 3 (.slice A7 (k+1) c7) rfl rfl rfl rfl _ #[.int .i64 (Ho:Int),.int .i64 (Wo:Int),.int .i64 (C:Int),u] (tN (Ho:Int) (Wo:Int) (C:Int) A7 (k+1) c7) B7.o sM kM rfl ?_;intro w8 B8 g8))
    have XA:=BA.o.rowR g7 (nu.out _ oM)
    have XN:=BN.o.rowR g7 (nu.out _ oM)
    have XR:=BR.o.rowR g7 (nu.out _ oM)
    have XD:=BD.o.rowR g7 (nu.out _ oM)
    have F7:Far w wb:=⟨FR.u.grown g7 FR.o.size (fun j hj=>lT oM (ON.o.lt j hj).1)⟩
    have F8:=F7.away g8 oM
    have O8:=own7.flat g8 (by rcases NU.o with e|e;exact .inl e;exact .inr e) (fun _ h=>h)
    have fs:=FS.o
    rw [FK.o] at fs
    rw [fs] at O8
    exact ⟨⟨k+1,by omega,by go_num,F8,XA.away g8 (.inl oM),XN.away g8 (.inl oM),XR.away g8 (.inl oM),XD.away g8 (.inl oM),_,B8,O8⟩,by simp [intOf];omega⟩
  ·obtain rfl:k=N:=oM
   obtain ⟨A9,c9,rfl,-⟩:=ON.o.sl (S':=fun _=>True) dM (fun _ _ _=>trivial) (fun _ _=>trivial)
   go_wp2_with (first|(refine lGJ19 BG.o ?_)|(refine sGJ19 (tN (Ho:Int) (Wo:Int) (C:Int) A9 k c9) BR.o ?_;intro w9 B9 g9))
   have e2:=ON.o.flat g9 (by
    cases hu:(Value.slice A9 k c9).ownBlock with
    | none=>exact .inl rfl
    | some m=>right;intro e;have:=(ON.o.lt m hu).1;have:=sI e;omega) (fun _ h=>h)
   refine rG B9 ?_
   have FE:=FR.o.away g9 oM
   obtain ⟨A2,c2,hv,s⟩:=e2.sl (S':=bin w.heap.size _) dM (fun b h1 h2=>⟨by omega,h2⟩) (fun b h=>h.elim)
   injection hv with hv1 hv2 hv3
   subst hv1 hv3
   exact ⟨_,_,_,rfl,s,FE.out⟩
theorem ku (mo:Bool) (t:ae) (A:QA) (n cap:Nat) (d:af) (W:QA) (nw cw:Nat) (B:QA) (nb cb:Nat) (w:World)
  (ha:xA w A n cap t.data) (c1:t.ok=true) :
  Calls prog 29 #[.agg (tN t.h t.v t.c A n cap),.agg (nD d W nw cw B nb cb),.bool mo] w (ar .i8 (a8 (eO mo) t d).1 (a8 (eO mo) t d).2 w):=by
 by_cases c2:(aw t.h t.v t.c d.k d.s d.p t.c).2=0
 ·exact pW mo t A n cap d W nw cw B nb cb w ha c1 c2
 ·have e:a8 (eO mo) t d=(aj,(aw t.h t.v t.c d.k d.s d.p t.c).2):=by unfold a8;rw [if_neg c2]
  rw [e]
  exact pV mo t A n cap d W nw cw B nb cb w ha c1 c2
end Go.Proofs.YtmihnoagagbgaaaGreat
