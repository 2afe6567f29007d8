/-
  Windows as rows (layer 12): patch.Of where all is right.
  A tile of rows multiplied (layer 12: product.part).
-/
import Derived.Test.YtmihnoagagbgaaaGreatJ26
set_option linter.unusedVariables false
set_option linter.unusedSimpArgs false
set_option maxRecDepth 100000
set_option maxHeartbeats 16000000
namespace Go.Proofs.YtmihnoagagbgaaaGreat
open Go.RowKit Go.ChangeShapes Go.WideShapes Fx Tryz
set_option maxRecDepth 100000
set_option maxHeartbeats 16000000
theorem nR (t:ae) (H V C:Nat) (A:QA) (n cap:Nat) (d:af) (W:QA) (nw cw:Nat) (B:QA) (nb cb:Nat) (Ho Wo Co K S P M WD N:Nat) (w:World)
  (ha:xA w A n cap t.data) (TK:TOk t n H V C) (WK:WOk d H V C K S P Ho Wo Co) (hz:InK .i8 d.za) (hs:aw H V C d.k d.s d.p 1=(((Ho:Int),(Wo:Int),1),0)) (hM:Ho*Wo=M) (hWD:K*K*C=WD) (hN:M*WD=N) :
  Calls prog 155 #[.agg (tN H V C A n cap),.agg (nD d W nw cw B nb cb)] w fun e w'=>∃ Q c,e=.returned (.tuple #[.agg #[.int .i64 M,.int .i64 WD,.slice Q N c],.int .i64 0])∧Sl (aa .i16) w' (bin w w') Q N c ((List.range N).map (cX H V C t.data d.za K S P Wo))∧Below w w w':=by
 have HA:=zH ha
 have TK:=zH TK
 have WK:=zH WK
 have hMb:M≤256:=by rw [← hM];exact Nat.mul_le_mul WK.o.ho1.2 WK.o.wo1.2
 have hWb:WD≤25600:=by rw [← hWD];exact Nat.mul_le_mul (Nat.mul_le_mul WK.o.k1.2 WK.o.k1.2) TK.o.c1.2
 have hNb:N≤256*25600:=by rw [← hN];exact Nat.mul_le_mul hMb hWb
 have hNi:(M:Int)*(WD:Int)=(N:Int):=by rw [← hN];simp
 have c1':decide (0 < ab (H:Int) (V:Int) (C:Int)∧ab (H:Int) (V:Int) (C:Int)=n)=true:=by
  have e:=dw TK.o
  have e2:ab (H:Int) (V:Int) (C:Int)=(n:Int):=by
   rw [bI,if_pos]
   ·rw [TK.o.n_eq,Int.natCast_mul,Int.natCast_mul]
   ·have:=TK.o.h1;have:=TK.o.v1;have:=TK.o.c1;have h7:=TK.o.n_le;rw [TK.o.n_eq] at h7
    exact ⟨by omega,by omega,by omega,by omega,by omega,by omega,by rw [← Int.natCast_mul,← Int.natCast_mul];omega⟩
  simp only [decide_eq_true_eq] at e ⊢
  exact ⟨e,e2⟩
 have RI:=zH (fun w=>av (H:Int) (V:Int) (C:Int) A n cap w (by have:=TK.o.h1;rw [ah];omega) (by have:=TK.o.v1;rw [ah];omega) (by have:=TK.o.c1;rw [ah];omega) (lT ha.cap_le ha.max_le))
 rw [c1'] at RI
 have OV:=zH (fun w=>sD H V C d W nw cw B nb cb Ho Wo w TK.o.h1.2 TK.o.v1.2 TK.o.c1.2 hs)
 have WI:=zH (fun w=>mX H V C d W nw cw B nb cb Ho Wo 1 K w WK.o.k WK.o.k1.2 TK.o.c1.2)
 rw [hWD] at WI
 have EL:=zH (fun w=>bQ (Ho:Int) (1:Int) (Wo:Int) w (by have:=WK.o.ho1;rw [ah];omega) (by have:=WK.o.wo1;rw [ah];omega) (by rw [ah];omega))
 have hel:ab (Ho:Int) (Wo:Int) (1:Int)=(M:Int):=by
  have:=WK.o.ho1
  have:=WK.o.wo1
  rw [bI,if_pos ⟨by omega,by omega,by omega,by omega,by omega,by omega,by rw [Int.mul_one,← Int.natCast_mul,hM];omega⟩,Int.mul_one,← Int.natCast_mul,hM]
 rw [hel] at EL
 have HZ:=zH hz
 have EQ3:=zH (And.intro hM (And.intro hWD hN))
 have FR:=zW w
 obtain ⟨w1,w2,w3,yw1,yw2,yw3,l1,l2,l3,BA,BN,BR,yk3⟩:=bk3 w (tN H V C A n cap) 27 (nD d W nw cw B nb cb) 42 #[.int .i64 0,.int .i64 0,.slice none 0 0] 197
 replace FR:=zF yk3 FR
 clear yk3
 clear ha hz hs hel c1' hM hWD hN
 go_in
 go_wp2_with (first|(refine lGJ19 BA.o ?_)|(go_at_call 11;refine qM (RI.o _) fun w4 hb=>?_;have l4:=hb.size;obtain ⟨FR,BA,BN,BR⟩:=uz4 hb FR BA BN BR;clear hb yw1 yw2 yw3)|(refine lQJ 24 (sN H V C) BA.o ?_)|(refine lGJ19 BN.o ?_))
 refine qM (OV.o _) fun w5 hb=>?_
 have l5:=hb.size
 obtain ⟨FR,BA,BN,BR⟩:=uz4 hb FR BA BN BR
 clear hb
 obtain ⟨w5a,yw5⟩:∃ x,w5.alloc (.cells #[.int .i64 0,.int .i64 0,.int .i64 0,.int .i64 0,.int .i64 0,.int .i64 0,.int .i64 0,.int .i64 0,.int .i64 0,.int .i64 0,.int .i8 0,.int .i8 0,.slice none 0 0,.slice none 0 0,.int .i32 0,.int .i64 0,.int .i8 0,.int .i32 0,.int .i64 0,.int .i8 0,.int .i8 0,.int .i8 0,.int .i64 0,.int .i64 0,.int .i64 0] 219)=x:=⟨_,rfl⟩
 have hb:Below w5 w5 w5a:=by rw [← yw5];exact (qB _ _).alloc (lR _) _
 have BS:=zH (show Blk w5a w5.heap.size 219 #[.int .i64 0,.int .i64 0,.int .i64 0,.int .i64 0,.int .i64 0,.int .i64 0,.int .i64 0,.int .i64 0,.int .i64 0,.int .i64 0,.int .i8 0,.int .i8 0,.slice none 0 0,.slice none 0 0,.int .i32 0,.int .i64 0,.int .i8 0,.int .i32 0,.int .i64 0,.int .i8 0,.int .i8 0,.int .i8 0,.int .i64 0,.int .i64 0,.int .i64 0] by rw [← yw5];exact Blk.now _ _ _ _ rfl)
 obtain ⟨FR,BA,BN,BR⟩:=uz4 hb FR BA BN BR
 clear hb
 go_wp2_with (refine sGJ19 #[.int .i64 H,.int .i64 V,.int .i64 C,.int .i64 d.kind,.int .i64 d.a,.int .i64 d.b,.int .i64 d.k,.int .i64 d.s,.int .i64 d.p,.int .i64 d.out,.int .i8 d.za,.int .i8 d.zb,.slice W nw cw,.slice B nb cb,.int .i32 d.qm,.int .i64 d.qs,.int .i8 d.qz,.int .i32 d.rm,.int .i64 d.rs,.int .i8 d.rz,.int .i8 d.lo,.int .i8 d.hi,.int .i64 Ho,.int .i64 Wo,.int .i64 1] BS.o ?_;intro w6 B6 g6)
 replace FR:=zA g6 FR
 replace BA:=zA g6 BA
 replace BN:=zA g6 BN
 replace BR:=zA g6 BR
 replace BS:=zH B6
 have l56:w5.heap.size < w6.heap.size:=B6.lt
 clear yw5 B6 g6
 go_cut [8] (fun b wx=>∃ g,b=.pointer (some ⟨g,0,none⟩)∧Blk wx g 197 #[.int .i64 M,.int .i64 WD,.slice none 0 0]∧w6.heap.size≤g∧Below w6 w6 wx)
 case first =>
  refine wp_region_held_drew (S:=fun w'=>Blk w' w5.heap.size 219 #[.int .i64 H,.int .i64 V,.int .i64 C,.int .i64 d.kind,.int .i64 d.a,.int .i64 d.b,.int .i64 d.k,.int .i64 d.s,.int .i64 d.p,.int .i64 d.out,.int .i8 d.za,.int .i8 d.zb,.slice W nw cw,.slice B nb cb,.int .i32 d.qm,.int .i64 d.qs,.int .i8 d.qz,.int .i32 d.rm,.int .i64 d.rs,.int .i8 d.rz,.int .i8 d.lo,.int .i8 d.hi,.int .i64 Ho,.int .i64 Wo,.int .i64 1]∧Below w6 w6 w') kM ?_ (fun hS=>?_)
  ·exact ⟨BS.o.drew,(qB _ _).drew⟩
  refine kH' 0 hS ?_
  refine tkH 1 rfl (yP (sN Ho Wo 1) (fun w hs=>hs.1)) hS ?_
  try simp only [pX]
  refine tkH 3 rfl (yB 219 (.tmp 6) w5 (fun w hs=>hs.1) underlying219) hS ?_
  try simp only [pX]
  refine wpAnyH_ready (rs:=[2,6]) kM sM ?_
  refine AllReadyH.cons rfl (fun K hK=>?_) (AllReadyH.cons rfl (fun K hK=>?_) AllReadyH.nil)
  ·go_simp
   refine qM (EL.o _) fun wa hb=>?_
   refine xK hK (zR hb hS) fun hS=>?_
   clear hK K
   refine wpAnyH_ready (rs:=[4,6]) kM sM ?_
   refine AllReadyH.cons rfl (fun K hK=>?_) (AllReadyH.cons rfl (fun K hK=>?_) AllReadyH.nil)
   ·go_simp
    refine qM (WI.o _) fun wb hb=>?_
    refine xK hK (zR hb hS) fun hS=>?_
    clear hK K
    refine kH' 5 hS ?_
    refine rH 6 rfl (fun K hK=>?_)
    go_simp
    have zg:w6.heap.size≤wb.heap.size:=hS.2.size
    obtain ⟨hb,BZ⟩:=zB wb #[.int .i64 0,.int .i64 0,.slice none 0 0] 197
    refine xK hK (zR hb hS) fun hS=>?_
    clear hK K
    refine rH 7 rfl (fun K hK=>?_)
    rw [if_pos (by rfl)]
    refine oG #[.int .i64 M,.int .i64 WD,.slice none 0 0] BZ.o ?_
    intro wc BX gc
    refine hK.out _ _ ⟨hS.1.away gc (by have:=l56;have:=zg;simp only [World.size_drew] at *;omega),hS.2.grown gc hS.2.size (fun k h=>by have:=sI h;have:=zg;simp only [World.size_drew] at *;omega)⟩ (fun hS=>?_)
    clear hK K
    try simp only [pX]
    refine wpAnyH_done kM ?_ _
    have FZ:=hS.2
    go_wp2_with fail
    go_meet
    case rel=>exact ⟨_,rfl,BX,zg,FZ⟩
   ·go_simp
    have zg:w6.heap.size≤wa.heap.size:=hS.2.size
    obtain ⟨hb,BZ⟩:=zB wa #[.int .i64 0,.int .i64 0,.slice none 0 0] 197
    refine xK hK (zR hb hS) fun hS=>?_
    clear hK K
    refine rH 4 rfl (fun K hK=>?_)
    go_simp
    refine qM (WI.o _) fun wb hb=>?_
    replace BZ:=zH (BZ.o.later hb)
    refine xK hK (zR hb hS) fun hS=>?_
    clear hK K
    refine kH' 5 hS ?_
    refine rH 7 rfl (fun K hK=>?_)
    rw [if_pos (by rfl)]
    refine oG #[.int .i64 M,.int .i64 WD,.slice none 0 0] BZ.o ?_
    intro wc BX gc
    refine hK.out _ _ ⟨hS.1.away gc (by have:=l56;have:=zg;simp only [World.size_drew] at *;omega),hS.2.grown gc hS.2.size (fun k h=>by have:=sI h;have:=zg;simp only [World.size_drew] at *;omega)⟩ (fun hS=>?_)
    clear hK K
    try simp only [pX]
    refine wpAnyH_done kM ?_ _
    have FZ:=hS.2
    go_wp2_with fail
    go_meet
    case rel=>exact ⟨_,rfl,BX,zg,FZ⟩
  ·go_simp
   have zg:w6.heap.size≤w6.heap.size:=hS.2.size
   have hb:Below w6.drew.heap.size w6.drew (w6.drew.alloc (.cells #[.int .i64 0,.int .i64 0,.slice none 0 0] 197)):=(qB _ _).alloc (lR _) _
   have BZ:=zH (Blk.now w6.drew w6.heap.size 197 #[.int .i64 0,.int .i64 0,.slice none 0 0] rfl)
   refine xK hK (zR hb hS) fun hS=>?_
   clear hK K
   refine rH 2 rfl (fun K hK=>?_)
   go_simp
   refine qM (EL.o _) fun wa hb=>?_
   replace BZ:=zH (BZ.o.later hb)
   refine xK hK (zR hb hS) fun hS=>?_
   clear hK K
   refine rH 4 rfl (fun K hK=>?_)
   go_simp
   refine qM (WI.o _) fun wb hb=>?_
   replace BZ:=zH (BZ.o.later hb)
   refine xK hK (zR hb hS) fun hS=>?_
   clear hK K
   refine kH' 5 hS ?_
   refine rH 7 rfl (fun K hK=>?_)
   rw [if_pos (by rfl)]
   refine oG #[.int .i64 M,.int .i64 WD,.slice none 0 0] BZ.o ?_
   intro wc BX gc
   refine hK.out _ _ ⟨hS.1.away gc (by have:=l56;have:=zg;simp only [World.size_drew] at *;omega),hS.2.grown gc hS.2.size (fun k h=>by have:=sI h;have:=zg;simp only [World.size_drew] at *;omega)⟩ (fun hS=>?_)
   clear hK K
   try simp only [pX]
   refine wpAnyH_done kM ?_ _
   have FZ:=hS.2
   go_wp2_with fail
   go_meet
   case rel=>exact ⟨_,rfl,BX,zg,FZ⟩
 case rest =>
  obtain ⟨g,rfl,bg,zg,b4⟩:=hcut
  obtain ⟨w7,rfl⟩:∃ x,x=wc:=⟨_,rfl⟩
  have BG:=zH bg
  clear bg
  have lg7:=BG.o.lt
  obtain ⟨FR,BA,BN,BR,BS⟩:=uz5 b4 FR BA BN BR BS
  clear b4
  obtain ⟨r0,r1⟩:=uc2 BG 0 1
  have e1:IntKind.i64.wrap ((M:Int)*(WD:Int))=(N:Int):=by rw [hNi];exact wJ
  have BG7:=zH BG.o
  have NB:=zH (show w.heap.size < w1.heap.size∧w1.heap.size < w2.heap.size∧w2.heap.size < w7.heap.size∧w5.heap.size < w7.heap.size∧g < w7.heap.size∧w2.heap.size < g by refine ⟨?_,?_,?_,?_,?_,?_⟩ <;> omega)
  go_wp2_with (first|(at_make;refine wpList_make (t:=aa .i16) (S:=fun _=>False) (base:=w7.heap.size) rfl _ _ rfl jm .i64 .i64 _ _ N rfl rfl rfl rfl ?_ ?_ ?_ 0 ⟨rfl,by decide⟩ (fun _ h=>h.elim) ?_;rotate_right;intro w8 hown hg;have kb:Below w7 w7 w8:=(qB _ _).grown hg (lR _) sM;have ON:=zH hown;obtain ⟨FR,BA,BN,BR,BS,BG⟩:=uz6 kb FR BA BN BR BS BG;clear hown hg kb r0 r1)|(refine wpList_store_one rfl 195 (.tmp 36) (.tmp 35) rfl g 2 (.slice (some ⟨w7.heap.size,0,none⟩) N N) rfl rfl rfl rfl _ #[.int .i64 M,.int .i64 WD,.slice none 0 0] #[.int .i64 M,.int .i64 WD,.slice (some ⟨w7.heap.size,0,none⟩) N N] BG.o sM kM rfl ?_;intro w9 B9 g9;have BS9:=zH (BS.o.away g9 (by have:=NB.o;omega)))|(refine lGJ19 BS9.o ?_))
  rotate_left
  ·omega
  ·unfold maxLen;omega
  ·omega
  obtain ⟨nb1,nb2,nb3,nb4,nb5,nb6⟩:=NB.o
  have O9:=zH (ON.o.flat g9 (.inr (by simp [Value.ownBlock];omega)) (fun _ h=>h))
  replace FR:=zA g9 FR
  replace BA:=zA g9 BA
  replace BN:=zA g9 BN
  replace BR:=zA g9 BR
  refine (rY H V C A n cap t.data d W nw cw B nb cb Ho Wo K S P w.heap.size w1.heap.size g w7.heap.size N w.heap.size w7.heap.size M WD (M:Int) (WD:Int) w9 ((Old.now HA.o).fut FR.u).out oM TK.o.n_eq TK.o.n_le HZ.o WK.o.k WK.o.s WK.o.p WK.o.k1 WK.o.s1.2 WK.o.p1.1 TK.o.h1 TK.o.v1 TK.o.c1 (dw TK.o) WK.o.ho1 WK.o.wo1 EQ3.o.1 EQ3.o.2.1 EQ3.o.2.2 BA.o BN.o B9 oM oM oM O9.o).mono ?_
  rintro e w10 ⟨rfl,own10,g10⟩
  have B10:=zH (B9.rowR g10 (fun e=>by have:=sI e;omega))
  have R10:=zH (BR.o.rowR g10 (fun e=>by have:=sI e;omega))
  have F10:=zA g10 FR
  have O10:=zH own10
  clear own10 g10 B9 g9 O9 ON
  go_wp2_with (first|(refine lB 197 (.tmp 8) g B10.o underlying197 ?_)|(refine sGJ19 #[.int .i64 M,.int .i64 WD,.slice (some ⟨w7.heap.size,0,none⟩) N N] R10.o ?_;intro w11 B11 g11))
  have e2:=O10.o.flat g11 (.inr (by simp [Value.ownBlock];omega)) (fun _ h=>h)
  refine ret_cell_tmp rfl B11 rfl underlying197 (by show _=some 3;kernel_rfl) rfl ?_
  obtain ⟨A2,c2,hv,s⟩:=e2.sl (S':=bin w.heap.size _) dM (fun b h1 h2=>⟨by omega,h2⟩) (fun b h=>h.elim)
  injection hv with hv1 hv2 hv3
  subst hv1 hv3
  exact ⟨_,_,rfl,s,(F10.o.away g11 oM).out⟩
def pp (la lb:List Int) (M C i k:Nat):Int:=la.getD (i / C*M+k) 0*lb.getD (i % C*M+k) 0
def fu (la lb:List Int) (M C i t:Nat):Int:=wrap32 (az t (pp la lb M C i))
def dW (la lb:List Int) (M C N:Nat) (t:Nat → Nat):List Int:=(List.range N).map fun i=>fu la lb M C i (t i)
theorem gK {la lb:List Int} {M C N:Nat} {t u:Nat → Nat} (h:∀ i,i < N → t i=u i):dW la lb M C N t=dW la lb M C N u:=by
 unfold dW
 apply List.map_congr_left
 intro i hi
 rw [h i (List.mem_range.1 hi)]
theorem tg (la lb:List Int) (M C N:Nat) (t:Nat → Nat) (i:Nat) (h:i < N):(dW la lb M C N t)[i]?=some (fu la lb M C i (t i)):=by
 unfold dW
 rw [List.getElem?_map,List.getElem?_range h]
 rfl
theorem r9 (la lb:List Int) (M C N:Nat) (t:Nat → Nat) (j m:Nat):(dW la lb M C N t).set j (fu la lb M C j m)=dW la lb M C N (fun i=>if i=j then m else t i):=by
 unfold dW
 apply List.ext_getElem sM
 intro i h1 h2
 rw [List.getElem_set]
 simp only [List.getElem_map,List.getElem_range]
 by_cases e:j=i
 ·subst e;rw [if_pos rfl,if_pos rfl]
 ·rw [if_neg e,if_neg (fun h=>e h.symm)]
theorem qN (la lb:List Int) (M C N:Nat):dW la lb M C N (fun _=>0)=List.replicate N 0:=by
 unfold dW
 apply List.ext_getElem sM
 intro i h1 h2
 simp only [List.getElem_map,List.getElem_range,List.getElem_replicate]
 show wrap32 0=0
 unfold wrap32;decide
def dp (C r0 c0 c1 m1 r c:Nat) (t:Nat → Nat) (i:Nat):Nat:=if r0≤i / C∧c0≤i % C∧i % C < c1∧(i / C < r ∨ (i / C=r∧i % C < c)) then m1 else t i
theorem pK (C r0 c0 c1 m1:Nat) (t:Nat → Nat):dp C r0 c0 c1 m1 r0 c0 t=t:=by
 funext i
 unfold dp
 rw [if_neg oM]
theorem rh (C r0 c0 c1 m1 r:Nat) (t:Nat → Nat):dp C r0 c0 c1 m1 r c1 t=dp C r0 c0 c1 m1 (r+1) c0 t:=by
 funext i
 unfold dp
 by_cases h:r0≤i / C∧c0≤i % C∧i % C < c1∧(i / C < r ∨ (i / C=r∧i % C < c1))
 ·rw [if_pos h,if_pos oM]
 ·rw [if_neg h,if_neg oM]
theorem pJ (C r0 c0 c1 m1 r c:Nat) (t:Nat → Nat) (hr:r0≤r) (hc:c0≤c) (h1:c < c1) (hC:c1≤C):(fun i=>if i=r*C+c then m1 else dp C r0 c0 c1 m1 r c t i)=dp C r0 c0 c1 m1 r (c+1) t:=by
 funext i
 have dv:(r*C+c) / C=r:=by rw [Nat.mul_comm,Nat.mul_add_div oM,Nat.div_eq_of_lt oM,Nat.add_zero]
 have md:(r*C+c) % C=c:=by rw [Nat.mul_comm,Nat.mul_add_mod,Nat.mod_eq_of_lt oM]
 have key:i=r*C+c ↔ i / C=r∧i % C=c:=by
  constructor
  ·intro h;subst h;exact ⟨dv,md⟩
  ·rintro ⟨h,h'⟩
   have:=Nat.div_add_mod i C
   rw [h,h',Nat.mul_comm] at this
   exact this.symm
 unfold dp
 by_cases h:i=r*C+c
 ·have h2:=key.1 h
  rw [if_pos h,if_pos oM]
 ·have h2:¬ (i / C=r∧i % C=c):=fun e=>h (key.2 e)
  rw [if_neg h]
  by_cases h3:r0≤i / C∧c0≤i % C∧i % C < c1∧(i / C < r ∨ (i / C=r∧i % C < c))
  ·rw [if_pos h3,if_pos oM]
  ·rw [if_neg h3,if_neg oM]
theorem lZ (l:List Int) (p n k:Nat) (h:k < n):((l.drop p).take n).getD k 0=l.getD (p+k) 0:=by
 rw [gD,List.getElem?_take,if_pos h,List.getElem?_drop,← gD]
theorem qO (la lb:List Int) (M C r c m0 D:Nat) (hc:c < C) :
  wrap32 (fu la lb M C (r*C+c) m0+wrap32 (fP ((la.drop (r*M+m0)).take D) ((lb.drop (c*M+m0)).take D) D))=fu la lb M C (r*C+c) (m0+D):=by
 have dv:(r*C+c) / C=r:=by rw [Nat.mul_comm,Nat.mul_add_div oM,Nat.div_eq_of_lt hc,Nat.add_zero]
 have md:(r*C+c) % C=c:=by rw [Nat.mul_comm,Nat.mul_add_mod,Nat.mod_eq_of_lt hc]
 have e:fP ((la.drop (r*M+m0)).take D) ((lb.drop (c*M+m0)).take D) D=az D (fun k=>pp la lb M C (r*C+c) (m0+k)):=by
  unfold fP
  refine dg fun k hk=>?_
  unfold pp
  rw [lZ _ _ _ _ hk,lZ _ _ _ _ hk,dv,md,Nat.add_assoc,Nat.add_assoc]
 rw [e]
 unfold fu
 rw [iU,eT,fm]
theorem sH (gp q m base R M C N r0 c0 m0 r1 c1 m1:Nat) (A:QA) (na ca:Nat) (la:List Int) (B:QA) (nb cb:Nat) (lb:List Int) (t:Nat → Nat) (w:World)
  (ha:Sl (aa .i16) w (blo m) A na ca la) (hb:Sl (aa .i8) w (blo m) B nb cb lb) (hm:m≤base) (hna:na=R*M) (hnb:nb=C*M) (hN:R*C=N) (hr:r0≤r1∧r1≤R) (hc:c0≤c1∧c1≤C) (hmm:m0 < m1∧m1≤M) (bR:R≤16384) (bC:C≤16384) (bM:M≤16384)
  (bp:Blk w gp 228 #[.slice A na ca,.slice B nb cb,.int .i64 M,.int .i64 C,.slice (some ⟨q,0,none⟩) N N]) (hpq:gp ≠ q)
  (hown:Own (aa .i32) w (fun _=>False) base 21 (.slice (some ⟨q,0,none⟩) N N) N (dW la lb M C N t)) (ht:∀ i,i < N → r0≤i / C → i / C < r1 → c0≤i % C → i % C < c1 → t i=m0) :
  Calls prog 177 #[.pointer (some ⟨gp,0,none⟩),.agg (sN r0 c0 m0),.agg (sN r1 c1 m1)] w
   fun e w'=>e=.returned (.tuple #[])∧Own (aa .i32) w' (fun _=>False) base 21 (.slice (some ⟨q,0,none⟩) N N) N (dW la lb M C N (dp C r0 c0 c1 m1 r1 c0 t))∧w.grownBy w' (some q):=by
 have HA:=zH ha
 have HB:=zH hb
 have hq:=hown.lt _ rfl
 have NA:=zH hna
 have NB:=zH hnb
 have NN:=zH hN
 have HT:=zH ht
 have hmx:=ha.max_le
 have hmx2:=hb.max_le
 rw [← pK C r0 c0 c1 m1 t] at hown
 obtain ⟨w1,yw1,BF,yk1⟩:=nB w (sN r0 c0 m0) 88
 have GR:=zH (cL (r:=some q) yk1)
 have ON:=zH (hown.below yk1 (lR _) (fun _ h=>h.elim))
 have BP:=zH (bp.fut yk1)
 have QB:=zH (show q < w.heap.size from hq.2)
 have S1:w1.heap.size=w.heap.size+1:=by rw [← yw1];simp
 obtain ⟨w2,yw2,BT,yk2⟩:=nB w1 (sN r1 c1 m1) 88
 replace BF:=zF yk2 BF
 replace GR:=zH (cJ GR.o (cL yk2))
 replace ON:=zH (ON.o.below yk2 (lR _) (fun _ h=>h.elim))
 replace BP:=zF yk2 BP
 have QT:=zH (show w1.heap.size ≠ q by have:=QB.o;omega)
 have PQ:=zH hpq
 have QM:=zH (show m≤q from lT hm hq.1)
 have LA:=zH (show m≤w.heap.size from lT hm (lT hq.1 (Nat.le_of_lt hq.2)))
 have bn:N≤16384*16384:=by rw [← hN];exact Nat.mul_le_mul bR bC
 clear ha hb hown bp hq yk1 yk2 hN hna hnb ht S1
 go_in
 have x0:=BF.o.cell 0
 simp only [gX] at x0
 go_wp2_with fail
 clear yw1 yw2 x0
 go_loopw [6] (fun ii wr=>∃ r:Nat,r0≤r∧r≤r1∧ii=.int .i64 r∧w.grownBy wr (some q)∧Blk wr w.heap.size 88 (sN r0 c0 m0)∧Blk wr w1.heap.size 88 (sN r1 c1 m1)∧Blk wr gp 228 #[.slice A na ca,.slice B nb cb,.int .i64 M,.int .i64 C,.slice (some ⟨q,0,none⟩) N N]∧Own (aa .i32) wr (fun _=>False) base 21 (.slice (some ⟨q,0,none⟩) N N) N (dW la lb M C N (dp C r0 c0 c1 m1 r c0 t))) (fun ii _=>r1 - (intOf ii).toNat)
 case atStart=>exact ⟨r0,lR _,hr.1,rfl,GR.o,BF.o,BT.o,BP.o,ON.o⟩
 case round =>
  obtain ⟨r,hr0,hr1,rfl,f0,f1,f2,f3,f4⟩:=hrel
  clear GR BF BT BP ON
  have GR:=zH f0
  have BF:=zH f1
  have BT:=zH f2
  have BP:=zH f3
  have ON:=zH f4
  clear f0 f1 f2 f3 f4
  have y0:=BT.o.cell 0
  simp only [gX] at y0
  by_cases hlt:r < r1
  ·have p1:(r:Int) < (r1:Int):=oM
   obtain ⟨rm,hrm⟩:∃ x,r*M=x:=⟨_,rfl⟩
   have rmi:(r:Int)*(M:Int)=(rm:Int):=by rw [← hrm];simp
   have rmb:rm≤16384*16384:=by rw [← hrm];exact Nat.mul_le_mul oM bM
   have rml:rm+M≤na:=by rw [NA.o,← hrm,← Nat.succ_mul];exact Nat.mul_le_mul_right _ oM
   have e1:IntKind.i64.wrap ((r:Int)*(M:Int))=(rm:Int):=by rw [rmi];exact wJ
   obtain ⟨D,hD⟩:∃ D,m1=m0+D:=⟨m1 - m0,by omega⟩
   obtain ⟨lo,hlo⟩:∃ x,rm+m0=x:=⟨_,rfl⟩
   have e2:IntKind.i64.wrap ((rm:Int)+(m0:Int))=(lo:Int):=(wJ).trans oM
   obtain ⟨hi,hhi⟩:∃ x,lo+D=x:=⟨_,rfl⟩
   have e3:IntKind.i64.wrap ((rm:Int)+(m1:Int))=(hi:Int):=(wJ).trans oM
   obtain ⟨ba,oa,hAe,-,-,-,-⟩:=HA.o.int_at 0 oM
   subst hAe
   have HLO:=zH (show r*M+m0=lo by rw [hrm,hlo])
   have hlen:=HA.o.cap_le
   have lo1:hi≤na:=oM
   have lo2:hi≤ca:=oM
   have lo3:lo≤hi:=oM
   have lo4:hi - lo=D:=oM
   have lo5:¬ ca=lo:=oM
   have HD:=zH hD
   have HHI:=zH hhi
   have x2:=BF.o.cell 2
   have y2:=BT.o.cell 2
   obtain ⟨s0,s2⟩:=uc2 BP 0 2
   simp only [gX] at x2 y2 s0 s2
   clear hrm hlo rmi hD hhi
   go_wp2_with fail
   go_quiet (fail)
   have k_q:=am (qB wr.heap.size wr) nq
   replace GR:=zH (cJ GR.o (cL k_q))
   obtain ⟨BF,BT,BP⟩:=uz3 k_q BF BT BP
   replace ON:=zH (ON.o.below k_q (lR _) (fun _ h=>h.elim))
   clear x2 y2 s0 s2 k_q e1 e2 e3
   generalize wr.drewN nq=wv at *
   have x1:=BF.o.cell 1
   simp only [gX] at x1
   clear y0
   go_wp2_with fail
   clear x1
   go_loopw [8] (fun ii wr=>∃ c:Nat,c0≤c∧c≤c1∧ii=.int .i64 c∧w.grownBy wr (some q)∧Blk wr w.heap.size 88 (sN r0 c0 m0)∧Blk wr w1.heap.size 88 (sN r1 c1 m1)∧Blk wr gp 228 #[.slice (some ⟨ba,oa,none⟩) na ca,.slice B nb cb,.int .i64 M,.int .i64 C,.slice (some ⟨q,0,none⟩) N N]∧Own (aa .i32) wr (fun _=>False) base 21 (.slice (some ⟨q,0,none⟩) N N) N (dW la lb M C N (dp C r0 c0 c1 m1 r c t))) (fun ii _=>c1 - (intOf ii).toNat)
   case atStart=>exact ⟨c0,lR _,hc.1,rfl,GR.o,BF.o,BT.o,BP.o,ON.o⟩
   case round =>
    obtain ⟨c,hc0,hc1,rfl,f0,f1,f2,f3,f4⟩:=hrel
    clear GR BF BT BP ON
    have GR:=zH f0
    have BF:=zH f1
    have BT:=zH f2
    have BP:=zH f3
    have ON:=zH f4
    clear f0 f1 f2 f3 f4
    have y1:=BT.o.cell 1
    simp only [gX] at y1
    by_cases hlc:c < c1
    ·have p2:(c:Int) < (c1:Int):=oM
     obtain ⟨cm,hcm⟩:∃ x,c*M=x:=⟨_,rfl⟩
     have cmi:(c:Int)*(M:Int)=(cm:Int):=by rw [← hcm];simp
     have cmb:cm≤16384*16384:=by rw [← hcm];exact Nat.mul_le_mul oM bM
     have cml:cm+M≤nb:=by rw [NB.o,← hcm,← Nat.succ_mul];exact Nat.mul_le_mul_right _ oM
     have f1:IntKind.i64.wrap ((c:Int)*(M:Int))=(cm:Int):=by rw [cmi];exact wJ
     obtain ⟨ob,hob⟩:∃ x,cm+m0=x:=⟨_,rfl⟩
     have f2:IntKind.i64.wrap ((cm:Int)+(m0:Int))=(ob:Int):=(wJ).trans oM
     obtain ⟨pb,hpb⟩:∃ x,ob+D=x:=⟨_,rfl⟩
     have hD:=HD.o
     have f3:IntKind.i64.wrap ((cm:Int)+(m1:Int))=(pb:Int):=(wJ).trans oM
     obtain ⟨bz,oz,hBe,-,-,-,-⟩:=HB.o.int_at 0 oM
     subst hBe
     have HOB:=zH (show c*M+m0=ob by rw [hcm,hob])
     have hlen:=HB.o.cap_le
     have ob1:pb≤nb:=oM
     have ob2:pb≤cb:=oM
     have ob3:ob≤pb:=oM
     have ob4:pb - ob=D:=oM
     have ob5:¬ cb=ob:=oM
     obtain ⟨rc,hrc⟩:∃ x,r*C=x:=⟨_,rfl⟩
     have rci:(r:Int)*(C:Int)=(rc:Int):=by rw [← hrc];simp
     have rcl:rc+C≤N:=by rw [← NN.o,← hrc,← Nat.succ_mul];exact Nat.mul_le_mul_right _ oM
     have f4:IntKind.i64.wrap ((r:Int)*(C:Int))=(rc:Int):=by rw [rci];exact wJ
     obtain ⟨ix,hix⟩:∃ x,rc+c=x:=⟨_,rfl⟩
     have f5:IntKind.i64.wrap ((rc:Int)+(c:Int))=(ix:Int):=(wJ).trans oM
     have ixl:ix < N:=oM
     have HIX:=zH (show r*C+c=ix by rw [hrc,hix])
     have hti:dp C r0 c0 c1 m1 r c t ix=m0:=by
      have dv:ix / C=r:=by rw [← HIX.o,Nat.mul_comm,Nat.mul_add_div oM,Nat.div_eq_of_lt oM,Nat.add_zero]
      have md:ix % C=c:=by rw [← HIX.o,Nat.mul_comm,Nat.mul_add_mod,Nat.mod_eq_of_lt oM]
      unfold dp
      rw [dv,md,if_neg oM]
      exact HT.o ix ixl oM oM oM oM
     obtain ⟨x0,u0,hx0,hu0,c5,c6,c7,-⟩:=ON.o.cell rfl ix ixl
     rw [tg _ _ _ _ _ _ _ ixl,hti] at hx0
     obtain ⟨hu1,hu2⟩:=hu0
     simp only [List.cons.injEq,and_true] at hu1
     subst hu1
     have hx1:=sI hx0
     rw [bE] at hu2
     obtain ⟨S1,hS1⟩:∃ x,fP ((la.drop lo).take D) ((lb.drop ob).take D) D=x:=⟨_,rfl⟩
     obtain ⟨S2,hS2⟩:∃ x,wrap32 S1=x:=⟨_,rfl⟩
     obtain ⟨res,hres⟩:∃ x,wrap32 (x0+S2)=x:=⟨_,rfl⟩
     have FR:=zH (show fu la lb M C ix m1=res by
      rw [HD.o,← hres,← hS2,← hS1,← hx1,← HIX.o,← HLO.o,← HOB.o]
      exact (qO la lb M C r c m0 D oM).symm)
     have FS:=zH (r9 la lb M C N (dp C r0 c0 c1 m1 r c t) ix m1)
     have FT:=zH (pJ C r0 c0 c1 m1 r c t hr0 hc0 hlc hc.2)
     have RE:=zH (show InK .i32 res by rw [bE,← hres];exact cV _)
     have e6:IntKind.i32.wrap (x0+S2)=res:=by rw [IntKind.wrap_i32,← hres];unfold wrap32;rfl
     have OA:Sl (aa .i16) wr (blo wr) (some ⟨ba,oa,none⟩) na ca la:=(HA.o.away GR.o QM.o LA.o).more (fun b hb=>by have:=LA.o;have:=GR.o.size;unfold blo at *;omega)
     have OB:xA wr (some ⟨bz,oz,none⟩) nb cb lb:=(HB.o.away GR.o QM.o LA.o).more (fun b hb=>by have:=LA.o;have:=GR.o.size;unfold blo at *;omega)
     have SA:=OA.sub lo D lo (ca - lo) (by simp [aa]) oM oM oM
     have SB:=OB.sub ob D ob (cb - ob) (by simp [aa]) oM oM oM
     have DOT:=zH (fun wq (h:Below wr.drew.heap.size wr.drew wq)=>td _ _ D _ _ _ _ wq ((Old.now SA).fut (((qB _ _).drew).trans h)).all ((Old.now SB).fut (((qB _ _).drew).trans h)).all oM)
     rw [hS1,hS2] at DOT
     clear hcm cmi hob hpb hD hrc rci hix hti hx0 hx1 hS1 hS2 hres OA OB SA SB
     go_wp2_with fail
     have z2:=BF.o.drew.cell 2
     have y2:=BT.o.drew.cell 2
     have s1:=BP.o.drew.cell 1
     have s2:=BP.o.drew.cell 2
     have s3:=BP.o.drew.cell 3
     have s4:=BP.o.drew.cell 4
     simp only [gX] at z2 y2 s1 s2 s3 s4
     refine aJ (fun w'=>w'.cell? ⟨q,ix,none⟩=some (.int .i32 x0)∧w'.cell? ⟨gp,1,none⟩=some (.slice (some ⟨bz,oz,none⟩) nb cb)∧w'.cell? ⟨gp,2,none⟩=some (.int .i64 M)∧w'.cell? ⟨gp,3,none⟩=some (.int .i64 C)∧w'.cell? ⟨gp,4,none⟩=some (.slice (some ⟨q,0,none⟩) N N)∧w'.cell? ⟨w.heap.size,2,none⟩=some (.int .i64 m0)∧w'.cell? ⟨w1.heap.size,2,none⟩=some (.int .i64 m1)∧Below wr.drew.heap.size wr.drew w') 40 kM ?_ (fun hS=>?_)
     ·exact ⟨ao ((qB _ _).drew) c5,s1,s2,s3,s4,z2,y2,qB _ _⟩
     refine kT' 0 hS ?_
     refine kT' 1 hS ?_
     refine kT' 2 hS ?_
     refine kT' 3 hS ?_
     refine kT' 4 hS ?_
     refine kT' 5 hS ?_
     refine kT' 6 hS ?_
     refine kT' 7 hS ?_
     refine kT' 8 hS ?_
     refine kT' 9 hS ?_
     refine kT' 10 hS ?_
     refine kT' 11 hS ?_
     refine kT' 12 hS ?_
     refine kT' 13 hS ?_
     refine kT' 14 hS ?_
     refine kT' 15 hS ?_
     refine kT' 16 hS ?_
     refine kT' 17 hS ?_
     refine kT' 18 hS ?_
     refine kT' 19 hS ?_
     refine kT' 20 hS ?_
     refine kT' 21 hS ?_
     refine kT' 22 hS ?_
     refine kT' 23 hS ?_
     refine kT' 24 hS ?_
     refine kT' 25 hS ?_
     refine kT' 26 hS ?_
     refine kT' 27 hS ?_
     refine kT' 28 hS ?_
     refine kT' 29 hS ?_
     refine kT' 30 hS ?_
     refine kT' 31 hS ?_
     refine kT' 32 hS ?_
     refine kT' 33 hS ?_
     refine kT' 34 hS ?_
     refine kT' 35 hS ?_
     refine kT' 36 hS ?_
     refine kT' 37 hS ?_
     refine rT 38 (fun K hK=>?_)
     go_simp
     refine qM (DOT.o _ hS.2.2.2.2.2.2.2) fun wm hb=>?_
     refine xK hK (zR hb hS) fun hS=>?_
     clear hK K
     refine kT' 39 hS ?_
     refine wpAnyT_tail _ _ rfl rfl kM ?_
     have kd:=(show Below wr wr wr.drew from (qB _ _).drew).trans hb
     have G2:=zH (cJ GR.o (cL (r:=some q) kd))
     have O2:=zH (ON.o.below kd (lR _) (fun _ h=>h.elim))
     have F2:=zH (BF.o.fut kd)
     have T2:=zH (BT.o.fut kd)
     have P2:=zH (BP.o.fut kd)
     clear hS hb kd c5 c6 c7 GR ON BF BT BP
     obtain ⟨x9,u9,-,-,c5,c6,c7,-⟩:=O2.o.cell rfl ix ixl
     go_wp2_with fail
     obtain ⟨o3,g3⟩:=O2.o.set1 rfl ix (.int .i32 res) res ⟨rfl,RE.o⟩ (fun _ h=>h.elim)
     have fs:=FS.o
     rw [FR.o] at fs
     rw [fs,← HIX.o,FT.o] at o3
     rw [HIX.o] at o3
     have qb:=QB.o
     have qt:=QT.o
     have pq:=PQ.o
     exact ⟨⟨c+1,by omega,by omega,by go_num,cJ G2.o g3,F2.o.rowR g3 (fun e=>by have:=sI e;omega),T2.o.rowR g3 (fun e=>by have:=sI e;omega),P2.o.rowR g3 (fun e=>by have:=sI e;omega),o3⟩,by simp [intOf];omega⟩
    ·obtain rfl:c=c1:=oM
     go_wp2
     exact ⟨⟨r+1,by omega,by omega,by go_num,GR.o,BF.o,BT.o,BP.o,by rw [← rh];exact ON.o⟩,by simp [intOf];omega⟩
  ·obtain rfl:r=r1:=oM
   go_wp2_with fail
   ((try simp only [Exit.inBlock,Exit.then]);refine bodyPost_end (results_none rfl _ _ _) rfl ?_)
   exact ⟨rfl,ON.o,GR.o⟩
end Go.Proofs.YtmihnoagagbgaaaGreat
