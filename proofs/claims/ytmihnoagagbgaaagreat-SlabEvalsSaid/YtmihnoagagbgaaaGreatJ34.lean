/-
  Sums by rows that are multiplied (layer 13): lower.Of.
  A tensor of one number (layer 5: tensor.Fill).
-/
import Derived.Test.YtmihnoagagbgaaaGreatJ28
import Derived.Test.YtmihnoagagbgaaaGreatJ33
set_option linter.unusedVariables false
set_option linter.unusedSimpArgs false
set_option maxRecDepth 100000
set_option maxHeartbeats 16000000
namespace Go.Proofs.YtmihnoagagbgaaaGreat
open Go.RowKit Go.ChangeShapes Go.WideShapes Fx Tryz
set_option maxRecDepth 100000
set_option maxHeartbeats 16000000
theorem pC (H V C:Nat) (l w bl:List Int) (za:Int) (K S P Wo Co M WD N:Nat) (hWD:K*K*C=WD) (h0:0 < WD) (hN:M*Co=N) (hC:0 < Co) :
  ((List.range N).map fun i=>wrap32 (((List.range N).map fun i=>fu ((List.range (M*WD)).map (cX H V C l za K S P Wo)) w WD Co i WD).getD i 0+bl.getD (i % Co) 0))=(List.range N).map fun i=>wrap32 (bl.getD (i % Co) 0+ec H V C l za w K S P (i % Co) (i / Co / Wo) (i / Co % Wo)):=by
 apply List.map_congr_left
 intro i hi
 have hi:=List.mem_range.1 hi
 rw [gD,List.getElem?_map,List.getElem?_range hi]
 show wrap32 (fu _ w WD Co i WD+_)=_
 unfold fu
 rw [eT,Int.add_comm]
 congr 2
 subst hWD
 rw [← pL H V C l w za K S P Wo (i / Co) (i % Co) h0]
 refine dg fun k hk=>?_
 unfold pp
 congr 1
 have hq:i / Co < M:=by rw [Nat.div_lt_iff_lt_mul hC,hN];exact hi
 have:i / Co*(K*K*C)+k < M*(K*K*C):=by
  have:=Nat.mul_le_mul_right (K*K*C) (show i / Co+1≤M by omega)
  rw [Nat.succ_mul] at this
  omega
 rw [gD,List.getElem?_map,List.getElem?_range this]
 rfl
theorem fE {t:Ty Int} {w:World} {B B':Nat} {E:TypeId} {q n:Nat} {l:List Int} (h:Own t w (fun _=>False) B' E (.slice (some ⟨q,0,none⟩) n n) n l) (hB:B≤q):Own t w (fun _=>False) B E (.slice (some ⟨q,0,none⟩) n n) n l:=by
 obtain ⟨vs,h1,h2⟩:=h.out
 refine ⟨vs,⟨h1.1,?_⟩,h2⟩
 rcases h1.2 with ⟨h0,h0'⟩|⟨g,cap,cur,e,hh,hg,hr⟩
 ·exact .inl ⟨h0,h0'⟩
 ·refine .inr ⟨g,cap,cur,e,?_,hg,hr⟩
  injection e with e1 e2 e3
  injection e1 with e1
  injection e1 with e1
  omega
theorem kJ (w:World) (v:Value) (t:TypeId):(w.alloc (.cells #[v] t)).cell? ⟨w.heap.size,0,none⟩=some v:=(Blk.now w w.heap.size t #[v] rfl).cell 0
theorem kO (B:QA) (nb cb:Nat) (w:World) :
  Calls prog 157 #[.slice B nb cb] w fun e w'=>e=.returned (.func (.func 178) #[] #[.pointer (some ⟨w.heap.size,0,none⟩)])∧w'=w.alloc (.cells #[.slice B nb cb] 38):=by
 go_in
 go_wp2
 go_ret
 exact ⟨rfl,rfl⟩
theorem mh (t:ae) (A:QA) (n cap:Nat) (d:af) (W:QA) (nw cw:Nat) (B:QA) (nb cb:Nat) (w:World) (ht:ak t) (hd:aE d)
  (ha:xA w A n cap t.data) (hw:xA w W nw cw d.w) (hb:xB w B nb cb d.bias) (mw:nw≤2000∧nb≤200) (c1:t.ok=true) (c2:(aN t.h t.v t.c d).2=0) :
  Calls prog 130 #[.agg (tN t.h t.v t.c A n cap),.agg (nD d W nw cw B nb cb)] w (ar .i32 (aS t d).1 (aS t d).2 w):=by
 have HT:=zH ht
 have HD:=zH hd
 have HA:=zH ha
 have HW:=zH hw
 have HB:=zH hb
 have m1:n≤9223372036854775807:=lT ha.cap_le ha.max_le
 have m2:nw≤9223372036854775807:=lT hw.cap_le hw.max_le
 have m3:nb≤9223372036854775807:=lT hb.cap_le hb.max_le
 clear ht hd ha hw hb
 have SZ:=zH (show nw≤1048576∧nb≤1048576 by omega)
 obtain ⟨H,V,C,K,S,P,Ho,Wo,Co,TK,WK,hx,lw,lb,ho,el,ev⟩:=fO c1 c2
 rw [ev]
 have en:t.data.length=n:=HA.o.n_eq
 rw [en] at TK
 have hNe:=WK.no
 obtain ⟨N,hNE⟩:∃ N,Ho*Wo*Co=N:=⟨_,rfl⟩
 obtain ⟨M,hM⟩:∃ M,Ho*Wo=M:=⟨_,rfl⟩
 obtain ⟨WD,hWD⟩:∃ x,K*K*C=x:=⟨_,rfl⟩
 obtain ⟨NR,hNR⟩:∃ x,M*WD=x:=⟨_,rfl⟩
 have hMC:M*Co=N:=by rw [← hM];exact hNE
 have hnw:nw=Co*WD:=by rw [← HW.o.n_eq,lw,← hWD,Nat.mul_assoc Co,Nat.mul_assoc Co]
 have hWD1:1≤WD:=by rw [← hWD];exact Nat.mul_pos (Nat.mul_pos WK.k1.1 WK.k1.1) TK.c1.1
 have hWD2:WD≤16384:=by
  have:1*WD≤Co*WD:=Nat.mul_le_mul_right _ WK.co1.1
  omega
 have hM1:1≤M∧M≤16384:=by
  rw [← hM]
  have:=WK.ho1
  have:=WK.wo1
  exact ⟨Nat.mul_pos oM oM,lT (Nat.mul_le_mul WK.ho1.2 this.2) oM⟩
 have hnb:nb=Co:=by rw [← HB.o.n_eq];exact lb
 have hs1:aw H V C d.k d.s d.p 1=(((Ho:Int),(Wo:Int),1),0):=by
  have e:=hx
  unfold aN at e
  obtain ⟨a,-,-,-⟩:=jQ e rfl
  rw [TK.h,TK.v,TK.c] at a
  exact rK a
 rw [hNE]
 have LC:=zH (pC H V C t.data d.w d.bias d.za K S P Wo Co M WD N hWD hWD1 hMC WK.co1.1)
 obtain ⟨LM,hLM⟩:∃ x,((List.range N).map fun i=>fu ((List.range (M*WD)).map (cX H V C t.data d.za K S P Wo)) d.w WD Co i WD)=x:=⟨_,rfl⟩
 rw [hLM,← hnb] at LC
 have HLM:=zH hLM
 have CF:=zH (show (List.range N).map (cN t d Wo Co)=(List.range N).map fun i=>wrap32 (d.bias.getD (i % nb) 0+ec H V C t.data d.za d.w K S P (i % nb) (i / nb / Wo) (i / nb % Wo)) by
  apply List.map_congr_left
  intro i _
  unfold cN
  rw [TK.h,TK.v,TK.c,WK.k,WK.s,WK.p,hnb]
  rfl)
 rw [← LC.o] at CF
 have c1':decide (0 < ab (H:Int) (V:Int) (C:Int)∧ab (H:Int) (V:Int) (C:Int)=n)=true:=by rw [← HA.o.n_eq,← TK.h,← TK.v,← TK.c];simpa [ae.ok] using c1
 rw [TK.h,TK.v,TK.c] at hx
 have hoz:InK .i64 d.out:=HD.o.out
 have RI:=zH (fun w=>av (H:Int) (V:Int) (C:Int) A n cap w (by have:=TK.h1;rw [ah];omega) (by have:=TK.v1;rw [ah];omega) (by have:=TK.c1;rw [ah];omega) (lT HA.o.cap_le HA.o.max_le))
 rw [c1'] at RI
 have CI:=zH (fun w=>dB (H:Int) (V:Int) (C:Int) d W nw cw B nb cb w (by have:=TK.h1;rw [ah];omega) (by have:=TK.v1;rw [ah];omega) (by have:=TK.c1;rw [ah];omega) HD.o.out HW.o.n_eq.symm HB.o.n_eq.symm SZ.o.1 SZ.o.2)
 rw [hx] at CI
 have PO:=zH (fun w ha=>nR t H V C A n cap d W nw cw B nb cb Ho Wo Co K S P M WD NR w ha TK WK HD.o.za hs1 hM hWD hNR)
 have MUL:=zH (fun (Q:QA) (c:Nat) (w:World) ha hb=>tp Q NR c ((List.range (M*WD)).map (cX H V C t.data d.za K S P Wo)) W nw cw d.w M WD Co N w ha hb hNR.symm hnw hMC hM1 ⟨WK.co1.1,by have:=WK.co1.2;omega⟩ ⟨hWD1,hWD2⟩)
 rw [hLM] at MUL
 simp only [hNR] at MUL
 have NB:=zH (show 1≤nb∧N≤65536 by have:=WK.co1;omega)
 have HO:=zH ho
 rw [TK.h,TK.v,TK.c]
 clear c1 c2 hx lw lb ho el ev en hNe hNE hM hWD hNR hMC hnw hWD1 hWD2 hM1 hnb hs1 hLM c1' hoz mw
 have FR:=zW w
 obtain ⟨w1,w2,w3,yw1,yw2,yw3,l1,l2,l3,BA,BN,BR,yk3⟩:=bk3 w (tN H V C A n cap) 27 (nD d W nw cw B nb cb) 42 (tN 0 0 0 none 0 0) 80
 replace FR:=zF yk3 FR
 clear yk3
 go_in
 go_wp2_with (first|(refine lGJ19 BA.o ?_)|(go_at_call 11;refine qM (RI.o _) fun w4 hb=>?_;have l4:=hb.size;obtain ⟨FR,BA,BN,BR⟩:=uz4 hb FR BA BN BR;clear hb yw1 yw2 yw3)|(refine lQJ 24 (sN H V C) BA.o ?_)|(refine lGJ19 BN.o ?_))
 refine qM (CI.o _) fun w5 hb=>?_
 simp only [aL]
 have l5:=hb.size
 obtain ⟨FR,BA,BN,BR⟩:=uz4 hb FR BA BN BR
 clear hb
 obtain ⟨w6,yw6,BD,yk6⟩:=nB w5 (sN (Ho:Int) (Wo:Int) (Co:Int)) 24
 obtain ⟨FR,BA,BN,BR⟩:=uz4 yk6 FR BA BN BR
 clear yk6
 have l56:=zL yw6
 go_wp2_with (first|(refine lGJ19 BA.o ?_)|(refine lGJ19 BN.o ?_))
 clear yw6
 refine (PO.o _ (zO HA FR)).mono ?_
 rintro e w7 ⟨Q,c,rfl,sq,hb⟩
 have NQ:=zH (show New w6 (aa .i16) w7 Q NR c _ from ⟨sq⟩)
 have l7:=hb.size
 clear sq
 obtain ⟨FR,BA,BN,BR,BD⟩:=uz5 hb FR BA BN BR BD
 clear hb
 obtain ⟨w8,yw8,BW,yk8⟩:=nB w7 #[.int .i64 (M:Int),.int .i64 (WD:Int),.slice Q NR c] 197
 obtain ⟨FR,BA,BN,BR,BD,NQ⟩:=uz6 yk8 FR BA BN BR BD NQ
 clear yk8
 have l78:=zL yw8
 have MU:=zH (fun (wz:World) (hz:Below w8 w8 wz)=>MUL.o Q c wz (NQ.o.old.fut hz) (((Old.now HW.o).fut (FR.o.fut hz).out).all))
 go_wp2_with fail
 clear yw8
 go_cut [9] (fun b wx=>∃ g q,b=.pointer (some ⟨g,0,none⟩)∧Blk wx g 80 (tN (Ho:Int) (Wo:Int) (Co:Int) (some ⟨q,0,none⟩) N N)∧Own (aa .i32) wx (fun _=>False) w8.heap.size 21 (.slice (some ⟨q,0,none⟩) N N) N LM∧q ≠ g∧w8.heap.size≤q∧w8.heap.size≤g∧Below w8 w8 wx)
 case first =>
  refine wp_region_held_drew (S:=fun w'=>Below w8 w8 w') kM ?_ (fun hS=>?_)
  ·exact (qB _ _).drew
  refine tkH 0 rfl (yB 24 (.tmp 6) w5 (fun w hs=>BD.o.later hs) underlying24) hS ?_
  try simp only [pX]
  refine kH' 1 hS ?_
  refine tkH 2 rfl (v:=?_) (Or.inl ⟨by rfl,?_⟩) hS ?_
  rotate_left
  ·intro wz hSw;have zz:=(BW.o.later hSw).cell 2;simp only [gX] at zz;go_simp;try with_reducible rfl
  try simp only [pX]
  refine kH' 3 hS ?_
  refine tkH 4 rfl (v:=?_) (Or.inl ⟨by rfl,?_⟩) hS ?_
  rotate_left
  ·intro wz hSw;have zz:=(BN.o.later hSw).cell 9;simp only [gX] at zz;go_simp;try with_reducible rfl
  try simp only [pX]
  refine kH' 5 hS ?_
  refine tkH 6 rfl (v:=?_) (Or.inl ⟨by rfl,?_⟩) hS ?_
  rotate_left
  ·intro wz hSw;have zz:=(BW.o.later hSw).cell 0;simp only [gX] at zz;go_simp;try with_reducible rfl
  try simp only [pX]
  refine kH' 7 hS ?_
  refine tkH 8 rfl (v:=?_) (Or.inl ⟨by rfl,?_⟩) hS ?_
  rotate_left
  ·intro wz hSw;have zz:=(BW.o.later hSw).cell 1;simp only [gX] at zz;go_simp;try with_reducible rfl
  try simp only [pX]
  refine kH' 9 hS ?_
  refine tkH 10 rfl (v:=?_) (Or.inl ⟨by rfl,?_⟩) hS ?_
  rotate_left
  ·intro wz hSw;have zz:=(BN.o.later hSw).cell 6;simp only [gX] at zz;rw [HO.o] at zz;go_simp;try with_reducible rfl
  try simp only [pX]
  refine wpAnyH_ready (rs:=[11,13]) kM sM ?_
  refine AllReadyH.cons rfl (fun K hK=>?_) (AllReadyH.cons rfl (fun K hK=>?_) AllReadyH.nil)
  ·go_simp
   have sz:w8.heap.size≤(w8.drew).heap.size:=hS.size
   refine (MU.o (w8.drew) hS).mono ?_
   rintro e wa ⟨q,rfl,own,hb⟩
   have OW:=zH own
   have lq:=own.lt _ rfl
   clear own
   refine xK hK (zR hb hS) fun hS=>?_
   clear hK K
   refine kH' 12 hS ?_
   refine rH 13 rfl (fun K hK=>?_)
   go_simp
   have zg:w8.heap.size≤wa.heap.size:=hS.size
   obtain ⟨hb,BZ⟩:=zB wa (tN 0 0 0 none 0 0) 80
   replace OW:=zH (OW.o.below hb (lR _) (fun _ h=>h.elim))
   refine xK hK (zR hb hS) fun hS=>?_
   clear hK K
   refine rH 14 rfl (fun K hK=>?_)
   rw [if_pos (by rfl)]
   refine oG (tN (Ho:Int) (Wo:Int) (Co:Int) (some ⟨q,0,none⟩) N N) BZ.o ?_
   intro wc BX gc
   have hne:q ≠ wa.heap.size:=by have:=lq;simp only [World.size_drew,World.size_alloc] at *;omega
   replace OW:=zH (OW.o.flat gc (.inr (by simp [Value.ownBlock];exact hne)) (fun _ h=>h))
   have zq:w8.heap.size≤q:=by have:=lq;simp only [World.size_drew,World.size_alloc] at *;omega
   refine hK.out _ _ (hS.grown gc hS.size (fun k h=>by have:=sI h;have:=zg;simp only [World.size_drew] at *;omega)) (fun hS=>?_)
   clear hK K
   try simp only [pX]
   refine wpAnyH_done kM ?_ _
   have FZ:=hS
   go_wp2_with fail
   go_meet
   case rel=>exact ⟨_,_,rfl,BX,fE OW.o zq,hne,zq,zg,FZ⟩
  ·go_simp
   have zg:w8.heap.size≤w8.heap.size:=hS.size
   have hb:Below w8.drew.heap.size w8.drew (w8.drew.alloc (.cells (tN 0 0 0 none 0 0) 80)):=(qB _ _).alloc (lR _) _
   have BZ:=zH (Blk.now w8.drew w8.heap.size 80 (tN 0 0 0 none 0 0) rfl)
   refine xK hK (zR hb hS) fun hS=>?_
   clear hK K
   refine rH 11 rfl (fun K hK=>?_)
   go_simp
   have sz:w8.heap.size≤(w8.drew.alloc (.cells (tN 0 0 0 none 0 0) 80)).heap.size:=hS.size
   refine (MU.o (w8.drew.alloc (.cells (tN 0 0 0 none 0 0) 80)) hS).mono ?_
   rintro e wa ⟨q,rfl,own,hb⟩
   have OW:=zH own
   have lq:=own.lt _ rfl
   clear own
   replace BZ:=zH (BZ.o.later hb)
   refine xK hK (ag hb hS) fun hS=>?_
   clear hK K
   refine kH' 12 hS ?_
   refine rH 14 rfl (fun K hK=>?_)
   rw [if_pos (by rfl)]
   refine oG (tN (Ho:Int) (Wo:Int) (Co:Int) (some ⟨q,0,none⟩) N N) BZ.o ?_
   intro wc BX gc
   have hne:q ≠ w8.heap.size:=by have:=lq;simp only [World.size_drew,World.size_alloc] at *;omega
   replace OW:=zH (OW.o.flat gc (.inr (by simp [Value.ownBlock];exact hne)) (fun _ h=>h))
   have zq:w8.heap.size≤q:=by have:=lq;simp only [World.size_drew,World.size_alloc] at *;omega
   refine hK.out _ _ (hS.grown gc hS.size (fun k h=>by have:=sI h;have:=zg;simp only [World.size_drew] at *;omega)) (fun hS=>?_)
   clear hK K
   try simp only [pX]
   refine wpAnyH_done kM ?_ _
   have FZ:=hS
   go_wp2_with fail
   go_meet
   case rel=>exact ⟨_,_,rfl,BX,fE OW.o zq,hne,zq,zg,FZ⟩
 case rest =>
  obtain ⟨g,q,rfl,bg,own,hqg,zq,zg,b8⟩:=hcut
  obtain ⟨w9,rfl⟩:∃ x,x=wc:=⟨_,rfl⟩
  have BG:=zH bg
  have ON:=zH own
  have lq:=own.lt _ rfl
  have lg:=bg.lt
  have l89:=b8.size
  have B8:=zH b8
  have BN8:=zH BN.o
  have F8:=zH FR.o
  clear bg own
  obtain ⟨FR,BA,BN,BR,BD,BW⟩:=uz6 b8 FR BA BN BR BD BW
  clear b8
  clear PO MUL MU RI CI
  go_wp2_with fail
  refine wp_region_held_drew (S:=fun w'=>Blk w' g 80 (tN (Ho:Int) (Wo:Int) (Co:Int) (some ⟨q,0,none⟩) N N)∧Below w8 w8 w') kM ?_ (fun hS=>?_)
  ·exact ⟨BG.o.drew,B8.o.drew⟩
  refine kH' 0 hS ?_
  refine tkH 1 rfl (v:=?_) (Or.inl ⟨by rfl,?_⟩) hS ?_
  rotate_left
  ·intro wz hSw;have zz:=(BN8.o.later hSw.2).cell 10;simp only [gX] at zz;go_simp;try with_reducible rfl
  try simp only [pX]
  refine kH' 3 hS ?_
  refine tkH 4 rfl (v:=?_) (Or.inl ⟨by rfl,?_⟩) hS ?_
  rotate_left
  ·intro wz hSw;have zz:=hSw.1.cell 3;simp only [gX] at zz;go_simp;try with_reducible rfl
  try simp only [pX]
  refine rH 2 rfl (fun K hK=>?_)
  go_simp
  refine qM (kO B nb cb _) fun wa hwa=>?_
  have hb:Below w9.drew.heap.size w9.drew wa:=by rw [hwa];exact (qB _ _).alloc (lR _) _
  have OD:=zH ((ON.o.heap (w':=w9.drew) rfl).below hb (lR _) (fun _ h=>h.elim))
  have CP:wa.cell? ⟨w9.heap.size,0,none⟩=some (.slice B nb cb):=by rw [hwa];exact kJ _ _ _
  clear hwa
  refine xK hK (zR hb hS) fun hS=>?_
  clear hK K
  refine rH 5 rfl (fun K hK=>?_)
  go_simp
  refine (o9 ⟨w9.heap.size,0,none⟩ B nb cb d.bias w.heap.size w8.heap.size q N LM wa ((Old.now HB.o).fut (F8.o.fut hS.2).out).out F8.o.size CP (by show w9.heap.size ≠ q;omega) OD.o NB.o.1 NB.o.2).mono ?_
  rintro e wb ⟨rfl,ownb,gb⟩
  have OB:=zH ownb
  clear ownb
  have bg2:=hS.1.rowR gb (fun e=>by have:=sI e;omega)
  refine hK.out _ _ ⟨bg2,hS.2.grown gb hS.2.size (fun k h=>by have:=sI h;omega)⟩ (fun hS=>?_)
  clear hK K
  try simp only [pX]
  refine wpAnyH_done kM ?_ _
  have R10:=zH (BR.o.drew.later hb |>.rowR gb (fun e=>by have:=sI e;omega))
  have F10:=zH ((show Far w w8 from F8.o).fut hS.2)
  have BG:=zH hS.1
  clear hb gb bg2 OD CP
  rw [← CF.o] at OB
  go_wp2_with (first|(refine lB 80 (.tmp 9) g BG.o underlying80 ?_)|(refine sGJ19 (tN (Ho:Int) (Wo:Int) (Co:Int) (some ⟨q,0,none⟩) N N) R10.o ?_;intro w11 B11 g11))
  have e2:=OB.o.flat g11 (.inr (by simp [Value.ownBlock];omega)) (fun _ h=>h)
  refine rG B11 ?_
  have FE:=F10.o.away g11 oM
  obtain ⟨A2,c2,hv,s⟩:=e2.sl (S':=bin w.heap.size _) dM (fun b h1 h2=>⟨by omega,h2⟩) (fun b h=>h.elim)
  injection hv with hv1 hv2 hv3
  subst hv1 hv3
  exact ⟨_,_,_,rfl,s,FE.out⟩
theorem nI (t:ae) (A:QA) (n cap:Nat) (d:af) (W:QA) (nw cw:Nat) (B:QA) (nb cb:Nat) (w:World) (ht:ak t) (hd:aE d)
  (ha:xA w A n cap t.data) (hw:xA w W nw cw d.w) (hb:xB w B nb cb d.bias) (mw:nw≤2000∧nb≤200) :
  Calls prog 130 #[.agg (tN t.h t.v t.c A n cap),.agg (nD d W nw cw B nb cb)] w (ar .i32 (aS t d).1 (aS t d).2 w):=by
 by_cases c1:t.ok=true
 ·by_cases c2:(aN t.h t.v t.c d).2=0
  ·exact mh t A n cap d W nw cw B nb cb w ht hd ha hw hb mw c1 c2
  ·have e:aS t d=(aj,(aN t.h t.v t.c d).2):=by unfold aS;rw [if_pos c1,if_neg c2]
   rw [e];exact mg t A n cap d W nw cw B nb cb w ht hd ha hw hb oM c1 c2
 ·have e:aS t d=(aj,5):=by unfold aS;rw [if_neg c1]
  rw [e];exact nJ t A n cap d W nw cw B nb cb w ht hd ha hw hb c1
theorem r6 (H V C N:Nat) (z:Int) (w:World) (h1:1≤H∧H≤100) (v1:1≤V∧V≤100) (c1:1≤C∧C≤1024) (hel:ab (H:Int) (V:Int) (C:Int)=(N:Int)) (hN:1≤N∧N≤1024) (hz:InK .i8 z) :
  Calls prog 153 #[.agg (sN H V C),.int .i8 z] w fun e w'=>∃ q,e=.returned (.tuple #[.agg (tN H V C (some ⟨q,0,none⟩) N N),.int .i64 0])∧Own (aa .i8) w' (fun _=>False) w.heap.size 37 (.slice (some ⟨q,0,none⟩) N N) N (List.replicate N z)∧Below w w w':=by
 have SR:=zH (fun w=>aP (H:Int) (C:Int) (V:Int) w (by rw [ah];omega) (by rw [ah];omega) (by rw [ah];omega))
 rw [show decide (0 < ab (H:Int) (V:Int) (C:Int))=true by rw [hel];simp;omega] at SR
 have EL:=zH (fun w=>bQ (H:Int) (C:Int) (V:Int) w (by rw [ah];omega) (by rw [ah];omega) (by rw [ah];omega))
 rw [hel] at EL
 have RP:=zH (fun g w hc hg=>pS z N g w hN hz hc hg)
 have FR:=zW w
 clear hel hz
 obtain ⟨w1,w1b,yw1,hw_w1b,l1,_,BA,BR,k_w1b⟩:=bk2 w (sN H V C) 24 (tN 0 0 0 none 0 0) 27
 replace FR:=zF k_w1b FR
 clear k_w1b
 have l2:w1.heap.size < w1b.heap.size:=by rw [← hw_w1b];simp
 go_in
 go_wp2_with (refine lGJ19 BA.o ?_)
 refine qM (SR.o _) fun w2 hb=>?_
 have l3:=hb.size
 obtain ⟨FR,BA,BR⟩:=uz3 hb FR BA BR
 clear hb
 clear yw1 hw_w1b
 go_wp2_with fail
 refine wp_region_held_drew (S:=fun w'=>Blk w' w.heap.size 24 (sN H V C)∧Below w w w') kM ?_ (fun hS=>?_)
 ·exact ⟨BA.o.drew,FR.u.drew⟩
 have KW:=zH (show Below w2 w2 w2.drew from (qB _ _).drew)
 refine tkH 0 rfl (yB 24 (.tmp 2) w (fun w hs=>hs.1) underlying24) hS ?_
 try simp only [pX]
 refine kH' 1 hS ?_
 refine tkH 3 rfl (yB 24 (.tmp 2) w (fun w hs=>hs.1) underlying24) hS ?_
 try simp only [pX]
 refine wpAnyH_ready (rs:=[2,4]) kM sM ?_
 refine AllReadyH.cons rfl (fun K hK=>?_) (AllReadyH.cons rfl (fun K hK=>?_) AllReadyH.nil)
 ·go_simp
  have hb:Below w2.drew.heap.size w2.drew (w2.drew.alloc (.cells #[.int .i8 z] 37)):=(qB _ _).alloc (lR _) _
  have BZ:=zH (Blk.now w2.drew w2.heap.size 37 #[.int .i8 z] rfl)
  refine hK.out _ _ ?_ (fun hS=>?_)
  ·exact zR hb hS
  replace KW:=zH (ag hb KW.o)
  clear hK K
  try simp only [pX]
  refine rH 4 rfl (fun K hK=>?_)
  go_simp
  refine qM (EL.o _) fun wa hb=>?_
  replace BZ:=zH (BZ.o.later hb)
  refine hK.out _ _ ?_ (fun hS=>?_)
  ·exact zR hb hS
  replace KW:=zH (ag hb KW.o)
  clear hK K
  try simp only [pX]
  refine rH 5 rfl (fun K hK=>?_)
  go_simp
  have zw:w2.heap.size≤(wa).heap.size:=KW.o.size
  have lz:=BZ.o.lt
  refine (RP.o w2.heap.size (wa) (BZ.o.cell 0) lz).mono ?_
  rintro e wb ⟨q,rfl,own,hb⟩
  have OW:=zH own
  have lq:=own.lt _ rfl
  clear own
  have BR3:=zH (BR.o.later (ag hb KW.o))
  refine hK.out _ _ ?_ (fun hS=>?_)
  ·exact zR hb hS
  replace KW:=zH (ag hb KW.o)
  clear hK K
  try simp only [pX]
  refine kH' 6 hS ?_
  refine rH 7 rfl (fun K hK=>?_)
  rw [if_pos (by rfl)]
  refine oG (tN H V C (some ⟨q,0,none⟩) N N) BR3.o ?_
  intro wc BX gc
  have e2:=OW.o.flat gc (.inr (by simp [Value.ownBlock];simp only [World.size_drew,World.size_alloc] at *;omega)) (fun _ h=>h)
  have F9:=(show Far w _ from ⟨hS.2⟩).away gc oM
  have zq:w.heap.size≤q:=by simp only [World.size_drew,World.size_alloc] at *;omega
  refine hK.out _ _ ⟨hS.1.away gc (.inl oM),F9.out⟩ (fun hS=>?_)
  clear hK K
  try simp only [pX]
  refine rH 8 rfl (fun K hK=>?_)
  go_simp
  refine hK.out _ _ hS (fun hS=>?_)
  clear hK K
  try simp only [pX]
  refine wpAnyH_done kM ?_ _
  go_wp2_with fail
  refine rG BX ?_
  exact ⟨q,rfl,fE e2 zq,F9.out⟩
 ·go_simp
  refine qM (EL.o _) fun wa hb=>?_
  refine hK.out _ _ ?_ (fun hS=>?_)
  ·exact zR hb hS
  replace KW:=zH (ag hb KW.o)
  clear hK K
  try simp only [pX]
  refine rH 2 rfl (fun K hK=>?_)
  go_simp
  obtain ⟨hb,BZ⟩:=zB wa #[.int .i8 z] 37
  refine hK.out _ _ ?_ (fun hS=>?_)
  ·exact zR hb hS
  replace KW:=zH (ag hb KW.o)
  clear hK K
  try simp only [pX]
  refine rH 5 rfl (fun K hK=>?_)
  go_simp
  have zw:w2.heap.size≤(wa.alloc (.cells #[.int .i8 z] 37)).heap.size:=KW.o.size
  have lz:=BZ.o.lt
  refine (RP.o wa.heap.size (wa.alloc (.cells #[.int .i8 z] 37)) (BZ.o.cell 0) lz).mono ?_
  rintro e wb ⟨q,rfl,own,hb⟩
  have OW:=zH own
  have lq:=own.lt _ rfl
  clear own
  have BR3:=zH (BR.o.later (ag hb KW.o))
  refine hK.out _ _ ?_ (fun hS=>?_)
  ·exact zR hb hS
  replace KW:=zH (ag hb KW.o)
  clear hK K
  try simp only [pX]
  refine kH' 6 hS ?_
  refine rH 7 rfl (fun K hK=>?_)
  rw [if_pos (by rfl)]
  refine oG (tN H V C (some ⟨q,0,none⟩) N N) BR3.o ?_
  intro wc BX gc
  have e2:=OW.o.flat gc (.inr (by simp [Value.ownBlock];simp only [World.size_drew,World.size_alloc] at *;omega)) (fun _ h=>h)
  have F9:=(show Far w _ from ⟨hS.2⟩).away gc oM
  have zq:w.heap.size≤q:=by simp only [World.size_drew,World.size_alloc] at *;omega
  refine hK.out _ _ ⟨hS.1.away gc (.inl oM),F9.out⟩ (fun hS=>?_)
  clear hK K
  try simp only [pX]
  refine rH 8 rfl (fun K hK=>?_)
  go_simp
  refine hK.out _ _ hS (fun hS=>?_)
  clear hK K
  try simp only [pX]
  refine wpAnyH_done kM ?_ _
  go_wp2_with fail
  refine rG BX ?_
  exact ⟨q,rfl,fE e2 zq,F9.out⟩
end Go.Proofs.YtmihnoagagbgaaaGreat
