/-
  Sums of convolutions (layer 10, the document): the walk of Of where all is right.
  Sums of channels (layer 17, the document): the walk of Of where all is right.
-/
import Derived.Test.YtmihnoagagbgaaaGreatJ21
import Derived.Test.YtmihnoagagbgaaaGreatJ24
set_option linter.unusedVariables false
set_option linter.unusedSimpArgs false
set_option maxRecDepth 100000
set_option maxHeartbeats 16000000
namespace Go.Proofs.YtmihnoagagbgaaaGreat
open Go.RowKit Go.ChangeShapes Go.WideShapes Tryz
set_option maxRecDepth 100000
set_option maxHeartbeats 16000000
theorem mB (t:ae) (A:QA) (n cap:Nat) (d:af) (W:QA) (nw cw:Nat) (B:QA) (nb cb:Nat) (w:World) (ht:ak t) (hd:aE d)
  (ha:xA w A n cap t.data) (hw:xA w W nw cw d.w) (hb:xB w B nb cb d.bias) (mw:nw≤2000∧nb≤200) (c1:t.ok=true) (c2:(aN t.h t.v t.c d).2=0) :
  Calls prog 66 #[.agg (tN t.h t.v t.c A n cap),.agg (nN d.kind d.a d.b d.k d.s d.p d.out d.za d.zb W nw cw B nb cb d.qm d.qs d.qz d.rm d.rs d.rz d.lo d.hi)] w (ar .i32 (aS t d).1 (aS t d).2 w):=by
 have HT:=zH ht
 have HD:=zH hd
 have HA:=zH ha
 have HW:=zH hw
 have HB:=zH hb
 have m1:n≤9223372036854775807:=lT ha.cap_le ha.max_le
 have m2:nw≤9223372036854775807:=lT hw.cap_le hw.max_le
 have m3:nb≤9223372036854775807:=lT hb.cap_le hb.max_le
 clear ht hd ha hw hb
 have SZ:=zH (show nw≤1048576∧nb≤1048576 by omega)
 obtain ⟨H,V,C,K,S,P,Ho,Wo,Co,TK,WK,hx,lw,lb,hdo,el,ev⟩:=fO c1 c2
 rw [ev]
 have HX:=zH hx
 have TK:=zH TK
 have WK:=zH WK
 have EN:=zH (show n=H*V*C by have:=TK.o.n_eq;rw [HA.o.n_eq] at this;exact this)
 have LW:=zH (show nw=Co*K*K*C by rw [← HW.o.n_eq];exact lw)
 have LB:=zH (show nb=Co by rw [← HB.o.n_eq];exact lb)
 have hN:=WK.o.no
 obtain ⟨N,hNe⟩:∃ N,Ho*Wo*Co=N:=⟨_,rfl⟩
 rw [hNe] at hN
 have NE:=zH hNe
 rw [hNe]
 have DS:=zH (fun (y x o:Nat) (hy:y≤1000) (hx:x≤1000) (ho:o < Co) (wq:World) (ha:xA wq A n cap t.data) (hw:xA wq W nw cw d.w) (hb:xB wq B nb cb d.bias) =>
  mC H V C A n cap t.data d W nw cw B nb cb K S P y x o Co wq ha hw hb EN.o (by have:=TK.o.n_le;have:=HA.o.n_eq;omega) TK.o.h1 TK.o.v1 TK.o.c1 (dw TK.o) WK.o.k WK.o.s WK.o.p WK.o.k1 WK.o.s1 WK.o.p1.1 HD.o.za hy hx ho WK.o.co1.2 (by rw [LB.o];exact ho) LW.o oM)
 rw [← TK.o.h,← TK.o.v,← TK.o.c] at DS
 have FV:=zH (show ∀ h x o,x < Wo → o < Co → cN t d Wo Co ((h*Wo+x)*Co+o)=wrap32 (d.bias.getD o 0+ec H V C t.data d.za d.w K S P o h x) from fun h x o hx ho=>by
  obtain ⟨n1,n2,n3⟩:=eY h x Wo Co o hx ho
  unfold cN
  rw [n1,n2,n3,TK.o.h,TK.o.v,TK.o.c,WK.o.k,WK.o.s,WK.o.p]
  simp only [Int.toNat_natCast])
 have ub1:(Ho:Int)≤16:=by have:=WK.o.ho1;omega
 have ub2:(Wo:Int)≤16:=by have:=WK.o.wo1;omega
 have ub3:(Co:Int)≤1024:=by have:=WK.o.co1;omega
 clear c2 hx el ev lw lb hNe hdo
 have c1':decide (0 < ab t.h t.v t.c∧ab t.h t.v t.c=n)=true:=by rw [← HA.o.n_eq];simpa [ae.ok] using c1
 have C1:=zH c1'
 clear c1 c1'
 go_in
 go_wp2_with fail
 refine qM (aF t.h t.v t.c A n cap _ HT.o.h HT.o.v HT.o.c (lT HA.o.cap_le HA.o.max_le)) fun w1 hb=>?_
 rw [C1.o]
 have g1:=ai (B:=w.heap.size) (a:=w) (by go_grown) hb (by simp;omega)
 have bA:=((Blk.now _ w.heap.size _ _ rfl).past _ |>.past _).later hb
 have bB:=((Blk.now _ (w.heap.size+1) _ _ sM).past _).later hb
 have bC:=(Blk.now _ (w.heap.size+1+1) _ _ sM).later hb
 have BA:=zH bA
 have BB:=zH bB
 have BC:=zH bC
 have cA:=fun i=>bA.cell i
 clear bA bB bC hb
 go_wp2_with (refine lGJ19 BB.o ?_)
 refine qM (fb t.h t.v t.c d W nw cw B nb cb _ HT.o.h HT.o.v HT.o.c HD.o.out HW.o.n_eq.symm HB.o.n_eq.symm SZ.o.1 SZ.o.2) fun w2 hb=>?_
 have g2:=ai g1 hb g1.size
 have lt1:=BC.o.lt
 have lt2:=hb.size
 have BA:=zH (BA.o.later hb)
 have BB:=zH (BB.o.later hb)
 have BC:=zH (BC.o.later hb)
 clear hb cA
 rw [HX.o]
 simp only [aL]
 have FR:=zH (show Far w w2 from ⟨g2⟩)
 have ltA:w.heap.size+1+1 < w2.heap.size:=oM
 obtain ⟨w3,yw3,BD,yk3⟩:=nB w2 (sN (Ho:Int) (Wo:Int) (Co:Int)) 24
 obtain ⟨FR,BA,BB,BC⟩:=uz4 yk3 FR BA BB BC
 clear yk3
 have l23:=zL yw3
 have BD3:=zH BD.o
 obtain ⟨w4,yw4,BG,yk4⟩:=nB w3 (tN 0 0 0 none 0 0) 80
 obtain ⟨FR,BA,BB,BC,BD⟩:=uz5 yk4 FR BA BB BC BD
 clear yk4
 have l34:w4.heap.size=w3.heap.size+1:=by rw [← yw4];simp
 go_wp2_with (first|(refine lGJ19 BD3.o ?_)|(refine sGJ19 (tN (Ho:Int) (Wo:Int) (Co:Int) none 0 0) BG.o ?_;intro w5 B5 g5))
 clear yw3 yw4 BD3
 replace FR:=zA g5 FR
 replace BA:=zA g5 BA
 replace BB:=zA g5 BB
 replace BC:=zA g5 BC
 replace BD:=zA g5 BD
 replace BG:=zH B5
 clear B5 g5
 have ON:=zH (show Own (aa .i32) w5 (fun _=>False) w4.heap.size 21 (.slice none 0 0) ((0*Wo+0)*Co+0) ((List.range ((0*Wo+0)*Co+0)).map (cN t d Wo Co)) by rw [Nat.zero_mul,Nat.zero_add,Nat.zero_mul];exact Own.nil _ _ _ _ _)
 go_loopw [9] (fun ii wr=>∃ h:Nat,h≤Ho∧ii=.int .i64 h∧Far w wr∧Blk wr w.heap.size 27 (tN t.h t.v t.c A n cap)∧Blk wr (w.heap.size+1) 42 (nN d.kind d.a d.b d.k d.s d.p d.out d.za d.zb W nw cw B nb cb d.qm d.qs d.qz d.rm d.rs d.rz d.lo d.hi)∧Blk wr (w.heap.size+1+1) 80 (tN 0 0 0 none 0 0)∧Blk wr w2.heap.size 24 (sN (Ho:Int) (Wo:Int) (Co:Int))∧∃ u,Blk wr w3.heap.size 80 #[.int .i64 (Ho:Int),.int .i64 (Wo:Int),.int .i64 (Co:Int),u]∧Own (aa .i32) wr (fun _=>False) w4.heap.size 21 u ((h*Wo+0)*Co+0) ((List.range ((h*Wo+0)*Co+0)).map (cN t d Wo Co))) (fun ii _=>Ho - (intOf ii).toNat)
 case atStart=>exact ⟨0,zl _,rfl,FR.o,BA.o,BB.o,BC.o,BD.o,_,BG.o,ON.o⟩
 case round =>
  obtain ⟨h,hh,rfl,f0,f1,f2,f3,f4,u,f5,f6⟩:=hrel
  clear FR BA BB BC BD BG ON
  have FR:=zH f0
  have BA:=zH f1
  have BB:=zH f2
  have BC:=zH f3
  have BD:=zH f4
  have BG:=zH f5
  have ON:=zH f6
  clear f0 f1 f2 f3 f4 f5 f6
  have d0:=BD.o.cell 0
  by_cases hlt:h < Ho
  ·have p1:(h:Int) < (Ho:Int):=oM
   go_wp2_with fail
   clear d0
   go_loopw [10] (fun ii wr=>∃ x:Nat,x≤Wo∧ii=.int .i64 x∧Far w wr∧Blk wr w.heap.size 27 (tN t.h t.v t.c A n cap)∧Blk wr (w.heap.size+1) 42 (nN d.kind d.a d.b d.k d.s d.p d.out d.za d.zb W nw cw B nb cb d.qm d.qs d.qz d.rm d.rs d.rz d.lo d.hi)∧Blk wr (w.heap.size+1+1) 80 (tN 0 0 0 none 0 0)∧Blk wr w2.heap.size 24 (sN (Ho:Int) (Wo:Int) (Co:Int))∧∃ u,Blk wr w3.heap.size 80 #[.int .i64 (Ho:Int),.int .i64 (Wo:Int),.int .i64 (Co:Int),u]∧Own (aa .i32) wr (fun _=>False) w4.heap.size 21 u ((h*Wo+x)*Co+0) ((List.range ((h*Wo+x)*Co+0)).map (cN t d Wo Co))) (fun ii _=>Wo - (intOf ii).toNat)
   case atStart=>exact ⟨0,zl _,rfl,FR.o,BA.o,BB.o,BC.o,BD.o,_,BG.o,ON.o⟩
   case round =>
    obtain ⟨x,hx,rfl,f0,f1,f2,f3,f4,u,f5,f6⟩:=hrel
    clear FR BA BB BC BD BG ON
    have FR:=zH f0
    have BA:=zH f1
    have BB:=zH f2
    have BC:=zH f3
    have BD:=zH f4
    have BG:=zH f5
    have ON:=zH f6
    clear f0 f1 f2 f3 f4 f5 f6
    have d1:=BD.o.cell 1
    by_cases hlx:x < Wo
    ·have p2:(x:Int) < (Wo:Int):=oM
     go_wp2_with fail
     clear d1
     go_loopw [11] (fun ii wr=>∃ o:Nat,o≤Co∧ii=.int .i64 o∧Far w wr∧Blk wr w.heap.size 27 (tN t.h t.v t.c A n cap)∧Blk wr (w.heap.size+1) 42 (nN d.kind d.a d.b d.k d.s d.p d.out d.za d.zb W nw cw B nb cb d.qm d.qs d.qz d.rm d.rs d.rz d.lo d.hi)∧Blk wr (w.heap.size+1+1) 80 (tN 0 0 0 none 0 0)∧Blk wr w2.heap.size 24 (sN (Ho:Int) (Wo:Int) (Co:Int))∧∃ u,Blk wr w3.heap.size 80 #[.int .i64 (Ho:Int),.int .i64 (Wo:Int),.int .i64 (Co:Int),u]∧Own (aa .i32) wr (fun _=>False) w4.heap.size 21 u ((h*Wo+x)*Co+o) ((List.range ((h*Wo+x)*Co+o)).map (cN t d Wo Co))) (fun ii _=>Co - (intOf ii).toNat)
     case atStart=>exact ⟨0,zl _,rfl,FR.o,BA.o,BB.o,BC.o,BD.o,_,BG.o,ON.o⟩
     case round =>
      obtain ⟨o,ho,rfl,f0,f1,f2,f3,f4,u,f5,f6⟩:=hrel
      clear FR BA BB BC BD BG ON
      have FR:=zH f0
      have BA:=zH f1
      have BB:=zH f2
      have BC:=zH f3
      have BD:=zH f4
      have BG:=zH f5
      have ON:=zH f6
      clear f0 f1 f2 f3 f4 f5 f6
      have d2:=BD.o.cell 2
      by_cases hlo:o < Co
      ·have p3:(o:Int) < (Co:Int):=oM
       go_wp2_with fail
       clear d2
       have hlk:(h*Wo+x)*Co+o < N:=by rw [← NE.o];exact dO h x o Ho Wo Co hlt hlx hlo
       have FK:=zH (FV.o h x o hlx hlo)
       obtain ⟨sv,hsv⟩:∃ m,d.bias.getD o 0+ec H V C t.data d.za d.w K S P o h x=m:=⟨_,rfl⟩
       have CALL:=zH (fun wq (hb:Below w w wq)=>DS.o h x o oM oM hlo wq ((Old.now HA.o).fut hb).all ((Old.now HW.o).fut hb).all ((Old.now HB.o).fut hb).all)
       rw [hsv] at CALL FK
       obtain ⟨res,hres⟩:∃ m,wrap32 sv=m:=⟨_,rfl⟩
       have e5:IntKind.i32.wrap sv=res:=by rw [IntKind.wrap_i32,← hres];unfold wrap32;rfl
       rw [hres] at FK
       have RE:=zH (show InK .i32 res by rw [bE,← hres];exact cV _)
       have fd:Below w w wr.drew:=FR.u.drew
       obtain ⟨k,hk⟩:∃ m,(h*Wo+x)*Co+o=m:=⟨_,rfl⟩
       have HK:=zH hk
       rw [hk] at hlk FK ON
       have OD:=zH (show Own (aa .i32) wr.drew (fun _=>False) w4.heap.size 21 u k ((List.range k).map (cN t d Wo Co)) from ON.o.heap rfl)
       have nu:=zH (show ∀ b,b < w4.heap.size → some b ≠ u.ownBlock from fun b hb e=>absurd (ON.o.lt b e.symm).1 oM)
       have z0:w4.heap.size≤wr.drew.heap.size:=by have:=BG.o.lt;show w4.heap.size≤wr.heap.size;omega
       clear hsv hres hk
       refine aJ (fun w'=>w'.cell? ⟨w3.heap.size,3,none⟩=some u∧Blk w' w.heap.size 27 (tN t.h t.v t.c A n cap)∧Blk w' (w.heap.size+1) 42 (nN d.kind d.a d.b d.k d.s d.p d.out d.za d.zb W nw cw B nb cb d.qm d.qs d.qz d.rm d.rs d.rz d.lo d.hi)∧Below w w w') 11 kM ?_ (fun hS=>?_)
       ·exact ⟨BG.o.drew.cell 3,BA.o.drew,BB.o.drew,fd⟩
       refine kT' 0 hS ?_
       refine kT' 1 hS ?_
       refine tkT 2 rfl (yP (tN t.h t.v t.c A n cap) (fun w hs=>hs.2.1)) hS ?_
       try simp only [pX]
       refine tkT 3 rfl (yP (nN d.kind d.a d.b d.k d.s d.p d.out d.za d.zb W nw cw B nb cb d.qm d.qs d.qz d.rm d.rs d.rz d.lo d.hi) (fun w hs=>hs.2.2.1)) hS ?_
       try simp only [pX]
       refine kT' 4 hS ?_
       refine kT' 5 hS ?_
       refine kT' 6 hS ?_
       refine rT 7 (fun K hK=>?_)
       go_simp
       refine qM (CALL.o _ fd) fun wa hb=>?_;have OA:=zH (OD.o.below hb (lR _) (fun _ h=>h.elim));have za:w4.heap.size≤wa.heap.size:=lT z0 hb.size;have XX:=zH (And.intro (BC.o.drew.later hb) (And.intro (BD.o.drew.later hb) (BG.o.drew.later hb)));have YY:=zH (And.intro (BA.o.drew.later hb) (BB.o.drew.later hb));have FA:=zH (ai fd hb fd.size)
       refine xK hK (zR hb hS) fun hS=>?_
       clear hK K
       refine kT' 8 hS ?_
       refine rT 9 (fun K hK=>?_)
       go_simp
       have hb:Below wa wa (wa.alloc (.cells #[.int .i32 res] 21)):=(qB _ _).alloc (lR _) _
       refine xK hK (zR hb hS) fun hS=>?_
       clear hK K
       refine rT 10 (fun K hK=>?_)
       (rw [if_pos (by rfl)];refine cU (W:=wa) (cs:=#[.int .i32 res]) (E:=21) (t:=aa .i32) (.tmp 48) (.tmp 56) rfl dK rfl OA.o 1 rfl res ⟨rfl,RE.o⟩ (by unfold maxLen;omega) oM za (fun _ h=>h.elim) ?_;intro u' w7 own7 g7 at7;have B7:=zH (XX.o.2.2.rowR g7 (nu.out _ oM));refine hK.out _ _ ⟨B7.o.cell 3,YY.o.1.rowR g7 (nu.out _ oM),YY.o.2.rowR g7 (nu.out _ oM),FA.o.grown g7 FA.o.size (fun j hj=>lT oM (OA.o.lt j hj).1)⟩ (fun hS=>?_))
       clear hK K
       try simp only [pX]
       refine wpAnyT_tail _ _ rfl rfl kM ?_
       have FZ:=hS.2.2.2
       have XC:=zH (XX.o.1.rowR g7 (nu.out _ oM))
       have XD:=zH (XX.o.2.1.rowR g7 (nu.out _ oM))
       have XA:=zH hS.2.1
       have XB:=zH hS.2.2.1
       have NU:=zH (show u'.ownBlock=none ∨ u'.ownBlock ≠ some w3.heap.size by
        cases hu:u'.ownBlock with
        | none=>exact .inl rfl
        | some m=>right;intro e;have:=(own7.lt m hu).1;have:=sI e;omega)
       obtain ⟨A7,c7,rfl,-⟩:=own7.sl (S':=fun _=>True) dM (fun _ _ _=>trivial) (fun _ _=>trivial)
       clear hS hb nu at7
       go_wp2_with (refine wpList_store_one rfl 38 (.tmp 58) (.tmp 57) rfl w3.heap.size 3 (.slice A7 (k+1) c7) rfl rfl rfl rfl _ #[.int .i64 (Ho:Int),.int .i64 (Wo:Int),.int .i64 (Co:Int),u] (tN (Ho:Int) (Wo:Int) (Co:Int) A7 (k+1) c7) B7.o sM kM rfl ?_;intro w8 B8 g8)
       have F8:=(show Far w w7 from ⟨FZ⟩).away g8 oM
       have O8:=own7.flat g8 (by rcases NU.o with e|e;exact .inl e;exact .inr e) (fun _ h=>h)
       have e9:=dz (cN t d Wo Co) k
       rw [FK.o] at e9
       rw [e9] at O8
       exact ⟨⟨o+1,by omega,by go_num,F8,XA.o.away g8 (.inl oM),XB.o.away g8 (.inl oM),XC.o.away g8 (.inl oM),XD.o.away g8 (.inl oM),_,B8,by rw [show (h*Wo+x)*Co+(o+1)=k+1 by rw [← HK.o];rfl];exact O8⟩,by simp [intOf];omega⟩
      ·obtain rfl:o=Co:=oM
       go_wp2
       exact ⟨⟨x+1,by omega,by go_num,FR.o,BA.o,BB.o,BC.o,BD.o,_,BG.o,by rw [show (h*Wo+(x+1))*o+0=(h*Wo+x)*o+o by rw [Nat.add_zero,show h*Wo+(x+1)=(h*Wo+x)+1 from rfl,Nat.succ_mul]];exact ON.o⟩,by simp [intOf];omega⟩
    ·obtain rfl:x=Wo:=oM
     go_wp2
     exact ⟨⟨h+1,by omega,by go_num,FR.o,BA.o,BB.o,BC.o,BD.o,_,BG.o,by rw [show ((h+1)*x+0)*Co+0=(h*x+x)*Co+0 by rw [Nat.add_zero ((h+1)*x),Nat.succ_mul]];exact ON.o⟩,by simp [intOf];omega⟩
  ·obtain rfl:h=Ho:=oM
   obtain ⟨A9,c9,rfl,-⟩:=ON.o.sl (S':=fun _=>True) dM (fun _ _ _=>trivial) (fun _ _=>trivial)
   have en:(h*Wo+0)*Co+0=N:=by rw [Nat.add_zero,Nat.add_zero];exact NE.o
   rw [en] at ON BG
   have d0':=d0
   clear NE
   go_wp2_with (first|(refine lGJ19 BG.o ?_)|(refine sB 80 (.tmp 4) (.tmp 59) (w.heap.size+1+1) (tN (h:Int) (Wo:Int) (Co:Int) A9 N c9) BC.o ?_;intro w9 B9 g9))
   have e2:=ON.o.flat g9 (by
    cases hu:(Value.slice A9 N c9).ownBlock with
    | none=>exact .inl rfl
    | some m=>right;intro e;have:=(ON.o.lt m hu).1;have:=sI e;omega) (fun _ h=>h)
   refine rG B9 ?_
   have FE:=FR.o.away g9 oM
   obtain ⟨A2,c2,hv,s⟩:=e2.sl (S':=bin w.heap.size _) dM (fun b h1 h2=>⟨by omega,h2⟩) (fun b h=>h.elim)
   injection hv with hv1 hv2 hv3
   subst hv1 hv3
   exact ⟨_,_,_,rfl,s,FE.out⟩
theorem kU (t:ae) (A:QA) (n cap:Nat) (d:af) (W:QA) (nw cw:Nat) (B:QA) (nb cb:Nat) (w:World) (ht:ak t) (hd:aE d)
  (ha:xA w A n cap t.data) (hw:xA w W nw cw d.w) (hb:xB w B nb cb d.bias) (mw:nw≤2000∧nb≤200) (c1:t.ok=true) (c2:(aM t.h t.v t.c d).2=0) :
  Calls prog 67 #[.agg (tN t.h t.v t.c A n cap),.agg (nN d.kind d.a d.b d.k d.s d.p d.out d.za d.zb W nw cw B nb cb d.qm d.qs d.qz d.rm d.rs d.rz d.lo d.hi)] w (ar .i32 (aY t d).1 (aY t d).2 w):=by
 have HT:=zH ht
 have HD:=zH hd
 have HA:=zH ha
 have HW:=zH hw
 have HB:=zH hb
 have m1:n≤9223372036854775807:=lT ha.cap_le ha.max_le
 have m2:nw≤9223372036854775807:=lT hw.cap_le hw.max_le
 have m3:nb≤9223372036854775807:=lT hb.cap_le hb.max_le
 clear ht hd ha hw hb
 have SZ:=zH (show nw≤1048576∧nb≤1048576 by omega)
 obtain ⟨H,V,C,K,S,P,Ho,Wo,TK,WK,hx,lw,lb,el,ev⟩:=f7 c1 c2
 rw [ev]
 have HX:=zH hx
 have TK:=zH TK
 have WK:=zH WK
 have EN:=zH (show n=H*V*C by have:=TK.o.n_eq;rw [HA.o.n_eq] at this;exact this)
 have LW:=zH (show nw=C*K*K by rw [← HW.o.n_eq];exact lw)
 have LB:=zH (show nb=C by rw [← HB.o.n_eq];exact lb)
 have hN:=WK.o.no
 obtain ⟨N,hNe⟩:∃ N,Ho*Wo*C=N:=⟨_,rfl⟩
 rw [hNe] at hN
 have NE:=zH hNe
 rw [hNe]
 have DS:=zH (fun (y x o:Nat) (hy:y≤1000) (hx:x≤1000) (ho:o < C) (wq:World) (ha:xA wq A n cap t.data) (hw:xA wq W nw cw d.w) (hb:xB wq B nb cb d.bias) =>
  kV H V C A n cap t.data d W nw cw B nb cb K S P y x o wq ha hw hb EN.o (by have:=TK.o.n_le;have:=HA.o.n_eq;omega) TK.o.h1 TK.o.v1 TK.o.c1 (dw TK.o) WK.o.k WK.o.s WK.o.p WK.o.k1 WK.o.s1 WK.o.p1.1 HD.o.za hy hx ho (by rw [LB.o];exact ho) LW.o)
 rw [← TK.o.h,← TK.o.v,← TK.o.c] at DS
 have FV:=zH (show ∀ h x o,x < Wo → o < C → db t d Wo C ((h*Wo+x)*C+o)=wrap32 (d.bias.getD o 0+eG H V C t.data d.za d.w K S P o h x) from fun h x o hx ho=>by
  obtain ⟨n1,n2,n3⟩:=eY h x Wo C o hx ho
  unfold db
  rw [n1,n2,n3,TK.o.h,TK.o.v,TK.o.c,WK.o.k,WK.o.s,WK.o.p]
  simp only [Int.toNat_natCast])
 have ub1:(Ho:Int)≤16:=by have:=WK.o.ho1;omega
 have ub2:(Wo:Int)≤16:=by have:=WK.o.wo1;omega
 have ub3:(C:Int)≤1024:=by have:=WK.o.co1;omega
 clear c2 hx el ev lw lb hNe
 have c1':decide (0 < ab t.h t.v t.c∧ab t.h t.v t.c=n)=true:=by rw [← HA.o.n_eq];simpa [ae.ok] using c1
 have C1:=zH c1'
 clear c1 c1'
 go_in
 go_wp2_with fail
 refine qM (aF t.h t.v t.c A n cap _ HT.o.h HT.o.v HT.o.c (lT HA.o.cap_le HA.o.max_le)) fun w1 hb=>?_
 rw [C1.o]
 have g1:=ai (B:=w.heap.size) (a:=w) (by go_grown) hb (by simp;omega)
 have bA:=((Blk.now _ w.heap.size _ _ rfl).past _ |>.past _).later hb
 have bB:=((Blk.now _ (w.heap.size+1) _ _ sM).past _).later hb
 have bC:=(Blk.now _ (w.heap.size+1+1) _ _ sM).later hb
 have BA:=zH bA
 have BB:=zH bB
 have BC:=zH bC
 have cA:=fun i=>bA.cell i
 clear bA bB bC hb
 go_wp2_with (refine lGJ19 BB.o ?_)
 refine qM (eP t.h t.v t.c d W nw cw B nb cb _ HT.o.h HT.o.v HT.o.c HD.o.out HW.o.n_eq.symm HB.o.n_eq.symm SZ.o.1 SZ.o.2) fun w2 hb=>?_
 have g2:=ai g1 hb g1.size
 have lt1:=BC.o.lt
 have lt2:=hb.size
 have BA:=zH (BA.o.later hb)
 have BB:=zH (BB.o.later hb)
 have BC:=zH (BC.o.later hb)
 clear hb cA
 rw [HX.o]
 simp only [aL]
 have FR:=zH (show Far w w2 from ⟨g2⟩)
 have ltA:w.heap.size+1+1 < w2.heap.size:=oM
 obtain ⟨w3,yw3,BD,yk3⟩:=nB w2 (sN (Ho:Int) (Wo:Int) (C:Int)) 24
 obtain ⟨FR,BA,BB,BC⟩:=uz4 yk3 FR BA BB BC
 clear yk3
 have l23:=zL yw3
 have BD3:=zH BD.o
 obtain ⟨w4,yw4,BG,yk4⟩:=nB w3 (tN 0 0 0 none 0 0) 80
 obtain ⟨FR,BA,BB,BC,BD⟩:=uz5 yk4 FR BA BB BC BD
 clear yk4
 have l34:w4.heap.size=w3.heap.size+1:=by rw [← yw4];simp
 go_wp2_with (first|(refine lGJ19 BD3.o ?_)|(refine sGJ19 (tN (Ho:Int) (Wo:Int) (C:Int) none 0 0) BG.o ?_;intro w5 B5 g5))
 clear yw3 yw4 BD3
 replace FR:=zA g5 FR
 replace BA:=zA g5 BA
 replace BB:=zA g5 BB
 replace BC:=zA g5 BC
 replace BD:=zA g5 BD
 replace BG:=zH B5
 clear B5 g5
 have ON:=zH (show Own (aa .i32) w5 (fun _=>False) w4.heap.size 21 (.slice none 0 0) ((0*Wo+0)*C+0) ((List.range ((0*Wo+0)*C+0)).map (db t d Wo C)) by rw [Nat.zero_mul,Nat.zero_add,Nat.zero_mul];exact Own.nil _ _ _ _ _)
 go_loopw [9] (fun ii wr=>∃ h:Nat,h≤Ho∧ii=.int .i64 h∧Far w wr∧Blk wr w.heap.size 27 (tN t.h t.v t.c A n cap)∧Blk wr (w.heap.size+1) 42 (nN d.kind d.a d.b d.k d.s d.p d.out d.za d.zb W nw cw B nb cb d.qm d.qs d.qz d.rm d.rs d.rz d.lo d.hi)∧Blk wr (w.heap.size+1+1) 80 (tN 0 0 0 none 0 0)∧Blk wr w2.heap.size 24 (sN (Ho:Int) (Wo:Int) (C:Int))∧∃ u,Blk wr w3.heap.size 80 #[.int .i64 (Ho:Int),.int .i64 (Wo:Int),.int .i64 (C:Int),u]∧Own (aa .i32) wr (fun _=>False) w4.heap.size 21 u ((h*Wo+0)*C+0) ((List.range ((h*Wo+0)*C+0)).map (db t d Wo C))) (fun ii _=>Ho - (intOf ii).toNat)
 case atStart=>exact ⟨0,zl _,rfl,FR.o,BA.o,BB.o,BC.o,BD.o,_,BG.o,ON.o⟩
 case round =>
  obtain ⟨h,hh,rfl,f0,f1,f2,f3,f4,u,f5,f6⟩:=hrel
  clear FR BA BB BC BD BG ON
  have FR:=zH f0
  have BA:=zH f1
  have BB:=zH f2
  have BC:=zH f3
  have BD:=zH f4
  have BG:=zH f5
  have ON:=zH f6
  clear f0 f1 f2 f3 f4 f5 f6
  have d0:=BD.o.cell 0
  by_cases hlt:h < Ho
  ·have p1:(h:Int) < (Ho:Int):=oM
   go_wp2_with fail
   clear d0
   go_loopw [10] (fun ii wr=>∃ x:Nat,x≤Wo∧ii=.int .i64 x∧Far w wr∧Blk wr w.heap.size 27 (tN t.h t.v t.c A n cap)∧Blk wr (w.heap.size+1) 42 (nN d.kind d.a d.b d.k d.s d.p d.out d.za d.zb W nw cw B nb cb d.qm d.qs d.qz d.rm d.rs d.rz d.lo d.hi)∧Blk wr (w.heap.size+1+1) 80 (tN 0 0 0 none 0 0)∧Blk wr w2.heap.size 24 (sN (Ho:Int) (Wo:Int) (C:Int))∧∃ u,Blk wr w3.heap.size 80 #[.int .i64 (Ho:Int),.int .i64 (Wo:Int),.int .i64 (C:Int),u]∧Own (aa .i32) wr (fun _=>False) w4.heap.size 21 u ((h*Wo+x)*C+0) ((List.range ((h*Wo+x)*C+0)).map (db t d Wo C))) (fun ii _=>Wo - (intOf ii).toNat)
   case atStart=>exact ⟨0,zl _,rfl,FR.o,BA.o,BB.o,BC.o,BD.o,_,BG.o,ON.o⟩
   case round =>
    obtain ⟨x,hx,rfl,f0,f1,f2,f3,f4,u,f5,f6⟩:=hrel
    clear FR BA BB BC BD BG ON
    have FR:=zH f0
    have BA:=zH f1
    have BB:=zH f2
    have BC:=zH f3
    have BD:=zH f4
    have BG:=zH f5
    have ON:=zH f6
    clear f0 f1 f2 f3 f4 f5 f6
    have d1:=BD.o.cell 1
    by_cases hlx:x < Wo
    ·have p2:(x:Int) < (Wo:Int):=oM
     go_wp2_with fail
     clear d1
     go_loopw [11] (fun ii wr=>∃ o:Nat,o≤C∧ii=.int .i64 o∧Far w wr∧Blk wr w.heap.size 27 (tN t.h t.v t.c A n cap)∧Blk wr (w.heap.size+1) 42 (nN d.kind d.a d.b d.k d.s d.p d.out d.za d.zb W nw cw B nb cb d.qm d.qs d.qz d.rm d.rs d.rz d.lo d.hi)∧Blk wr (w.heap.size+1+1) 80 (tN 0 0 0 none 0 0)∧Blk wr w2.heap.size 24 (sN (Ho:Int) (Wo:Int) (C:Int))∧∃ u,Blk wr w3.heap.size 80 #[.int .i64 (Ho:Int),.int .i64 (Wo:Int),.int .i64 (C:Int),u]∧Own (aa .i32) wr (fun _=>False) w4.heap.size 21 u ((h*Wo+x)*C+o) ((List.range ((h*Wo+x)*C+o)).map (db t d Wo C))) (fun ii _=>C - (intOf ii).toNat)
     case atStart=>exact ⟨0,zl _,rfl,FR.o,BA.o,BB.o,BC.o,BD.o,_,BG.o,ON.o⟩
     case round =>
      obtain ⟨o,ho,rfl,f0,f1,f2,f3,f4,u,f5,f6⟩:=hrel
      clear FR BA BB BC BD BG ON
      have FR:=zH f0
      have BA:=zH f1
      have BB:=zH f2
      have BC:=zH f3
      have BD:=zH f4
      have BG:=zH f5
      have ON:=zH f6
      clear f0 f1 f2 f3 f4 f5 f6
      have d2:=BD.o.cell 2
      by_cases hlo:o < C
      ·have p3:(o:Int) < (C:Int):=oM
       go_wp2_with fail
       clear d2
       have hlk:(h*Wo+x)*C+o < N:=by rw [← NE.o];exact dO h x o Ho Wo C hlt hlx hlo
       have FK:=zH (FV.o h x o hlx hlo)
       obtain ⟨sv,hsv⟩:∃ m,d.bias.getD o 0+eG H V C t.data d.za d.w K S P o h x=m:=⟨_,rfl⟩
       have CALL:=zH (fun wq (hb:Below w w wq)=>DS.o h x o oM oM hlo wq ((Old.now HA.o).fut hb).all ((Old.now HW.o).fut hb).all ((Old.now HB.o).fut hb).all)
       rw [hsv] at CALL FK
       obtain ⟨res,hres⟩:∃ m,wrap32 sv=m:=⟨_,rfl⟩
       have e5:IntKind.i32.wrap sv=res:=by rw [IntKind.wrap_i32,← hres];unfold wrap32;rfl
       rw [hres] at FK
       have RE:=zH (show InK .i32 res by rw [bE,← hres];exact cV _)
       have fd:Below w w wr.drew:=FR.u.drew
       obtain ⟨k,hk⟩:∃ m,(h*Wo+x)*C+o=m:=⟨_,rfl⟩
       have HK:=zH hk
       rw [hk] at hlk FK ON
       have OD:=zH (show Own (aa .i32) wr.drew (fun _=>False) w4.heap.size 21 u k ((List.range k).map (db t d Wo C)) from ON.o.heap rfl)
       have nu:=zH (show ∀ b,b < w4.heap.size → some b ≠ u.ownBlock from fun b hb e=>absurd (ON.o.lt b e.symm).1 oM)
       have z0:w4.heap.size≤wr.drew.heap.size:=by have:=BG.o.lt;show w4.heap.size≤wr.heap.size;omega
       clear hsv hres hk
       refine aJ (fun w'=>w'.cell? ⟨w3.heap.size,3,none⟩=some u∧Blk w' w.heap.size 27 (tN t.h t.v t.c A n cap)∧Blk w' (w.heap.size+1) 42 (nN d.kind d.a d.b d.k d.s d.p d.out d.za d.zb W nw cw B nb cb d.qm d.qs d.qz d.rm d.rs d.rz d.lo d.hi)∧Below w w w') 11 kM ?_ (fun hS=>?_)
       ·exact ⟨BG.o.drew.cell 3,BA.o.drew,BB.o.drew,fd⟩
       refine kT' 0 hS ?_
       refine kT' 1 hS ?_
       refine tkT 2 rfl (yP (tN t.h t.v t.c A n cap) (fun w hs=>hs.2.1)) hS ?_
       try simp only [pX]
       refine tkT 3 rfl (yP (nN d.kind d.a d.b d.k d.s d.p d.out d.za d.zb W nw cw B nb cb d.qm d.qs d.qz d.rm d.rs d.rz d.lo d.hi) (fun w hs=>hs.2.2.1)) hS ?_
       try simp only [pX]
       refine kT' 4 hS ?_
       refine kT' 5 hS ?_
       refine kT' 6 hS ?_
       refine rT 7 (fun K hK=>?_)
       go_simp
       refine qM (CALL.o _ fd) fun wa hb=>?_;have OA:=zH (OD.o.below hb (lR _) (fun _ h=>h.elim));have za:w4.heap.size≤wa.heap.size:=lT z0 hb.size;have XX:=zH (And.intro (BC.o.drew.later hb) (And.intro (BD.o.drew.later hb) (BG.o.drew.later hb)));have YY:=zH (And.intro (BA.o.drew.later hb) (BB.o.drew.later hb));have FA:=zH (ai fd hb fd.size)
       refine xK hK (zR hb hS) fun hS=>?_
       clear hK K
       refine kT' 8 hS ?_
       refine rT 9 (fun K hK=>?_)
       go_simp
       have hb:Below wa wa (wa.alloc (.cells #[.int .i32 res] 21)):=(qB _ _).alloc (lR _) _
       refine xK hK (zR hb hS) fun hS=>?_
       clear hK K
       refine rT 10 (fun K hK=>?_)
       (rw [if_pos (by rfl)];refine cU (W:=wa) (cs:=#[.int .i32 res]) (E:=21) (t:=aa .i32) (.tmp 48) (.tmp 56) rfl dK rfl OA.o 1 rfl res ⟨rfl,RE.o⟩ (by unfold maxLen;omega) oM za (fun _ h=>h.elim) ?_;intro u' w7 own7 g7 at7;have B7:=zH (XX.o.2.2.rowR g7 (nu.out _ oM));refine hK.out _ _ ⟨B7.o.cell 3,YY.o.1.rowR g7 (nu.out _ oM),YY.o.2.rowR g7 (nu.out _ oM),FA.o.grown g7 FA.o.size (fun j hj=>lT oM (OA.o.lt j hj).1)⟩ (fun hS=>?_))
       clear hK K
       try simp only [pX]
       refine wpAnyT_tail _ _ rfl rfl kM ?_
       have FZ:=hS.2.2.2
       have XC:=zH (XX.o.1.rowR g7 (nu.out _ oM))
       have XD:=zH (XX.o.2.1.rowR g7 (nu.out _ oM))
       have XA:=zH hS.2.1
       have XB:=zH hS.2.2.1
       have NU:=zH (show u'.ownBlock=none ∨ u'.ownBlock ≠ some w3.heap.size by
        cases hu:u'.ownBlock with
        | none=>exact .inl rfl
        | some m=>right;intro e;have:=(own7.lt m hu).1;have:=sI e;omega)
       obtain ⟨A7,c7,rfl,-⟩:=own7.sl (S':=fun _=>True) dM (fun _ _ _=>trivial) (fun _ _=>trivial)
       clear hS hb nu at7
       go_wp2_with (refine wpList_store_one rfl 38 (.tmp 58) (.tmp 57) rfl w3.heap.size 3 (.slice A7 (k+1) c7) rfl rfl rfl rfl _ #[.int .i64 (Ho:Int),.int .i64 (Wo:Int),.int .i64 (C:Int),u] (tN (Ho:Int) (Wo:Int) (C:Int) A7 (k+1) c7) B7.o sM kM rfl ?_;intro w8 B8 g8)
       have F8:=(show Far w w7 from ⟨FZ⟩).away g8 oM
       have O8:=own7.flat g8 (by rcases NU.o with e|e;exact .inl e;exact .inr e) (fun _ h=>h)
       have e9:=dz (db t d Wo C) k
       rw [FK.o] at e9
       rw [e9] at O8
       exact ⟨⟨o+1,by omega,by go_num,F8,XA.o.away g8 (.inl oM),XB.o.away g8 (.inl oM),XC.o.away g8 (.inl oM),XD.o.away g8 (.inl oM),_,B8,by rw [show (h*Wo+x)*C+(o+1)=k+1 by rw [← HK.o];rfl];exact O8⟩,by simp [intOf];omega⟩
      ·obtain rfl:o=C:=oM
       go_wp2
       exact ⟨⟨x+1,by omega,by go_num,FR.o,BA.o,BB.o,BC.o,BD.o,_,BG.o,by rw [show (h*Wo+(x+1))*o+0=(h*Wo+x)*o+o by rw [Nat.add_zero,show h*Wo+(x+1)=(h*Wo+x)+1 from rfl,Nat.succ_mul]];exact ON.o⟩,by simp [intOf];omega⟩
    ·obtain rfl:x=Wo:=oM
     go_wp2
     exact ⟨⟨h+1,by omega,by go_num,FR.o,BA.o,BB.o,BC.o,BD.o,_,BG.o,by rw [show ((h+1)*x+0)*C+0=(h*x+x)*C+0 by rw [Nat.add_zero ((h+1)*x),Nat.succ_mul]];exact ON.o⟩,by simp [intOf];omega⟩
  ·obtain rfl:h=Ho:=oM
   obtain ⟨A9,c9,rfl,-⟩:=ON.o.sl (S':=fun _=>True) dM (fun _ _ _=>trivial) (fun _ _=>trivial)
   have en:(h*Wo+0)*C+0=N:=by rw [Nat.add_zero,Nat.add_zero];exact NE.o
   rw [en] at ON BG
   have d0':=d0
   clear NE
   go_wp2_with (first|(refine lGJ19 BG.o ?_)|(refine sB 80 (.tmp 4) (.tmp 59) (w.heap.size+1+1) (tN (h:Int) (Wo:Int) (C:Int) A9 N c9) BC.o ?_;intro w9 B9 g9))
   have e2:=ON.o.flat g9 (by
    cases hu:(Value.slice A9 N c9).ownBlock with
    | none=>exact .inl rfl
    | some m=>right;intro e;have:=(ON.o.lt m hu).1;have:=sI e;omega) (fun _ h=>h)
   refine rG B9 ?_
   have FE:=FR.o.away g9 oM
   obtain ⟨A2,c2,hv,s⟩:=e2.sl (S':=bin w.heap.size _) dM (fun b h1 h2=>⟨by omega,h2⟩) (fun b h=>h.elim)
   injection hv with hv1 hv2 hv3
   subst hv1 hv3
   exact ⟨_,_,_,rfl,s,FE.out⟩
end Go.Proofs.YtmihnoagagbgaaaGreat
