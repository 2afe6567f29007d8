/-
  Sums of convolutions (layer 10, the document): the walk of Of where all is right.
  What a node's kind tells (layer 25): kinds.Plain, some of the kinds.
  slices.Clone at []int; rows of numbers that are alike (layer 22's Same).
-/
import Derived.Test.YtjkmjpjknmghlaaGreatJ18
import Derived.Test.YtjkmjpjknmghlaaGreatJ21
import Derived.Test.YtjkmjpjknmghlaaGreatJ26
set_option linter.unusedVariables false
set_option linter.unusedSimpArgs false
namespace Go.Proofs.YtjkmjpjknmghlaaGreat
open Go.RowKit Go.ChangeShapes Go.WideShapes
set_option maxRecDepth 100000
set_option maxHeartbeats 8000000 in
theorem rconvOf_good (t:Tensor) (A:Option Addr) (n cap:Nat) (d:Node) (W:Option Addr) (nw cw:Nat) (B:Option Addr) (nb cb:Nat) (w:World) (ht:TensorIn t) (hd:NodeIn d)
  (ha:Sl (tInt .i8) w (blo w.heap.size) A n cap t.data) (hw:Sl (tInt .i8) w (blo w.heap.size) W nw cw d.w) (hb:Sl (tInt .i32) w (blo w.heap.size) B nb cb d.bias) (mw:nw≤2000∧nb≤200) (c1:t.ok=true) (c2:(convV t.h t.v t.c d).2=0) :
  Calls Tryz.prog 64 #[.agg (tN t.h t.v t.c A n cap),.agg (nN d.kind d.a d.b d.k d.s d.p d.out d.za d.zb W nw cw B nb cb d.qm d.qs d.qz d.rm d.rs d.rz d.lo d.hi)] w (RetT .i32 (convOf t d).1 (convOf t d).2 w):=by
 have HT:=zH ht
 have HD:=zH hd
 have HA:=zH ha
 have HW:=zH hw
 have HB:=zH hb
 have m1:n≤9223372036854775807:=Nat.le_trans ha.cap_le ha.max_le
 have m2:nw≤9223372036854775807:=Nat.le_trans hw.cap_le hw.max_le
 have m3:nb≤9223372036854775807:=Nat.le_trans hb.cap_le hb.max_le
 clear ht hd ha hw hb
 have SZ:=zH (show nw≤1048576∧nb≤1048576 by omega)
 obtain ⟨H,V,C,K,S,P,Ho,Wo,Co,TK,WK,hx,lw,lb,hdo,el,ev⟩:=conv_nat c1 c2
 rw [ev]
 have HX:=zH hx
 have TK:=zH TK
 have WK:=zH WK
 have EN:=zH (show n=H*V*C by have:=TK.out.n_eq;rw [HA.out.n_eq] at this;exact this)
 have LW:=zH (show nw=Co*K*K*C by rw [← HW.out.n_eq];exact lw)
 have LB:=zH (show nb=Co by rw [← HB.out.n_eq];exact lb)
 have hN:=WK.out.no
 obtain ⟨N,hNe⟩:∃ N,Ho*Wo*Co=N:=⟨_,rfl⟩
 rw [hNe] at hN
 have NE:=zH hNe
 rw [hNe]
 have DS:=zH (fun (y x o:Nat) (hy:y≤1000) (hx:x≤1000) (ho:o < Co) (wq:World) (ha:Sl (tInt .i8) wq (blo wq.heap.size) A n cap t.data) (hw:Sl (tInt .i8) wq (blo wq.heap.size) W nw cw d.w) (hb:Sl (tInt .i32) wq (blo wq.heap.size) B nb cb d.bias) =>
  rconvSum_any H V C A n cap t.data d W nw cw B nb cb K S P y x o Co wq ha hw hb EN.out (by have:=TK.out.n_le;have:=HA.out.n_eq;omega) TK.out.h1 TK.out.v1 TK.out.c1 (tok_elems TK.out) WK.out.k WK.out.s WK.out.p WK.out.k1 WK.out.s1 WK.out.p1.1 HD.out.za hy hx ho WK.out.co1.2 (by rw [LB.out];exact ho) LW.out (by omega))
 rw [← TK.out.h,← TK.out.v,← TK.out.c] at DS
 have FV:=zH (show ∀ h x o,x < Wo → o < Co → convF t d Wo Co ((h*Wo+x)*Co+o)=wrap32 (d.bias.getD o 0+convN H V C t.data d.za d.w K S P o h x) from fun h x o hx ho=>by
  obtain ⟨n1,n2,n3⟩:=nest_div h x Wo Co o hx ho
  unfold convF
  rw [n1,n2,n3,TK.out.h,TK.out.v,TK.out.c,WK.out.k,WK.out.s,WK.out.p]
  simp only [Int.toNat_natCast])
 have ub1:(Ho:Int)≤16:=by have:=WK.out.ho1;omega
 have ub2:(Wo:Int)≤16:=by have:=WK.out.wo1;omega
 have ub3:(Co:Int)≤1024:=by have:=WK.out.co1;omega
 clear c2 hx el ev lw lb hNe hdo
 have c1':decide (0 < elems t.h t.v t.c∧elems t.h t.v t.c=n)=true:=by rw [← HA.out.n_eq];simpa [Tensor.ok] using c1
 have C1:=zH c1'
 clear c1 c1'
 go_enter Tryz.func64,Tryz.ntmps64
 go_wp2_with fail
 refine (rtensorRight_any t.h t.v t.c A n cap _ HT.out.h HT.out.v HT.out.c (Nat.le_trans HA.out.cap_le HA.out.max_le)).mono ?_
 rintro e w1 ⟨rfl,hb⟩
 rw [C1.out]
 have g1:=below_call (B:=w.heap.size) (a:=w) (by go_grown) hb (by simp;omega)
 have bA:=((Blk.now _ w.heap.size _ _ rfl).past _ |>.past _).later hb
 have bB:=((Blk.now _ (w.heap.size+1) _ _ (by simp)).past _).later hb
 have bC:=(Blk.now _ (w.heap.size+1+1) _ _ (by simp)).later hb
 have BA:=zH bA
 have BB:=zH bB
 have BC:=zH bC
 have cA:=fun i=>bA.cell i
 clear bA bB bC hb
 go_wp2_with (refine lB 44 (.tmp 3) (w.heap.size+1) BB.out Tryz.underlying44 ?_)
 refine (rconvShape_any t.h t.v t.c d W nw cw B nb cb _ HT.out.h HT.out.v HT.out.c HD.out.out HW.out.n_eq.symm HB.out.n_eq.symm SZ.out.1 SZ.out.2).mono ?_
 rintro e w2 ⟨rfl,hb⟩
 have g2:=below_call g1 hb g1.size
 have lt1:=BC.out.lt
 have lt2:=hb.size
 have BA:=zH (BA.out.later hb)
 have BB:=zH (BB.out.later hb)
 have BC:=zH (BC.out.later hb)
 clear hb cA
 rw [HX.out]
 simp only [retS]
 have FR:=zH (show Far w w2 from ⟨g2⟩)
 have ltA:w.heap.size+1+1 < w2.heap.size:=by omega
 obtain ⟨w3,hw_w3,BD,k_w3⟩:=nB w2 (sN (Ho:Int) (Wo:Int) (Co:Int)) 24
 replace FR:=zH (FR.out.fut k_w3)
 replace BA:=zH (BA.out.fut k_w3)
 replace BB:=zH (BB.out.fut k_w3)
 replace BC:=zH (BC.out.fut k_w3)
 clear k_w3
 have l23:w2.heap.size < w3.heap.size:=by rw [← hw_w3];simp
 have BD3:=zH BD.out
 obtain ⟨w4,hw_w4,BG,k_w4⟩:=nB w3 (tN 0 0 0 none 0 0) 78
 replace FR:=zH (FR.out.fut k_w4)
 replace BA:=zH (BA.out.fut k_w4)
 replace BB:=zH (BB.out.fut k_w4)
 replace BC:=zH (BC.out.fut k_w4)
 replace BD:=zH (BD.out.fut k_w4)
 clear k_w4
 have l34:w4.heap.size=w3.heap.size+1:=by rw [← hw_w4];simp
 go_wp2_with (first|(refine lB 24 (.tmp 6) w2.heap.size BD3.out Tryz.underlying24 ?_)|(refine sB 78 (.tmp 8) (.tmp 28) w3.heap.size (tN (Ho:Int) (Wo:Int) (Co:Int) none 0 0) BG.out ?_;intro w5 B5 g5))
 clear hw_w3 hw_w4 BD3
 replace FR:=zH (FR.out.away g5 (by omega))
 replace BA:=zH (BA.out.away g5 (.inl (by omega)))
 replace BB:=zH (BB.out.away g5 (.inl (by omega)))
 replace BC:=zH (BC.out.away g5 (.inl (by omega)))
 replace BD:=zH (BD.out.away g5 (.inl (by omega)))
 replace BG:=zH B5
 clear B5 g5
 have ON:=zH (show Own (tInt .i32) w5 (fun _=>False) w4.heap.size 21 (.slice none 0 0) ((0*Wo+0)*Co+0) ((List.range ((0*Wo+0)*Co+0)).map (convF t d Wo Co)) by rw [Nat.zero_mul,Nat.zero_add,Nat.zero_mul];exact Own.nil _ _ _ _ _)
 go_loopw [9] (fun ii wr=>∃ h:Nat,h≤Ho∧ii=.int .i64 h∧Far w wr∧Blk wr w.heap.size 27 (tN t.h t.v t.c A n cap)∧Blk wr (w.heap.size+1) 44 (nN d.kind d.a d.b d.k d.s d.p d.out d.za d.zb W nw cw B nb cb d.qm d.qs d.qz d.rm d.rs d.rz d.lo d.hi)∧Blk wr (w.heap.size+1+1) 78 (tN 0 0 0 none 0 0)∧Blk wr w2.heap.size 24 (sN (Ho:Int) (Wo:Int) (Co:Int))∧∃ u,Blk wr w3.heap.size 78 #[.int .i64 (Ho:Int),.int .i64 (Wo:Int),.int .i64 (Co:Int),u]∧Own (tInt .i32) wr (fun _=>False) w4.heap.size 21 u ((h*Wo+0)*Co+0) ((List.range ((h*Wo+0)*Co+0)).map (convF t d Wo Co))) (fun ii _=>Ho - (intOf ii).toNat)
 case atStart=>exact ⟨0,Nat.zero_le _,rfl,FR.out,BA.out,BB.out,BC.out,BD.out,_,BG.out,ON.out⟩
 case round =>
  obtain ⟨h,hh,rfl,f0,f1,f2,f3,f4,u,f5,f6⟩:=hrel
  clear FR BA BB BC BD BG ON
  have FR:=zH f0
  have BA:=zH f1
  have BB:=zH f2
  have BC:=zH f3
  have BD:=zH f4
  have BG:=zH f5
  have ON:=zH f6
  clear f0 f1 f2 f3 f4 f5 f6
  have d0:=BD.out.cell 0
  by_cases hlt:h < Ho
  ·have p1:(h:Int) < (Ho:Int):=by omega
   go_wp2_with fail
   clear d0
   go_loopw [10] (fun ii wr=>∃ x:Nat,x≤Wo∧ii=.int .i64 x∧Far w wr∧Blk wr w.heap.size 27 (tN t.h t.v t.c A n cap)∧Blk wr (w.heap.size+1) 44 (nN d.kind d.a d.b d.k d.s d.p d.out d.za d.zb W nw cw B nb cb d.qm d.qs d.qz d.rm d.rs d.rz d.lo d.hi)∧Blk wr (w.heap.size+1+1) 78 (tN 0 0 0 none 0 0)∧Blk wr w2.heap.size 24 (sN (Ho:Int) (Wo:Int) (Co:Int))∧∃ u,Blk wr w3.heap.size 78 #[.int .i64 (Ho:Int),.int .i64 (Wo:Int),.int .i64 (Co:Int),u]∧Own (tInt .i32) wr (fun _=>False) w4.heap.size 21 u ((h*Wo+x)*Co+0) ((List.range ((h*Wo+x)*Co+0)).map (convF t d Wo Co))) (fun ii _=>Wo - (intOf ii).toNat)
   case atStart=>exact ⟨0,Nat.zero_le _,rfl,FR.out,BA.out,BB.out,BC.out,BD.out,_,BG.out,ON.out⟩
   case round =>
    obtain ⟨x,hx,rfl,f0,f1,f2,f3,f4,u,f5,f6⟩:=hrel
    clear FR BA BB BC BD BG ON
    have FR:=zH f0
    have BA:=zH f1
    have BB:=zH f2
    have BC:=zH f3
    have BD:=zH f4
    have BG:=zH f5
    have ON:=zH f6
    clear f0 f1 f2 f3 f4 f5 f6
    have d1:=BD.out.cell 1
    by_cases hlx:x < Wo
    ·have p2:(x:Int) < (Wo:Int):=by omega
     go_wp2_with fail
     clear d1
     go_loopw [11] (fun ii wr=>∃ o:Nat,o≤Co∧ii=.int .i64 o∧Far w wr∧Blk wr w.heap.size 27 (tN t.h t.v t.c A n cap)∧Blk wr (w.heap.size+1) 44 (nN d.kind d.a d.b d.k d.s d.p d.out d.za d.zb W nw cw B nb cb d.qm d.qs d.qz d.rm d.rs d.rz d.lo d.hi)∧Blk wr (w.heap.size+1+1) 78 (tN 0 0 0 none 0 0)∧Blk wr w2.heap.size 24 (sN (Ho:Int) (Wo:Int) (Co:Int))∧∃ u,Blk wr w3.heap.size 78 #[.int .i64 (Ho:Int),.int .i64 (Wo:Int),.int .i64 (Co:Int),u]∧Own (tInt .i32) wr (fun _=>False) w4.heap.size 21 u ((h*Wo+x)*Co+o) ((List.range ((h*Wo+x)*Co+o)).map (convF t d Wo Co))) (fun ii _=>Co - (intOf ii).toNat)
     case atStart=>exact ⟨0,Nat.zero_le _,rfl,FR.out,BA.out,BB.out,BC.out,BD.out,_,BG.out,ON.out⟩
     case round =>
      obtain ⟨o,ho,rfl,f0,f1,f2,f3,f4,u,f5,f6⟩:=hrel
      clear FR BA BB BC BD BG ON
      have FR:=zH f0
      have BA:=zH f1
      have BB:=zH f2
      have BC:=zH f3
      have BD:=zH f4
      have BG:=zH f5
      have ON:=zH f6
      clear f0 f1 f2 f3 f4 f5 f6
      have d2:=BD.out.cell 2
      by_cases hlo:o < Co
      ·have p3:(o:Int) < (Co:Int):=by omega
       go_wp2_with fail
       clear d2
       have hlk:(h*Wo+x)*Co+o < N:=by rw [← NE.out];exact idx_lt h x o Ho Wo Co hlt hlx hlo
       have FK:=zH (FV.out h x o hlx hlo)
       obtain ⟨sv,hsv⟩:∃ m,d.bias.getD o 0+convN H V C t.data d.za d.w K S P o h x=m:=⟨_,rfl⟩
       have CALL:=zH (fun wq (hb:Below w.heap.size w wq)=>DS.out h x o (by omega) (by omega) hlo wq ((Old.now HA.out).fut hb).all ((Old.now HW.out).fut hb).all ((Old.now HB.out).fut hb).all)
       rw [hsv] at CALL FK
       obtain ⟨res,hres⟩:∃ m,wrap32 sv=m:=⟨_,rfl⟩
       have e5:IntKind.i32.wrap sv=res:=by rw [IntKind.wrap_i32,← hres];unfold wrap32;rfl
       rw [hres] at FK
       have RE:=zH (show InK .i32 res by rw [inK_i32,← hres];exact wrap32_in _)
       have fd:Below w.heap.size w wr.drew:=FR.out.out.drew
       obtain ⟨k,hk⟩:∃ m,(h*Wo+x)*Co+o=m:=⟨_,rfl⟩
       have HK:=zH hk
       rw [hk] at hlk FK ON
       have OD:=zH (show Own (tInt .i32) wr.drew (fun _=>False) w4.heap.size 21 u k ((List.range k).map (convF t d Wo Co)) from ON.out.heap rfl)
       have nu:=zH (show ∀ b,b < w4.heap.size → some b ≠ u.ownBlock from fun b hb e=>absurd (ON.out.lt b e.symm).1 (by omega))
       have z0:w4.heap.size≤wr.drew.heap.size:=by have:=BG.out.lt;show w4.heap.size≤wr.heap.size;omega
       clear hsv hres hk
       refine wp_region_T (fun w'=>w'.cell? ⟨w3.heap.size,3,none⟩=some u∧Blk w' w.heap.size 27 (tN t.h t.v t.c A n cap)∧Blk w' (w.heap.size+1) 44 (nN d.kind d.a d.b d.k d.s d.p d.out d.za d.zb W nw cw B nb cb d.qm d.qs d.qz d.rm d.rs d.rz d.lo d.hi)∧Below w.heap.size w w') 11 (by kernel_rfl) ?_ (fun hS=>?_)
       ·exact ⟨BG.out.drew.cell 3,BA.out.drew,BB.out.drew,fd⟩
       refine kT 0 rfl hS ?_
       try simp only [pX]
       refine kT 1 rfl hS ?_
       try simp only [pX]
       refine tkT 2 rfl (yieldsIf_load_blk (by rfl) 27 (.tmp 2) rfl w.heap.size 0 rfl _ _ (tN t.h t.v t.c A n cap) _ (fun w hs=>hs.2.1) Tryz.underlying27 rfl (by kernel_rfl) rfl) hS ?_
       try simp only [pX]
       refine tkT 3 rfl (yieldsIf_load_blk (by rfl) 44 (.tmp 3) rfl (w.heap.size+1) 0 rfl _ _ (nN d.kind d.a d.b d.k d.s d.p d.out d.za d.zb W nw cw B nb cb d.qm d.qs d.qz d.rm d.rs d.rz d.lo d.hi) _ (fun w hs=>hs.2.2.1) Tryz.underlying44 rfl (by kernel_rfl) rfl) hS ?_
       try simp only [pX]
       refine kT 4 rfl hS ?_
       try simp only [pX]
       refine kT 5 rfl hS ?_
       try simp only [pX]
       refine kT 6 rfl hS ?_
       try simp only [pX]
       refine wpAnyT_one (i:=7) (by kernel_rfl) rfl rfl (fun K hK=>?_)
       go_simp
       refine (CALL.out _ fd).mono ?_;rintro e wa ⟨rfl,hb⟩;have OA:=zH (OD.out.below hb (Nat.le_refl _) (fun _ h=>h.elim));have za:w4.heap.size≤wa.heap.size:=Nat.le_trans z0 hb.size;have XX:=zH (And.intro (BC.out.drew.later hb) (And.intro (BD.out.drew.later hb) (BG.out.drew.later hb)));have YY:=zH (And.intro (BA.out.drew.later hb) (BB.out.drew.later hb));have FA:=zH (below_call fd hb fd.size)
       refine hK.out _ _ ?_ (fun hS=>?_)
       ·exact ⟨(by first|exact cell_later hb hS.1|exact Blk.later hS.1 hb),(by first|exact cell_later hb hS.2.1|exact Blk.later hS.2.1 hb),(by first|exact cell_later hb hS.2.2.1|exact Blk.later hS.2.2.1 hb),(by first|exact below_later hb hS.2.2.2|exact grown_below hS.2.2.2 hb)⟩
       clear hK K
       try simp only [pX]
       refine kT 8 rfl hS ?_
       try simp only [pX]
       refine wpAnyT_one (i:=9) (by kernel_rfl) rfl rfl (fun K hK=>?_)
       go_simp
       have hb:Below wa.heap.size wa (wa.alloc (.cells #[.int .i32 res] 21)):=(Below.refl _ _).alloc (Nat.le_refl _) _
       refine hK.out _ _ ?_ (fun hS=>?_)
       ·exact ⟨(by first|exact cell_later hb hS.1|exact Blk.later hS.1 hb),(by first|exact cell_later hb hS.2.1|exact Blk.later hS.2.1 hb),(by first|exact cell_later hb hS.2.2.1|exact Blk.later hS.2.2.1 hb),(by first|exact below_later hb hS.2.2.2|exact grown_below hS.2.2.2 hb)⟩
       clear hK K
       try simp only [pX]
       refine wpAnyT_one (i:=10) (by kernel_rfl) rfl rfl (fun K hK=>?_)
       (rw [if_pos (by rfl)];refine oper_push (W:=wa) (cs:=#[.int .i32 res]) (E:=21) (t:=tInt .i32) (.tmp 48) (.tmp 56) rfl ei_i32 rfl OA.out 1 rfl res ⟨rfl,RE.out⟩ (by unfold maxLen;omega) (by omega) za (fun _ h=>h.elim) ?_;intro u' w7 own7 g7 at7;have B7:=zH (XX.out.2.2.rowR g7 (nu.out _ (by omega)));refine hK.out _ _ ⟨B7.out.cell 3,YY.out.1.rowR g7 (nu.out _ (by omega)),YY.out.2.rowR g7 (nu.out _ (by omega)),FA.out.grown g7 FA.out.size (fun j hj=>Nat.le_trans (by omega) (OA.out.lt j hj).1)⟩ (fun hS=>?_))
       clear hK K
       try simp only [pX]
       refine wpAnyT_tail _ _ rfl rfl (by kernel_rfl) ?_
       have FZ:=hS.2.2.2
       have XC:=zH (XX.out.1.rowR g7 (nu.out _ (by omega)))
       have XD:=zH (XX.out.2.1.rowR g7 (nu.out _ (by omega)))
       have XA:=zH hS.2.1
       have XB:=zH hS.2.2.1
       have NU:=zH (show u'.ownBlock=none ∨ u'.ownBlock ≠ some w3.heap.size by
        cases hu:u'.ownBlock with
        | none=>exact .inl rfl
        | some m=>right;intro e;have:=(own7.lt m hu).1;have:=Option.some.inj e;omega)
       obtain ⟨A7,c7,rfl,-⟩:=own7.sl (S':=fun _=>True) (by decide) (fun _ _ _=>trivial) (fun _ _=>trivial)
       clear hS hb nu at7
       go_wp2_with (refine wpList_store_one rfl 40 (.tmp 58) (.tmp 57) rfl w3.heap.size 3 (.slice A7 (k+1) c7) rfl rfl rfl rfl _ #[.int .i64 (Ho:Int),.int .i64 (Wo:Int),.int .i64 (Co:Int),u] (tN (Ho:Int) (Wo:Int) (Co:Int) A7 (k+1) c7) B7.out (by simp) (by kernel_rfl) rfl ?_;intro w8 B8 g8)
       have F8:=(show Far w w7 from ⟨FZ⟩).away g8 (by omega)
       have O8:=own7.flat g8 (by rcases NU.out with e|e;exact .inl e;exact .inr e) (fun _ h=>h)
       have e9:=range_snoc (convF t d Wo Co) k
       rw [FK.out] at e9
       rw [e9] at O8
       exact ⟨⟨o+1,by omega,by go_num,F8,XA.out.away g8 (.inl (by omega)),XB.out.away g8 (.inl (by omega)),XC.out.away g8 (.inl (by omega)),XD.out.away g8 (.inl (by omega)),_,B8,by rw [show (h*Wo+x)*Co+(o+1)=k+1 by rw [← HK.out];rfl];exact O8⟩,by simp [intOf];omega⟩
      ·obtain rfl:o=Co:=by omega
       go_wp2_with fail
       exact ⟨⟨x+1,by omega,by go_num,FR.out,BA.out,BB.out,BC.out,BD.out,_,BG.out,by rw [show (h*Wo+(x+1))*o+0=(h*Wo+x)*o+o by rw [Nat.add_zero,show h*Wo+(x+1)=(h*Wo+x)+1 from rfl,Nat.succ_mul]];exact ON.out⟩,by simp [intOf];omega⟩
    ·obtain rfl:x=Wo:=by omega
     go_wp2_with fail
     exact ⟨⟨h+1,by omega,by go_num,FR.out,BA.out,BB.out,BC.out,BD.out,_,BG.out,by rw [show ((h+1)*x+0)*Co+0=(h*x+x)*Co+0 by rw [Nat.add_zero ((h+1)*x),Nat.succ_mul]];exact ON.out⟩,by simp [intOf];omega⟩
  ·obtain rfl:h=Ho:=by omega
   obtain ⟨A9,c9,rfl,-⟩:=ON.out.sl (S':=fun _=>True) (by decide) (fun _ _ _=>trivial) (fun _ _=>trivial)
   have en:(h*Wo+0)*Co+0=N:=by rw [Nat.add_zero,Nat.add_zero];exact NE.out
   rw [en] at ON BG
   have d0':=d0
   clear NE
   go_wp2_with (first|(refine lB 78 (.tmp 8) w3.heap.size BG.out Tryz.underlying78 ?_)|(refine sB 78 (.tmp 4) (.tmp 59) (w.heap.size+1+1) (tN (h:Int) (Wo:Int) (Co:Int) A9 N c9) BC.out ?_;intro w9 B9 g9))
   have e2:=ON.out.flat g9 (by
    cases hu:(Value.slice A9 N c9).ownBlock with
    | none=>exact .inl rfl
    | some m=>right;intro e;have:=(ON.out.lt m hu).1;have:=Option.some.inj e;omega) (fun _ h=>h)
   refine rC B9 Tryz.underlying78 ?_
   have FE:=FR.out.away g9 (by omega)
   obtain ⟨A2,c2,hv,s⟩:=e2.sl (S':=bin w.heap.size _) (by decide) (fun b h1 h2=>⟨by omega,h2⟩) (fun b h=>h.elim)
   injection hv with hv1 hv2 hv3
   subst hv1 hv3
   exact ⟨_,_,_,rfl,s,FE.out⟩
set_option maxHeartbeats 8000000 in
theorem plain_8 (a b k s p out za zb qm qs qz rm rs rz lo hi:Int) (wl bl:List Int) (W:Option Addr) (nw cw:Nat) (B:Option Addr) (nb cb:Nat) (w:World) (hw:Sl (tInt .i8) w (blo w.heap.size) W nw cw wl) (hb:Sl (tInt .i32) w (blo w.heap.size) B nb cb bl) (mw:nw≤1048576) (mb:nb≤1048576) :
  Calls Tryz.prog 71 #[.agg (nN 8 a b k s p out za zb W nw cw B nb cb qm qs qz rm rs rz lo hi)] w (RetNode ⟨8,a,0,0,0,p,0,za,0,[],[],0,0,0,0,0,0,0,0⟩ w):=by
 have HW:=zH (Old.now hw)
 have HB:=zH (Old.now hb)
 clear hw hb
 have SC:=zH (fun w=>scaledK_any 8 w)
 rw [show scaledK 8=false from rfl] at SC
 have NM:=zH (fun w=>kname_any 8 w)
 have FR:=zH (Far.refl w)
 obtain ⟨w1,hw_w1,BN,k_w1⟩:=nB w (nN 8 a b k s p out za zb W nw cw B nb cb qm qs qz rm rs rz lo hi) 44
 replace FR:=zH (FR.out.fut k_w1)
 replace HW:=zH (HW.out.fut k_w1)
 replace HB:=zH (HB.out.fut k_w1)
 clear k_w1
 obtain ⟨w2,hw_w2,BR,k_w2⟩:=nB w1 (nN 0 0 0 0 0 0 0 0 0 none 0 0 none 0 0 0 0 0 0 0 0 0 0) 44
 replace FR:=zH (FR.out.fut k_w2)
 replace HW:=zH (HW.out.fut k_w2)
 replace HB:=zH (HB.out.fut k_w2)
 replace BN:=zH (BN.out.fut k_w2)
 clear k_w2
 have cN0:=BN.out.cell 0
 have cN1:=BN.out.cell 1
 go_enter Tryz.func71,Tryz.ntmps71
 go_wp2_with fail
 have lr0:=zH (show w.heap.size≤w1.heap.size by rw [← hw_w1];simp)
 clear hw_w1 hw_w2
 refine (NM.out _).mono ?_
 rintro e w3 ⟨rfl,hb⟩
 have tn:(nameOf 8).toList.isEmpty=false:=by rw [ByteArray.toList_eq];rfl
 clear cN0 cN1
 replace FR:=zH (FR.out.fut hb)
 replace HW:=zH (HW.out.fut hb)
 replace HB:=zH (HB.out.fut hb)
 replace BN:=zH (BN.out.fut hb)
 replace BR:=zH (BR.out.fut hb)
 clear hb
 have ln:w.heap.size < w3.heap.size:=BN.out.lt
 have lr:w1.heap.size < w3.heap.size:=BR.out.lt
 have cN0:=BN.out.cell 0
 have cN1:=BN.out.cell 1
 obtain ⟨w4,hw_w4,BM,k_w4⟩:=nB w3 (nN 0 0 0 0 0 0 0 0 0 none 0 0 none 0 0 0 0 0 0 0 0 0 0) 44
 replace FR:=zH (FR.out.fut k_w4)
 replace HW:=zH (HW.out.fut k_w4)
 replace HB:=zH (HB.out.fut k_w4)
 replace BN:=zH (BN.out.fut k_w4)
 replace BR:=zH (BR.out.fut k_w4)
 clear k_w4
 go_wp2_with (refine sB 44 (.tmp 3) (.tmp 13) w3.heap.size (nN 8 a 0 0 0 0 0 0 0 none 0 0 none 0 0 0 0 0 0 0 0 0 0) BM.out ?_;intro w5 BM5 g5;have cM0:=(BN.out.away g5 (by omega)).cell 0)
 clear hw_w4 cM0
 clear cN0 cN1
 replace FR:=zH (FR.out.away g5 (by omega))
 replace HW:=zH (HW.out.away g5 (by omega))
 replace HB:=zH (HB.out.away g5 (by omega))
 replace BN:=zH (BN.out.away g5 (by omega))
 replace BR:=zH (BR.out.away g5 (by omega))
 clear g5
 refine wp_region_held_drew (S:=fun w'=>w'.cell? ⟨w.heap.size,5,none⟩=some (.int .i64 p)∧w'.cell? ⟨w.heap.size,7,none⟩=some (.int .i8 za)∧Blk w' w.heap.size 44 (nN 8 a b k s p out za zb W nw cw B nb cb qm qs qz rm rs rz lo hi)∧Below w.heap.size w w') (by kernel_rfl) ?_ (fun hS=>?_)
 ·exact ⟨BN.out.drew.cell 5,BN.out.drew.cell 7,BN.out.drew,FR.out.out.drew⟩
 refine kH 0 rfl hS ?_
 try simp only [pX]
 refine kH 1 rfl hS ?_
 try simp only [pX]
 refine kH 2 rfl hS ?_
 try simp only [pX]
 refine kH 3 rfl hS ?_
 try simp only [pX]
 refine kH 4 rfl hS ?_
 try simp only [pX]
 refine rH 5 rfl (fun K hK=>?_)
 (rw [if_pos (by rfl)];refine oper_store_one 3 (.tmp 78) (.tmp 75) rfl w3.heap.size 5 (.int .i64 p) rfl rfl rfl rfl _ (nN 8 a 0 0 0 0 0 0 0 none 0 0 none 0 0 0 0 0 0 0 0 0 0) (nN 8 a 0 0 0 p 0 0 0 none 0 0 none 0 0 0 0 0 0 0 0 0 0) BM5.drew (by simp) (by kernel_rfl) rfl ?_;intro w6 BM6 g6;have BN6:=(hS.2.2.1).away g6 (by omega);refine hK.out _ _ ⟨BN6.cell 5,BN6.cell 7,BN6,(hS.2.2.2).grown g6 (hS.2.2.2).size (fun k h=>by have:=Option.some.inj h;omega)⟩ (fun hS=>?_))
 clear hK K
 try simp only [pX]
 refine kH 6 rfl hS ?_
 try simp only [pX]
 refine rH 7 rfl (fun K hK=>?_)
 (rw [if_pos (by rfl)];refine oper_store_one 39 (.tmp 79) (.tmp 77) rfl w3.heap.size 7 (.int .i8 za) rfl rfl rfl rfl _ (nN 8 a 0 0 0 p 0 0 0 none 0 0 none 0 0 0 0 0 0 0 0 0 0) (nN 8 a 0 0 0 p 0 za 0 none 0 0 none 0 0 0 0 0 0 0 0 0 0) BM6 (by simp) (by kernel_rfl) rfl ?_;intro w7 BM7 g7;have BN7:=(hS.2.2.1).away g7 (by omega);refine hK.out _ _ ⟨BN7.cell 5,BN7.cell 7,BN7,(hS.2.2.2).grown g7 (hS.2.2.2).size (fun k h=>by have:=Option.some.inj h;omega)⟩ (fun hS=>?_))
 clear hK K
 try simp only [pX]
 refine wpAnyH_done (by kernel_rfl) ?_ _
 replace FR:=zH (Far.mk (hS.2.2.2))
 replace BN:=zH (hS.2.2.1)
 clear hS BN6 BN7
 replace HW:=zH (HW.out.draw)
 replace HB:=zH (HB.out.draw)
 replace BR:=zH (BR.out.draw)
 replace HW:=zH (HW.out.away g6 (by omega))
 replace HB:=zH (HB.out.away g6 (by omega))
 replace BR:=zH (BR.out.away g6 (by omega))
 clear g6
 replace HW:=zH (HW.out.away g7 (by omega))
 replace HB:=zH (HB.out.away g7 (by omega))
 replace BR:=zH (BR.out.away g7 (by omega))
 clear g7
 clear BM6
 have cN0:=BN.out.cell 0
 go_wp2_with (first
  | (go_at_call 72;refine (SC.out _).mono ?_;rintro e w' ⟨rfl,rfl⟩)
  | (refine lB 44 (.tmp 3) w3.heap.size BM7 Tryz.underlying44 ?_)
  | (refine sB 44 (.tmp 2) (.tmp 95) w1.heap.size (nN 8 a 0 0 0 p 0 za 0 none 0 0 none 0 0 0 0 0 0 0 0 0 0) BR.out ?_;intro wz BZ gz))
 clear cN0
 replace FR:=zH (FR.out.away gz (by have:=lr0.out;omega))
 refine ret_cell rfl BZ rfl Tryz.underlying44 (by kernel_rfl) rfl ⟨none,0,0,none,0,0,rfl,Sl.nil _ _ _,Sl.nil _ _ _,FR.out.out⟩
set_option maxHeartbeats 8000000 in
theorem plain_9 (a b k s p out za zb qm qs qz rm rs rz lo hi:Int) (wl bl:List Int) (W:Option Addr) (nw cw:Nat) (B:Option Addr) (nb cb:Nat) (w:World) (hw:Sl (tInt .i8) w (blo w.heap.size) W nw cw wl) (hb:Sl (tInt .i32) w (blo w.heap.size) B nb cb bl) (mw:nw≤1048576) (mb:nb≤1048576) :
  Calls Tryz.prog 71 #[.agg (nN 9 a b k s p out za zb W nw cw B nb cb qm qs qz rm rs rz lo hi)] w (RetNode ⟨9,a,0,0,0,0,0,0,0,[],[],0,0,0,0,0,0,0,0⟩ w):=by
 have HW:=zH (Old.now hw)
 have HB:=zH (Old.now hb)
 clear hw hb
 have SC:=zH (fun w=>scaledK_any 9 w)
 rw [show scaledK 9=false from rfl] at SC
 have NM:=zH (fun w=>kname_any 9 w)
 have FR:=zH (Far.refl w)
 obtain ⟨w1,hw_w1,BN,k_w1⟩:=nB w (nN 9 a b k s p out za zb W nw cw B nb cb qm qs qz rm rs rz lo hi) 44
 replace FR:=zH (FR.out.fut k_w1)
 replace HW:=zH (HW.out.fut k_w1)
 replace HB:=zH (HB.out.fut k_w1)
 clear k_w1
 obtain ⟨w2,hw_w2,BR,k_w2⟩:=nB w1 (nN 0 0 0 0 0 0 0 0 0 none 0 0 none 0 0 0 0 0 0 0 0 0 0) 44
 replace FR:=zH (FR.out.fut k_w2)
 replace HW:=zH (HW.out.fut k_w2)
 replace HB:=zH (HB.out.fut k_w2)
 replace BN:=zH (BN.out.fut k_w2)
 clear k_w2
 have cN0:=BN.out.cell 0
 have cN1:=BN.out.cell 1
 go_enter Tryz.func71,Tryz.ntmps71
 go_wp2_with fail
 have lr0:=zH (show w.heap.size≤w1.heap.size by rw [← hw_w1];simp)
 clear hw_w1 hw_w2
 refine (NM.out _).mono ?_
 rintro e w3 ⟨rfl,hb⟩
 have tn:(nameOf 9).toList.isEmpty=false:=by rw [ByteArray.toList_eq];rfl
 clear cN0 cN1
 replace FR:=zH (FR.out.fut hb)
 replace HW:=zH (HW.out.fut hb)
 replace HB:=zH (HB.out.fut hb)
 replace BN:=zH (BN.out.fut hb)
 replace BR:=zH (BR.out.fut hb)
 clear hb
 have ln:w.heap.size < w3.heap.size:=BN.out.lt
 have lr:w1.heap.size < w3.heap.size:=BR.out.lt
 have cN0:=BN.out.cell 0
 have cN1:=BN.out.cell 1
 obtain ⟨w4,hw_w4,BM,k_w4⟩:=nB w3 (nN 0 0 0 0 0 0 0 0 0 none 0 0 none 0 0 0 0 0 0 0 0 0 0) 44
 replace FR:=zH (FR.out.fut k_w4)
 replace HW:=zH (HW.out.fut k_w4)
 replace HB:=zH (HB.out.fut k_w4)
 replace BN:=zH (BN.out.fut k_w4)
 replace BR:=zH (BR.out.fut k_w4)
 clear k_w4
 go_wp2_with (refine sB 44 (.tmp 3) (.tmp 13) w3.heap.size (nN 9 a 0 0 0 0 0 0 0 none 0 0 none 0 0 0 0 0 0 0 0 0 0) BM.out ?_;intro w5 BM5 g5;have cM0:=(BN.out.away g5 (by omega)).cell 0)
 clear hw_w4 cM0
 clear cN0 cN1
 replace FR:=zH (FR.out.away g5 (by omega))
 replace HW:=zH (HW.out.away g5 (by omega))
 replace HB:=zH (HB.out.away g5 (by omega))
 replace BN:=zH (BN.out.away g5 (by omega))
 replace BR:=zH (BR.out.away g5 (by omega))
 clear g5
 have cN0:=BN.out.cell 0
 go_wp2_with (first
  | (go_at_call 72;refine (SC.out _).mono ?_;rintro e w' ⟨rfl,rfl⟩)
  | (refine lB 44 (.tmp 3) w3.heap.size BM5 Tryz.underlying44 ?_)
  | (refine sB 44 (.tmp 2) (.tmp 95) w1.heap.size (nN 9 a 0 0 0 0 0 0 0 none 0 0 none 0 0 0 0 0 0 0 0 0 0) BR.out ?_;intro wz BZ gz))
 clear cN0
 replace FR:=zH (FR.out.away gz (by have:=lr0.out;omega))
 refine ret_cell rfl BZ rfl Tryz.underlying44 (by kernel_rfl) rfl ⟨none,0,0,none,0,0,rfl,Sl.nil _ _ _,Sl.nil _ _ _,FR.out.out⟩
theorem samei_eq (A A':Option Addr) (n cap n' cap':Nat) (l:List Int) (w:World) (h:Sl (tInt .i64) w (blo w.heap.size) A n cap l) (h':Sl (tInt .i64) w (blo w.heap.size) A' n' cap' l) :
  Calls Tryz.prog 11 #[.slice A n cap,.slice A' n' cap'] w fun e w'=>e=.returned (.bool true)∧Below w.heap.size w w':=by
 have hm:n≤9223372036854775807:=Nat.le_trans h.cap_le h.max_le
 obtain rfl:n=n':=h.n_eq.symm.trans h'.n_eq
 have H:=zH h
 have H':=zH h'
 clear h h'
 have d1:((n:Int) != (n:Int))=false:=by simp
 go_enter Tryz.func11,Tryz.ntmps11
 go_wp2_with fail
 go_loopw [5] (fun i wr=>∃ k:Nat,k≤n∧i=.int .i64 k∧wr.heap=w.heap∧Below w.heap.size w wr) (fun i _=>n - (intOf i).toNat)
 case atStart=>exact ⟨0,Nat.zero_le _,rfl,rfl,Below.refl _ _⟩
 case round =>
  obtain ⟨k,hk,rfl,hh,hb⟩:=hrel
  by_cases hlt:k < n
  ·obtain ⟨b,off,rfl,_,_,c0,i0⟩:=(H.out.below hb (fun _ h=>h)).int_at k hlt
   obtain ⟨b',off',rfl,_,_,c1,i1⟩:=(H'.out.below hb (fun _ h=>h)).int_at k hlt
   have HH:=zH hh
   clear hh i0 i1
   generalize hx:l.getD k 0=x at *
   have d3:(x != x)=false:=by simp
   clear hx
   go_wp2_with fail
   go_quiet (fail)
   go_wp2_with fail
   exact ⟨⟨k+1,by omega,by go_num,HH.out,below_drewN hb _⟩,by simp [intOf];omega⟩
  ·obtain rfl:k=n:=by omega
   go_wp2_with fail
   go_ret
   exact ⟨rfl,hb⟩
end Go.Proofs.YtjkmjpjknmghlaaGreat
