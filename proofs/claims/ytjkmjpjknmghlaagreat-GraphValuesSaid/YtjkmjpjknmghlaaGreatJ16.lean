/-
  Sums by rows that are slid over (layer 16): the walk of lane.line, of which lane.Of's rows are made.
  Windows as rows (layer 12): slide.wide, slide.place.
-/
import Derived.Test.YtjkmjpjknmghlaaGreatJ15
set_option linter.unusedVariables false
set_option linter.unusedSimpArgs false
namespace Go.Proofs.YtjkmjpjknmghlaaGreat
open Go.RowKit Go.ChangeShapes Go.WideShapes Fx
set_option maxRecDepth 100000
set_option maxHeartbeats 2000000
theorem lanesLine_any (H V C P:Nat) (A:Option Addr) (n cap:Nat) (l:List Int) (d:Node) (W:Option Addr) (nw cw:Nat) (B:Option Addr) (nb cb:Nat) (h o:Nat) (w:World)
  (hl:Sl (tInt .i8) w (blo w.heap.size) A n cap l) (hwl:Sl (tInt .i8) w (blo w.heap.size) W nw cw d.w) (hn:n=H*V*C) (hn2:n≤1048576) (hV:V≤1048576) (hC1:1≤C) (hC:C≤341) (hp:d.p=P) (hP:P≤4) (hz:InK .i8 d.za)
  (hh:h≤1000000) (hH:H≤1048576) (ho:o≤1024) (hnw:(o+1)*(9*C)≤nw) (hm:V+2*P≤1000000) :
  Calls Tryz.prog 134 #[.agg #[.int .i64 H,.int .i64 V,.int .i64 C,.slice A n cap,.int .i64 d.kind,.int .i64 d.a,.int .i64 d.b,.int .i64 d.k,.int .i64 d.s,.int .i64 d.p,.int .i64 d.out,.int .i8 d.za,.int .i8 d.zb,.slice W nw cw,.slice B nb cb,.int .i32 d.qm,.int .i64 d.qs,.int .i8 d.qz,.int .i32 d.rm,.int .i64 d.rs,.int .i8 d.rz,.int .i8 d.lo,.int .i8 d.hi],.int .i64 h,.int .i64 o] w (RetSl (tInt .i64) w (manyV (rowsV H V C l d.za P h) (tapsV d.w C o) (V+2*P) (3*C))):=by
 have FR:=zH (Far.refl w)
 have OL:=zH (Old.now hl)
 have OW:=zH (Old.now hwl)
 obtain ⟨w1,hw_w1,BA,k_w1⟩:=nB w #[.int .i64 H,.int .i64 V,.int .i64 C,.slice A n cap,.int .i64 d.kind,.int .i64 d.a,.int .i64 d.b,.int .i64 d.k,.int .i64 d.s,.int .i64 d.p,.int .i64 d.out,.int .i8 d.za,.int .i8 d.zb,.slice W nw cw,.slice B nb cb,.int .i32 d.qm,.int .i64 d.qs,.int .i8 d.qz,.int .i32 d.rm,.int .i64 d.rs,.int .i8 d.rz,.int .i8 d.lo,.int .i8 d.hi] 167
 replace FR:=zH (FR.out.fut k_w1)
 replace OL:=zH (OL.out.fut k_w1)
 replace OW:=zH (OW.out.fut k_w1)
 clear k_w1
 have c2:=BA.out.cell 2
 have HN:=zH hn
 have HP:=zH hp
 have HNW:=zH hnw
 have HZ:=zH hz
 have l1:w1.heap.size=w.heap.size+1:=by rw [← hw_w1];simp
 have LI:=zH (show Lists w1.heap.size ((List.range 0).map fun r:Nat=>rowV H V C l d.za P ((h+r / C:Nat) - P) (r % C)) ((List.range 0).map fun r:Nat=>tapV d.w C o (r / C) (r % C)) 0 (.slice none 0 0) (.slice none 0 0) w1 from ⟨Own.nil _ _ _ _ _,Own.nil _ _ _ _ _,.inl rfl⟩)
 clear hn hp hnw hz hl hwl
 go_enter Tryz.func134,Tryz.ntmps134
 go_wp2_with fail
 clear hw_w1 c2
 obtain ⟨g0,e0⟩:∃ m,w.heap.size=m:=⟨_,rfl⟩
 obtain ⟨g1,e1⟩:∃ m,w1.heap.size=m:=⟨_,rfl⟩
 rw [e0,e1] at l1
 rw [e0] at BA
 rw [e1] at LI
 rw [e0]
 have lwg:w.heap.size≤g1:=by omega
 go_loopw [7,8,11] (fun u v ii wr=>∃ i:Nat,i≤3∧ii=.int .i64 i∧Far w wr∧Old w (tInt .i8) wr A n cap l∧Old w (tInt .i8) wr W nw cw d.w∧Blk wr g0 167 #[.int .i64 H,.int .i64 V,.int .i64 C,.slice A n cap,.int .i64 d.kind,.int .i64 d.a,.int .i64 d.b,.int .i64 d.k,.int .i64 d.s,.int .i64 d.p,.int .i64 d.out,.int .i8 d.za,.int .i8 d.zb,.slice W nw cw,.slice B nb cb,.int .i32 d.qm,.int .i64 d.qs,.int .i8 d.qz,.int .i32 d.rm,.int .i64 d.rs,.int .i8 d.rz,.int .i8 d.lo,.int .i8 d.hi] ∧
   Lists g1 ((List.range (i*C)).map fun r:Nat=>rowV H V C l d.za P ((h+r / C:Nat) - P) (r % C)) ((List.range (i*C)).map fun r:Nat=>tapV d.w C o (r / C) (r % C)) (i*C) u v wr) (fun _ _ ii _=>3 - (intOf ii).toNat)
 case atStart=>exact ⟨0,Nat.zero_le _,rfl,FR.out,OL.out,OW.out,BA.out,by rw [Nat.zero_mul];exact LI.out⟩
 case round =>
  obtain ⟨i,hi,rfl,hf,hol,how,hba,hli⟩:=hrel
  clear FR OL OW BA LI
  have FR:=zH hf
  have OL:=zH hol
  have OW:=zH how
  have BA:=zH hba
  have LI:=zH hli
  clear hf hol how hba hli
  by_cases hlt:i < 3
  ·have p1:(i:Int) < 3:=by omega
   have c2:=BA.out.cell 2
   go_wp2_with fail
   clear c2
   go_loopw [7,8,18] (fun u v ii wr=>∃ c:Nat,c≤C∧ii=.int .i64 c∧Far w wr∧Old w (tInt .i8) wr A n cap l∧Old w (tInt .i8) wr W nw cw d.w∧Blk wr g0 167 #[.int .i64 H,.int .i64 V,.int .i64 C,.slice A n cap,.int .i64 d.kind,.int .i64 d.a,.int .i64 d.b,.int .i64 d.k,.int .i64 d.s,.int .i64 d.p,.int .i64 d.out,.int .i8 d.za,.int .i8 d.zb,.slice W nw cw,.slice B nb cb,.int .i32 d.qm,.int .i64 d.qs,.int .i8 d.qz,.int .i32 d.rm,.int .i64 d.rs,.int .i8 d.rz,.int .i8 d.lo,.int .i8 d.hi] ∧
    Lists g1 ((List.range (i*C+c)).map fun r:Nat=>rowV H V C l d.za P ((h+r / C:Nat) - P) (r % C)) ((List.range (i*C+c)).map fun r:Nat=>tapV d.w C o (r / C) (r % C)) (i*C+c) u v wr) (fun _ _ ii _=>C - (intOf ii).toNat)
   case atStart=>exact ⟨0,Nat.zero_le _,rfl,FR.out,OL.out,OW.out,BA.out,LI.out⟩
   case round =>
    obtain ⟨c,hc,rfl,hf,hol,how,hba,hli⟩:=hrel
    clear FR OL OW BA LI
    have FR:=zH hf
    have OL:=zH hol
    have OW:=zH how
    have BA:=zH hba
    have LI:=zH hli
    clear hf hol how hba hli
    by_cases hlc:c < C
    ·have p2:(c:Int) < (C:Int):=by omega
     go_wp2_with fail
     have hk2:i*C+c≤1024:=by
      have:i*C≤2*C:=Nat.mul_le_mul_right C (by omega)
      omega
     have c9:=BA.out.cell 9
     simp only [gX] at c9
     rw [HP.out] at c9
     obtain ⟨hi',hhi⟩:∃ m,h+i=m:=⟨_,rfl⟩
     have e1:IntKind.i64.wrap ((h:Int)+(i:Int))=(hi':Int):=(IntWalk.i64_in _ (by omega)).trans (by omega)
     have e2:IntKind.i64.wrap ((hi':Int) - (P:Int))=(hi':Int) - (P:Int):=IntWalk.i64_in _ (by omega)
     have kd:Below wr.heap.size wr wr.drew:=(Below.refl _ _).drew
     have FD:=zH (FR.out.fut kd)
     have OLD:=zH (OL.out.fut kd)
     have OWD:=zH (OW.out.fut kd)
     have LID:=zH (LI.out.below kd)
     have BAD:=zH (BA.out.fut kd)
     have c9d:=cell_later kd c9

     refine wp_region_held_drew (S:=fun w'=>w'.cell? ⟨g0,9,none⟩=some (.int .i64 P)∧Blk w' g0 167 #[.int .i64 H,.int .i64 V,.int .i64 C,.slice A n cap,.int .i64 d.kind,.int .i64 d.a,.int .i64 d.b,.int .i64 d.k,.int .i64 d.s,.int .i64 d.p,.int .i64 d.out,.int .i8 d.za,.int .i8 d.zb,.slice W nw cw,.slice B nb cb,.int .i32 d.qm,.int .i64 d.qs,.int .i8 d.qz,.int .i32 d.rm,.int .i64 d.rs,.int .i8 d.rz,.int .i8 d.lo,.int .i8 d.hi]∧Below w.heap.size w w') (by kernel_rfl) ?_ (fun hS=>?_)
     ·exact ⟨c9d,BAD.out,FD.out.out⟩
     refine kH 0 rfl hS ?_
     try simp only [pX]
     refine tkH 1 rfl (yieldsIf_load_blk (by rfl) 167 (.tmp 3) rfl g0 0 rfl _ _ #[.int .i64 H,.int .i64 V,.int .i64 C,.slice A n cap,.int .i64 d.kind,.int .i64 d.a,.int .i64 d.b,.int .i64 d.k,.int .i64 d.s,.int .i64 d.p,.int .i64 d.out,.int .i8 d.za,.int .i8 d.zb,.slice W nw cw,.slice B nb cb,.int .i32 d.qm,.int .i64 d.qs,.int .i8 d.qz,.int .i32 d.rm,.int .i64 d.rs,.int .i8 d.rz,.int .i8 d.lo,.int .i8 d.hi] _ (fun w hs=>hs.2.1) Tryz.underlying167 rfl (by kernel_rfl) rfl) hS ?_
     try simp only [pX]
     refine kH 2 rfl hS ?_
     try simp only [pX]
     refine kH 3 rfl hS ?_
     try simp only [pX]
     refine kH 4 rfl hS ?_
     try simp only [pX]
     refine kH 5 rfl hS ?_
     try simp only [pX]
     refine kH 6 rfl hS ?_
     try simp only [pX]
     refine kH 7 rfl hS ?_
     try simp only [pX]
     refine kH 8 rfl hS ?_
     try simp only [pX]
     refine kH 9 rfl hS ?_
     try simp only [pX]
     refine kH 13 rfl hS ?_
     try simp only [pX]
     refine tkH 14 rfl (yieldsIf_load_blk (by rfl) 167 (.tmp 3) rfl g0 0 rfl _ _ #[.int .i64 H,.int .i64 V,.int .i64 C,.slice A n cap,.int .i64 d.kind,.int .i64 d.a,.int .i64 d.b,.int .i64 d.k,.int .i64 d.s,.int .i64 d.p,.int .i64 d.out,.int .i8 d.za,.int .i8 d.zb,.slice W nw cw,.slice B nb cb,.int .i32 d.qm,.int .i64 d.qs,.int .i8 d.qz,.int .i32 d.rm,.int .i64 d.rs,.int .i8 d.rz,.int .i8 d.lo,.int .i8 d.hi] _ (fun w hs=>hs.2.1) Tryz.underlying167 rfl (by kernel_rfl) rfl) hS ?_
     try simp only [pX]
     refine kH 15 rfl hS ?_
     try simp only [pX]
     refine kH 16 rfl hS ?_
     try simp only [pX]
     refine kH 17 rfl hS ?_
     try simp only [pX]
     refine rH 10 rfl (fun K hK=>?_)
     go_simp
     (refine (row_any H V C P A n cap l d W nw cw B nb cb _ c _ OLD.out.all HN.out hn2 hV (by omega) HP.out hP HZ.out hlc (by omega) (by omega) hH).mono ?_;rintro e w3 ⟨RA,rn,rc,rfl,rs,hb⟩;have F3:=zH (FD.out.fut hb);have LI3:=zH (LID.out.below hb);have BK3:=zH (BAD.out.fut hb);have k9:=cell_later hb c9d;have OL3:=zH (OLD.out.fut hb);have OW3:=zH (OWD.out.fut hb);have lg3:g1≤w3.heap.size:=(by have:=BK3.out.lt;omega);have RS:=zH (rs.more (S':=rowsAt g1 u7 u8 w3) (fun b hb'=>⟨by have:=BAD.out.lt;have:=hb'.1;omega,hb'.2,fun e=>absurd (LID.out.rows.lt b e.symm).2 (Nat.not_lt.2 hb'.1),fun e=>absurd (LID.out.taps.lt b e.symm).2 (Nat.not_lt.2 hb'.1)⟩));have nu:=zH (show some g0 ≠ u7.ownBlock from fun e=>absurd (LI3.out.rows.lt g0 e.symm).1 (by omega));have nv:=zH (show some g0 ≠ u8.ownBlock from fun e=>absurd (LI3.out.taps.lt g0 e.symm).1 (by omega)))
     refine hK.out _ _ ?_ (fun hS=>?_)
     ·exact ⟨(by first|exact cell_later hb hS.1|exact Blk.later hS.1 hb),(by first|exact cell_later hb hS.2.1|exact Blk.later hS.2.1 hb),below_later hb hS.2.2⟩
     clear hK K
     try simp only [pX]
     refine rH 11 rfl (fun K hK=>?_)
     go_simp
     have hb2:Below w3.heap.size w3 (w3.alloc (.cells #[.slice RA rn rc] 170)):=(Below.refl _ _).alloc (Nat.le_refl _) _;have hb:Below w3.heap.size w3 (w3.alloc (.cells #[.slice RA rn rc] 170)):=hb2
     refine hK.out _ _ ?_ (fun hS=>?_)
     ·exact ⟨(by first|exact cell_later hb hS.1|exact Blk.later hS.1 hb),(by first|exact cell_later hb hS.2.1|exact Blk.later hS.2.1 hb),below_later hb hS.2.2⟩
     clear hK K
     try simp only [pX]
     refine rH 12 rfl (fun K hK=>?_)
     (rw [if_pos (by rfl)];refine oper_push (W:=w3) (cs:=#[.slice RA rn rc]) (E:=170) (t:=tSlice (tInt .i16)) (.tmp 21) (.tmp 32) rfl ei_rows16 rfl LI3.out.rows 1 rfl (rowV H V C l d.za P ((hi':Int) - P) c) RS.out.rep (by unfold maxLen;omega) (by omega) lg3 (fun b hb=>⟨hb.2.1,hb.2.2.1⟩) ?_;intro u4 w4 own1 gr1 at1;refine hK.out _ _ ⟨cell_grown gr1 k9 nu.out,BK3.out.row' gr1 nu.out,F3.out.out.grown gr1 F3.out.size (fun k h=>Nat.le_trans lwg (LI3.out.rows.lt k h).1)⟩ (fun hS=>?_);have R3:=LI3.out.row own1 gr1 at1;have O1:=zH R3.1;have O2:=zH R3.2.1;have N1:=zH R3.2.2;have F4:=zH (show Far w w4 from ⟨hS.2.2⟩);have OL4:=zH (OL3.out.row gr1 (fun k h=>Nat.le_trans lwg (LI3.out.rows.lt k h).1));have OW4:=zH (OW3.out.row gr1 (fun k h=>Nat.le_trans lwg (LI3.out.rows.lt k h).1));clear R3 own1 gr1 at1 hb hb2)
     clear hK K
     try simp only [pX]
     refine rH 18 rfl (fun K hK=>?_)
     go_simp
     (refine (tap_any H V C A n cap d W nw cw B nb cb o i c _ OW4.out.all (by omega) ho hlt hlc HNW.out).mono ?_;rintro e w5 ⟨rfl,hb⟩;have F5:=zH (F4.out.fut hb);have OL5:=zH (OL4.out.fut hb);have OW5:=zH (OW4.out.fut hb);have P1:=zH ((O1.out.below hb (Nat.le_refl _) (fun b hb=>hb.2.1)).more (S':=rowsAt g1 u4 u8 w5) fun b ⟨h1,h2,h3⟩=>⟨h1,Nat.lt_of_lt_of_le h2 hb.size,h3⟩);have P2:=zH (O2.out.below hb (Nat.le_refl _) (fun _ h=>h.elim));have lg5:g1≤w5.heap.size:=(by have:=hS.2.1.lt;have:=hb.size;omega))
     refine hK.out _ _ ?_ (fun hS=>?_)
     ·exact ⟨(by first|exact cell_later hb hS.1|exact Blk.later hS.1 hb),(by first|exact cell_later hb hS.2.1|exact Blk.later hS.2.1 hb),below_later hb hS.2.2⟩
     clear hK K
     try simp only [pX]
     refine rH 19 rfl (fun K hK=>?_)
     (rw [if_pos (by rfl)];have S5:=zH hS;refine oper_lit1 (.tmp 39) rfl ei_taps (i3 .i8 (fun j=>d.w.getD (((o*3+i)*3+j)*C+c) 0)) rfl rfl (by decide) ?_;have kb:Below w5.heap.size w5 (w5.alloc (.cells (i3 .i8 (fun j=>d.w.getD (((o*3+i)*3+j)*C+c) 0)) 183)):=(Below.refl _ _).alloc (Nat.le_refl _) _;refine hK.out _ _ ⟨cell_later kb hS.1,hS.2.1.later kb,below_later kb hS.2.2⟩ (fun hS=>?_);clear kb)
     clear hK K
     try simp only [pX]
     refine rH 20 rfl (fun K hK=>?_)
     (rw [if_pos (by rfl)];refine oper_push (W:=w5) (cs:=i3 .i8 (fun j=>d.w.getD (((o*3+i)*3+j)*C+c) 0)) (E:=183) (t:=tW3) (.tmp 34) (.tmp 40) rfl ei_taps rfl P2.out 1 rfl (tapV d.w C o i c) ⟨rfl,OW5.out.out.allK _,OW5.out.out.allK _,OW5.out.out.allK _⟩ (by unfold maxLen;omega) (by omega) lg5 (fun _ h=>h.elim) ?_;intro u6 w6 own2 gr2 at2;refine hK.out _ _ ⟨cell_grown gr2 S5.out.1 nv.out,S5.out.2.1.row' gr2 nv.out,S5.out.2.2.grown gr2 F5.out.size (fun k h=>Nat.le_trans lwg (P2.out.lt k h).1)⟩ (fun hS=>?_);have L6:=zH (Lists.tap P1.out P2.out N1.out own2 gr2 at2);have F6:=zH (show Far w w6 from ⟨hS.2.2⟩);have BK6:=zH hS.2.1;have OL6:=zH (OL5.out.row gr2 (fun k h=>Nat.le_trans lwg (P2.out.lt k h).1));have OW6:=zH (OW5.out.row gr2 (fun k h=>Nat.le_trans lwg (P2.out.lt k h).1));clear own2 gr2 at2)
     clear hK K
     try simp only [pX]
     refine kH 21 rfl hS ?_
     try simp only [pX]
     refine kH 22 rfl hS ?_
     try simp only [pX]
     refine wpAnyH_done (by kernel_rfl) ?_ _
     go_wp2_with fail
     refine ⟨⟨c+1,by omega,by go_num,F6.out,OL6.out,OW6.out,BK6.out,?_⟩,by simp [intOf];omega⟩
     have e3:=rowsV_snoc (fun r:Nat=>rowV H V C l d.za P ((h+r / C:Nat) - P) (r % C)) (i*C+c)
     have e4:=rowsV_snoc (fun r:Nat=>tapV d.w C o (r / C) (r % C)) (i*C+c)
     obtain ⟨dv,md⟩:=row_div i c C hlc
     rw [dv,md,hhi] at e3
     rw [dv,md] at e4
     have:=L6.out
     rw [e3,e4] at this
     exact this
    ·obtain rfl:c=C:=by omega
     go_wp2_with fail
     exact ⟨⟨i+1,by omega,by go_num,FR.out,OL.out,OW.out,BA.out,by rw [Nat.succ_mul];exact LI.out⟩,by simp [intOf];omega⟩
  ·obtain rfl:i=3:=by omega
   go_wp2_with fail
   have LS:=LI.out
   obtain ⟨A1,k1,rfl,s1⟩:=LS.rows.sl (S':=blo wr.heap.size) (by decide) (fun b _ h=>h) (fun b h=>h.2.1)
   obtain ⟨A2,k2,rfl,s2⟩:=LS.taps.sl (S':=blo wr.heap.size) (by decide) (fun b _ h=>h) (fun b h=>h.elim)
   refine (many_any A1 (3*C) k1 _ A2 k2 _ (V+2*P) wr s1 s2 (by omega) (by omega) (fun j hj=>?_) hm).mono ?_
   ·rw [getD_range _ _ _ _ hj];simp [rowV]
   rintro e w3 ⟨RA,rn,rc,rfl,rs,hb⟩
   go_wp2_with fail
   go_ret
   exact ⟨RA,rn,rc,rfl,rs.more (bin_more FR.out.size (Nat.le_refl _)),(FR.out.fut hb).out⟩
end Go.Proofs.YtjkmjpjknmghlaaGreat
namespace Go.Proofs.YtjkmjpjknmghlaaGreat
open Go.RowKit Go.ChangeShapes Go.WideShapes Fx
set_option maxRecDepth 100000
set_option maxHeartbeats 4000000
theorem wide_any (H V C:Nat) (d:Node) (W:Option Addr) (nw cw:Nat) (B:Option Addr) (nb cb:Nat) (Ho Wo mo:Nat) (K:Nat) (w:World) (hk:d.k=K) (k1:K≤5) (hC:C≤1024) :
  Calls Tryz.prog 146 #[.agg #[.int .i64 H,.int .i64 V,.int .i64 C,.int .i64 d.kind,.int .i64 d.a,.int .i64 d.b,.int .i64 d.k,.int .i64 d.s,.int .i64 d.p,.int .i64 d.out,.int .i8 d.za,.int .i8 d.zb,.slice W nw cw,.slice B nb cb,.int .i32 d.qm,.int .i64 d.qs,.int .i8 d.qz,.int .i32 d.rm,.int .i64 d.rs,.int .i8 d.rz,.int .i8 d.lo,.int .i8 d.hi,.int .i64 Ho,.int .i64 Wo,.int .i64 mo]] w fun e w'=>e=.returned (.int .i64 ((K*K*C:Nat):Int))∧Below w.heap.size w w':=by
 have FR:=zH (Far.refl w)
 obtain ⟨w1,hw_w1,BS,k_w1⟩:=nB w #[.int .i64 H,.int .i64 V,.int .i64 C,.int .i64 d.kind,.int .i64 d.a,.int .i64 d.b,.int .i64 d.k,.int .i64 d.s,.int .i64 d.p,.int .i64 d.out,.int .i8 d.za,.int .i8 d.zb,.slice W nw cw,.slice B nb cb,.int .i32 d.qm,.int .i64 d.qs,.int .i8 d.qz,.int .i32 d.rm,.int .i64 d.rs,.int .i8 d.rz,.int .i8 d.lo,.int .i8 d.hi,.int .i64 Ho,.int .i64 Wo,.int .i64 mo] 187
 replace FR:=zH (FR.out.fut k_w1)
 clear k_w1
 have c2:=BS.out.cell 2
 have c6:=BS.out.cell 6
 simp only [gX] at c2 c6
 rw [hk] at c6
 obtain ⟨q1,e1⟩:∃ m,K*K=m:=⟨_,rfl⟩
 have j1:(K:Int)*(K:Int)=(q1:Int):=by rw [← e1];simp
 have b1:q1≤25:=by rw [← e1];exact Nat.mul_le_mul k1 k1
 rw [e1]
 obtain ⟨q2,e2⟩:∃ m,q1*C=m:=⟨_,rfl⟩
 have j2:(q1:Int)*(C:Int)=(q2:Int):=by rw [← e2];simp
 have b2:q2≤25*1024:=by rw [← e2];exact Nat.mul_le_mul b1 hC
 rw [e2]
 clear e1 e2 hk
 go_enter Tryz.func146,Tryz.ntmps146
 go_wp2_with fail
 go_ret
 exact ⟨rfl,FR.out.out⟩
theorem place_any (H V C:Nat) (d:Node) (W:Option Addr) (nw cw:Nat) (B:Option Addr) (nb cb:Nat) (Ho Wo mo:Nat) (K S P i k:Nat) (w:World) (hk:d.k=K) (hs:d.s=S) (hp:d.p=P) (k1:1≤K∧K≤5) (s1:S≤4) (p1:P≤4)
  (h1:1≤H∧H≤16) (v1:1≤V∧V≤16) (c1:1≤C∧C≤1024) (he:decide (0 < elems H V C)=true) (w1':1≤Wo∧Wo≤16) (hi:i≤1024) (hkk:k≤25600) :
  Calls Tryz.prog 148 #[.agg #[.int .i64 H,.int .i64 V,.int .i64 C,.int .i64 d.kind,.int .i64 d.a,.int .i64 d.b,.int .i64 d.k,.int .i64 d.s,.int .i64 d.p,.int .i64 d.out,.int .i8 d.za,.int .i8 d.zb,.slice W nw cw,.slice B nb cb,.int .i32 d.qm,.int .i64 d.qs,.int .i8 d.qz,.int .i32 d.rm,.int .i64 d.rs,.int .i8 d.rz,.int .i8 d.lo,.int .i8 d.hi,.int .i64 Ho,.int .i64 Wo,.int .i64 mo],.int .i64 i,.int .i64 k] w fun e w' =>
   e=.returned (.tuple #[.int .i64 (if inside H V ((i / Wo*S+k / C / K:Nat) - (P:Int)) ((i % Wo*S+k / C % K:Nat) - (P:Int)) then (placeV V C ((i / Wo*S+k / C / K:Nat) - (P:Int)) ((i % Wo*S+k / C % K:Nat) - (P:Int)) (k % C):Int) else 0),.bool (decide (inside H V ((i / Wo*S+k / C / K:Nat) - (P:Int)) ((i % Wo*S+k / C % K:Nat) - (P:Int))))])∧Below w.heap.size w w':=by
 have FR:=zH (Far.refl w)
 obtain ⟨w1,hw_w1,BS,k_w1⟩:=nB w #[.int .i64 H,.int .i64 V,.int .i64 C,.int .i64 d.kind,.int .i64 d.a,.int .i64 d.b,.int .i64 d.k,.int .i64 d.s,.int .i64 d.p,.int .i64 d.out,.int .i8 d.za,.int .i8 d.zb,.slice W nw cw,.slice B nb cb,.int .i32 d.qm,.int .i64 d.qs,.int .i8 d.qz,.int .i32 d.rm,.int .i64 d.rs,.int .i8 d.rz,.int .i8 d.lo,.int .i8 d.hi,.int .i64 Ho,.int .i64 Wo,.int .i64 mo] 187
 replace FR:=zH (FR.out.fut k_w1)
 clear k_w1
 have HK:=zH hk
 have HS:=zH hs
 have HP:=zH hp
 obtain ⟨kc,hkc⟩:∃ m,k % C=m:=⟨_,rfl⟩
 obtain ⟨ka,hka⟩:∃ m,k / C=m:=⟨_,rfl⟩
 obtain ⟨iy,hiy⟩:∃ m,i / Wo=m:=⟨_,rfl⟩
 obtain ⟨ix,hix⟩:∃ m,i % Wo=m:=⟨_,rfl⟩
 have kcl:kc < C:=by rw [← hkc];exact Nat.mod_lt _ (by omega)
 have kab:ka≤25600:=by rw [← hka];exact Nat.le_trans (Nat.div_le_self _ _) hkk
 have iyb:iy≤1024:=by rw [← hiy];exact Nat.le_trans (Nat.div_le_self _ _) hi
 have ixb:ix≤16:=by rw [← hix];exact Nat.le_trans (Nat.le_of_lt (Nat.mod_lt _ (by omega))) w1'.2
 rw [hkc,hka,hiy,hix]
 obtain ⟨ay,hay⟩:∃ m,ka / K=m:=⟨_,rfl⟩
 obtain ⟨ax,hax⟩:∃ m,ka % K=m:=⟨_,rfl⟩
 have ayb:ay≤25600:=by rw [← hay];exact Nat.le_trans (Nat.div_le_self _ _) kab
 have axb:ax≤5:=by rw [← hax];exact Nat.le_trans (Nat.le_of_lt (Nat.mod_lt _ (by omega))) k1.2
 rw [hay,hax]
 obtain ⟨ys,hys⟩:∃ m,iy*S=m:=⟨_,rfl⟩
 obtain ⟨xs,hxs⟩:∃ m,ix*S=m:=⟨_,rfl⟩
 have ysb:ys≤4096:=by rw [← hys];exact Nat.mul_le_mul iyb s1
 have xsb:xs≤64:=by rw [← hxs];exact Nat.mul_le_mul ixb s1
 have ysi:(iy:Int)*(S:Int)=(ys:Int):=by rw [← hys];simp
 have xsi:(ix:Int)*(S:Int)=(xs:Int):=by rw [← hxs];simp
 rw [hys,hxs]
 obtain ⟨yy,hyy⟩:∃ m:Int,((ys+ay:Nat):Int) - (P:Int)=m:=⟨_,rfl⟩
 obtain ⟨xx,hxx⟩:∃ m:Int,((xs+ax:Nat):Int) - (P:Int)=m:=⟨_,rfl⟩
 rw [hyy,hxx]
 have d1:(k:Int).tmod (C:Int)=(kc:Int):=by rw [← hkc,Int.tmod_eq_emod_of_nonneg (by omega)];simp
 have d2:(k:Int).tdiv (C:Int)=(ka:Int):=by rw [← hka,Int.tdiv_eq_ediv_of_nonneg (by omega)];simp
 have d3:(i:Int).tdiv (Wo:Int)=(iy:Int):=by rw [← hiy,Int.tdiv_eq_ediv_of_nonneg (by omega)];simp
 have d4:(i:Int).tmod (Wo:Int)=(ix:Int):=by rw [← hix,Int.tmod_eq_emod_of_nonneg (by omega)];simp
 have d5:(ka:Int).tdiv (K:Int)=(ay:Int):=by rw [← hay,Int.tdiv_eq_ediv_of_nonneg (by omega)];simp
 have d6:(ka:Int).tmod (K:Int)=(ax:Int):=by rw [← hax,Int.tmod_eq_emod_of_nonneg (by omega)];simp
 have z1:¬ C=0:=by omega
 have z2:¬ Wo=0:=by omega
 have z3:¬ K=0:=by omega
 have g1:IntKind.i64.wrap (kc:Int)=(kc:Int):=IntWalk.i64_in _ (by omega)
 have g2:IntKind.i64.wrap (ka:Int)=(ka:Int):=IntWalk.i64_in _ (by omega)
 have g3:IntKind.i64.wrap (iy:Int)=(iy:Int):=IntWalk.i64_in _ (by omega)
 have g4:IntKind.i64.wrap (ix:Int)=(ix:Int):=IntWalk.i64_in _ (by omega)
 have g5:IntKind.i64.wrap (ay:Int)=(ay:Int):=IntWalk.i64_in _ (by omega)
 have g6:IntKind.i64.wrap (ax:Int)=(ax:Int):=IntWalk.i64_in _ (by omega)
 have g7:IntKind.i64.wrap ((iy:Int)*(S:Int))=(ys:Int):=by rw [ysi];exact IntWalk.i64_in _ (by omega)
 have g8:IntKind.i64.wrap ((ix:Int)*(S:Int))=(xs:Int):=by rw [xsi];exact IntWalk.i64_in _ (by omega)
 have g9:IntKind.i64.wrap ((ys:Int)+(ay:Int))=(ys:Int)+(ay:Int):=IntWalk.i64_in _ (by omega)
 have g10:IntKind.i64.wrap ((xs:Int)+(ax:Int))=(xs:Int)+(ax:Int):=IntWalk.i64_in _ (by omega)
 have g11:IntKind.i64.wrap ((ys:Int)+(ay:Int) - (P:Int))=yy:=(IntWalk.i64_in _ (by omega)).trans (by rw [← hyy];simp)
 have g12:IntKind.i64.wrap ((xs:Int)+(ax:Int) - (P:Int))=xx:=(IntWalk.i64_in _ (by omega)).trans (by rw [← hxx];simp)
 have IX:=zH (fun wq=>shapeIndex_any H V C yy xx kc wq h1 v1 c1 he kcl)
 obtain ⟨ri,hri⟩:∃ r:Int,(if inside H V yy xx then (placeV V C yy xx kc:Int) else 0)=r:=⟨_,rfl⟩
 obtain ⟨rb,hrb⟩:∃ r,decide (inside H V yy xx)=r:=⟨_,rfl⟩
 rw [hri,hrb] at IX ⊢
 clear hri hrb hkc hka hiy hix hay hax hys hxs ysi xsi hyy hxx hk hs hp he
 have c2:=BS.out.cell 2
 simp only [gX] at c2
 go_enter Tryz.func148,Tryz.ntmps148
 go_wp2_with fail
 go_quiet (fail)
 obtain ⟨wa2,hwa⟩:∃ m,w1.drewN nq=m:=⟨_,rfl⟩
 have kd:Below w1.heap.size w1 wa2:=by rw [← hwa];exact below_drewN (Below.refl _ _) _
 replace FR:=zH (FR.out.fut kd)
 replace BS:=zH (BS.out.fut kd)
 clear c2 hw_w1
 have c6:=BS.out.cell 6
 have c7:=BS.out.cell 7
 have c8:=BS.out.cell 8
 have c23:=BS.out.cell 23
 simp only [gX] at c6 c7 c8 c23
 rw [HK.out] at c6
 rw [HS.out] at c7
 rw [HP.out] at c8
 rw [hwa]
 clear kd hwa
 go_wp2_with fail
 go_quiet (fail)
 obtain ⟨wa3,hwa⟩:∃ m,wa2.drewN nq=m:=⟨_,rfl⟩
 have kd:Below wa2.heap.size wa2 wa3:=by rw [← hwa];exact below_drewN (Below.refl _ _) _
 replace FR:=zH (FR.out.fut kd)
 replace BS:=zH (BS.out.fut kd)
 clear c6 c7 c8 c23
 have c6:=BS.out.cell 6
 have c7:=BS.out.cell 7
 have c8:=BS.out.cell 8
 have c23:=BS.out.cell 23
 simp only [gX] at c6 c7 c8 c23
 rw [HK.out] at c6
 rw [HS.out] at c7
 rw [HP.out] at c8
 rw [hwa]
 clear kd hwa
 go_wp2_with fail
 go_quiet (fail)
 obtain ⟨wa4,hwa⟩:∃ m,wa3.drewN nq=m:=⟨_,rfl⟩
 have kd:Below wa3.heap.size wa3 wa4:=by rw [← hwa];exact below_drewN (Below.refl _ _) _
 replace FR:=zH (FR.out.fut kd)
 replace BS:=zH (BS.out.fut kd)
 rw [hwa]
 clear kd hwa c6 c7 c8 c23
 go_wp2_with (first|(refine wpList_load_blk rfl 24 (.tmp 60) rfl w.heap.size 0 rfl _ #[.int .i64 H,.int .i64 V,.int .i64 C,.int .i64 d.kind,.int .i64 d.a,.int .i64 d.b,.int .i64 d.k,.int .i64 d.s,.int .i64 d.p,.int .i64 d.out,.int .i8 d.za,.int .i8 d.zb,.slice W nw cw,.slice B nb cb,.int .i32 d.qm,.int .i64 d.qs,.int .i8 d.qz,.int .i32 d.rm,.int .i64 d.rs,.int .i8 d.rz,.int .i8 d.lo,.int .i8 d.hi,.int .i64 Ho,.int .i64 Wo,.int .i64 mo] (sN H V C) _ BS.out Tryz.underlying24 rfl (by kernel_rfl) rfl ?_)|(go_at_call 129;refine (IX.out _).mono ?_;rintro e w5 ⟨rfl,hb⟩))
 go_ret2
 exact ⟨rfl,(FR.out.fut hb).out⟩
end Go.Proofs.YtjkmjpjknmghlaaGreat
