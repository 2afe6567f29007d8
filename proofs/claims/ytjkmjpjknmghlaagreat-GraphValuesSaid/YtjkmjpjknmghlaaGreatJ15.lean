/-
  Sums by rows that are slid over (layer 16): the walk of lane.line.
  One sum of a window of one channel (layer 17: depth.sum).
  The sums of channels (layer 17): the values, in whole numbers.
  Rows multiplied (layer 13): gemm.Dot of rows that are as long; gemm.may of three numbers.
  A node that is handed back (layer 25).
-/
import Derived.Test.YtjkmjpjknmghlaaGreatJ09
set_option linter.unusedVariables false
set_option linter.unusedSimpArgs false
namespace Go.Proofs.YtjkmjpjknmghlaaGreat
open Go.RowKit Go.ChangeShapes Go.WideShapes Fx
set_option maxRecDepth 100000
set_option maxHeartbeats 2000000
theorem ei_rows16:EI Tryz.prog 180 170 (.slice none 0 0) 1 24:=⟨Tryz.underlying180,by kernel_rfl,rfl,by decide⟩
theorem ei_taps:EI Tryz.prog 181 183 (.agg #[.int .i8 0,.int .i8 0,.int .i8 0]) 3 3:=⟨Tryz.underlying181,by kernel_rfl,rfl,by decide⟩
theorem Own.more {α:Type} {t:Ty α} {w:World} {S S':Nat → Prop} {base n:Nat} {E:TypeId} {v:Value} {l:List α} (h:Own t w S base E v n l) (hs:∀ b,S b → S' b):Own t w S' base E v n l:=by
 obtain ⟨vs,h1,h2⟩:=h.out
 exact ⟨vs,h1,h2.more hs⟩
theorem Blk.row' {w w':World} {g:Nat} {e:TypeId} {cs:Array Value} {r:Option Nat} (h:Blk w g e cs) (hg:w.grownBy w' r) (hne:some g ≠ r):Blk w' g e cs:=⟨by rw [hg.block g h.lt hne];exact h.heap⟩
def rowsAt (base:Nat) (u v:Value) (w:World):Nat → Prop:=fun b=>base≤b∧b < w.heap.size∧some b ≠ u.ownBlock∧some b ≠ v.ownBlock
structure Lists (base:Nat) (xs:List (List Int)) (ws:List W3) (k:Nat) (u v:Value) (w:World):Prop where
 rows:Own (tSlice (tInt .i16)) w (rowsAt base u v w) base 170 u k xs
 taps:Own tW3 w (fun _=>False) base 183 v k ws
 ne:u.ownBlock=none ∨ u.ownBlock ≠ v.ownBlock
theorem Lists.below {base k:Nat} {xs ws u v w w'} (h:Lists base xs ws k u v w) (hb:Below w.heap.size w w'):Lists base xs ws k u v w' :=
 ⟨(h.rows.below hb (Nat.le_refl _) (fun b hb=>hb.2.1)).more fun b ⟨h1,h2,h3⟩=>⟨h1,Nat.lt_of_lt_of_le h2 hb.size,h3⟩,h.taps.below hb (Nat.le_refl _) (fun _ h=>h.elim),h.ne⟩
theorem Lists.row {base k:Nat} {xs ws u v w u' w' ys} (h:Lists base xs ws k u v w) (ho:Own (tSlice (tInt .i16)) w' (rowsAt base u v w) base 170 u' (k+1) ys) (hg:w.grownBy w' u.ownBlock) (ha:u'.ownBlock=u.ownBlock ∨ u'.ownBlock=some (w.heap.size+1)) :
  Own (tSlice (tInt .i16)) w' (rowsAt base u' v w') base 170 u' (k+1) ys∧Own tW3 w' (fun _=>False) base 183 v k ws∧(u'.ownBlock=none ∨ u'.ownBlock ≠ v.ownBlock):=by
 refine ⟨ho.more fun b ⟨h1,h2,h3,h4⟩=>⟨h1,Nat.lt_of_lt_of_le h2 hg.size,?_,h4⟩,h.taps.flat hg ?_ (fun _ h=>h),?_⟩
 ·rcases ha with e|e
  ·rw [e];exact h3
  ·rw [e];intro h;injection h;omega
 ·rcases h.ne with e|e
  ·cases hv:v.ownBlock with
   | none=>exact .inl rfl
   | some m=>right;rw [e];simp
  ·exact .inr fun h=>e h.symm
 ·rcases ha with e|e
  ·rw [e];exact h.ne
  ·right
   rw [e]
   intro h'
   have:=(h.taps.lt _ h'.symm).2
   omega
theorem Lists.tap {base k kk:Nat} {xs ws u v w v' w' ys} (h1:Own (tSlice (tInt .i16)) w (rowsAt base u v w) base 170 u k xs) (h2:Own tW3 w (fun _=>False) base 183 v kk ws) (h3:u.ownBlock=none ∨ u.ownBlock ≠ v.ownBlock)
  (ho:Own tW3 w' (fun _=>False) base 183 v' k ys) (hg:w.grownBy w' v.ownBlock) (ha:v'.ownBlock=v.ownBlock ∨ v'.ownBlock=some (w.heap.size+1)):Lists base xs ys k u v' w':=by
 refine ⟨(h1.kept hg h3 (fun b hb=>⟨hb.2.1,hb.2.2.2⟩)).more fun b ⟨a1,a2,a3,a4⟩=>⟨a1,Nat.lt_of_lt_of_le a2 hg.size,a3,?_⟩,ho,?_⟩
 ·rcases ha with e|e
  ·rw [e];exact a4
  ·rw [e];intro h;injection h;omega
 ·rcases ha with e|e
  ·rw [e];exact h3
  ·rcases h3 with h3|h3
   ·exact .inl h3
   ·cases hu:u.ownBlock with
    | none=>exact .inl rfl
    | some m =>
     right
     rw [e]
     intro h'
     have:=(h1.lt _ hu).2
     injection h'
     omega
theorem oper_lit1 {P:Program} {o:Oper} {a:Act} {w:World} {Q:Go.Exit → Act → World → Prop} {K:Act → World → Prop} {T E:TypeId} {z:Value} {size bytes:Nat} (x:Operand) (ho:o.op=.buildSlice T 1 #[(0,x)]) (ei:EI P T E z size bytes)
  (vs:Array Value) (hx:a.eval x=.agg vs) (hvs:vs.size=size) (hsm:size≤16777216)
  (h:K (a.put o.dst (.slice (some ⟨w.heap.size,0,none⟩) 1 1)) (w.alloc (.cells vs E))):o.wp P a w K Q:=by
 unfold Oper.wp execOp
 simp only [ho,List.map_toArray,List.map_cons,List.map_nil,hx,Sem.run_bind,run_lit1 w ei vs hvs hsm,Sem.run_pure,Result.andThen_ok]
 exact h
theorem row_div (i c C:Nat) (hc:c < C):(i*C+c) / C=i∧(i*C+c) % C=c :=
 ⟨by rw [Nat.mul_comm,Nat.mul_add_div (by omega),Nat.div_eq_of_lt hc,Nat.add_zero],by rw [Nat.mul_comm,Nat.mul_add_mod,Nat.mod_eq_of_lt hc]⟩
theorem rowsV_snoc {α:Type} (f:Nat → α) (r:Nat):(List.range r).map f ++ [f r]=(List.range (r+1)).map f:=by simp [List.range_succ]
end Go.Proofs.YtjkmjpjknmghlaaGreat
namespace Go.Proofs.YtjkmjpjknmghlaaGreat
open Go.RowKit Go.ChangeShapes Go.WideShapes
set_option maxRecDepth 100000
set_option maxHeartbeats 2000000
def depthQ (H V C:Nat) (l:List Int) (za:Int) (w:List Int) (K S P:Nat) (c y x q:Nat):Int:=w.getD (c*K*K+q) 0*px H V C l za ((y*S+q / K:Nat) - P) ((x*S+q % K:Nat) - P) c
def depthN (H V C:Nat) (l:List Int) (za:Int) (w:List Int) (K S P:Nat) (c y x:Nat):Int:=sumN (K*K) (depthQ H V C l za w K S P c y x)
theorem depthSum_any (H V C:Nat) (A:Option Addr) (n cap:Nat) (l:List Int) (d:Node) (W:Option Addr) (nw cw:Nat) (B:Option Addr) (nb cb:Nat) (K S P y x c:Nat) (w:World)
  (hl:Sl (tInt .i8) w (blo w.heap.size) A n cap l) (hwl:Sl (tInt .i8) w (blo w.heap.size) W nw cw d.w) (hbl:Sl (tInt .i32) w (blo w.heap.size) B nb cb d.bias) (hn:n=H*V*C) (hn2:n≤1024) (h1:1≤H∧H≤16) (v1:1≤V∧V≤16) (c1:1≤C∧C≤1024) (he:decide (0 < elems H V C)=true)
  (hk:d.k=K) (hs:d.s=S) (hp:d.p=P) (k1:1≤K∧K≤5) (s1:1≤S∧S≤4) (p1:P≤4) (hz:InK .i8 d.za) (hy:y≤1000) (hx:x≤1000) (hc:c < C) (hcb:c < nb) (hnw:nw=C*K*K) :
  Calls Tryz.prog 138 #[.agg (tN H V C A n cap),.agg (nN d.kind d.a d.b d.k d.s d.p d.out d.za d.zb W nw cw B nb cb d.qm d.qs d.qz d.rm d.rs d.rz d.lo d.hi),.int .i64 y,.int .i64 x,.int .i64 c] w fun e w' =>
   e=.returned (.int .i32 (wrap32 (d.bias.getD c 0+depthN H V C l d.za d.w K S P c y x)))∧Below w.heap.size w w':=by
 obtain ⟨bb,ob,rfl,-,-,-,-⟩:=hbl.int_at c hcb
 have FR:=zH (Far.refl w)
 have OL:=zH (Old.now hl)
 have OW:=zH (Old.now hwl)
 have OB:=zH (Old.now hbl)
 obtain ⟨w1,hw_w1,BT,k_w1⟩:=nB w (tN H V C A n cap) 27
 replace FR:=zH (FR.out.fut k_w1)
 replace OL:=zH (OL.out.fut k_w1)
 replace OW:=zH (OW.out.fut k_w1)
 replace OB:=zH (OB.out.fut k_w1)
 clear k_w1
 obtain ⟨w2,hw_w2,BN,k_w2⟩:=nB w1 (nN d.kind d.a d.b d.k d.s d.p d.out d.za d.zb W nw cw (some ⟨bb,ob,none⟩) nb cb d.qm d.qs d.qz d.rm d.rs d.rz d.lo d.hi) 44
 replace FR:=zH (FR.out.fut k_w2)
 replace OL:=zH (OL.out.fut k_w2)
 replace OW:=zH (OW.out.fut k_w2)
 replace OB:=zH (OB.out.fut k_w2)
 replace BT:=zH (BT.out.fut k_w2)
 clear k_w2
 have IX:=zH (fun (yy xx:Int) (wq:World)=>shapeIndex_any H V C yy xx c wq h1 v1 c1 he hc)
 obtain ⟨b0,o0,e0,-,-,cB,iB⟩:=OB.out.out.int_at c hcb
 simp only [Option.some.injEq,Addr.mk.injEq,and_true] at e0
 obtain ⟨rfl,rfl⟩:=e0
 obtain ⟨bo,hbo⟩:∃ m,d.bias.getD c 0=m:=⟨_,rfl⟩
 rw [hbo] at cB iB ⊢
 have HN:=zH hn
 have HW:=zH hnw
 have HL:=zH hl
 have HWL:=zH hwl
 have HK:=zH hk
 have HS:=zH hs
 have HP:=zH hp
 have HZ:=zH hz
 have n3:=BN.out.cell 3
 have n10:=BN.out.cell 10
 simp only [gX] at n3 n10
 rw [hk] at n3
 obtain ⟨KK,hKK⟩:∃ m,K*K=m:=⟨_,rfl⟩
 have hKi:(K:Int)*(K:Int)=(KK:Int):=by rw [← hKK];simp
 have KK1:KK≤25:=by rw [← hKK];exact Nat.mul_le_mul k1.2 k1.2
 unfold depthN
 rw [hKK]
 rw [inK_i32] at iB
 have HB0:=zH (show wrap32 (bo+sumN 0 (depthQ H V C l d.za d.w K S P c y x))=bo by rw [show sumN 0 (depthQ H V C l d.za d.w K S P c y x)=0 from rfl,Int.add_zero];unfold wrap32;omega)
 have hk0:=k1
 obtain ⟨k1a,k1b⟩:=k1
 have HKK:=zH hKK
 clear hl hwl hbl hn hnw hk hs hp hz he hbo hKK
 go_enter Tryz.func138,Tryz.ntmps138
 go_wp2_with fail
 go_step3
 go_wp2_with fail
 go_step3
 go_wp2_with fail
 clear hw_w1 hw_w2 n3 n10 cB
 go_loopw [11,25] (fun u ii wr=>∃ k:Nat,k≤KK∧ii=.int .i64 k∧u=.int .i32 (wrap32 (bo+sumN k (depthQ H V C l d.za d.w K S P c y x)))∧Far w wr∧Blk wr w.heap.size 27 (tN H V C A n cap)∧Blk wr w1.heap.size 44 (nN d.kind d.a d.b d.k d.s d.p d.out d.za d.zb W nw cw (some ⟨bb,ob,none⟩) nb cb d.qm d.qs d.qz d.rm d.rs d.rz d.lo d.hi)) (fun _ ii _=>KK - (intOf ii).toNat)
 case atStart=>exact ⟨0,Nat.zero_le _,rfl,by rw [HB0.out],FR.out,BT.out,BN.out⟩
 case round =>
  obtain ⟨k,hk,rfl,rfl,hf,hbt,hbn⟩:=hrel
  clear FR BT BN
  have FR:=zH hf
  have BT:=zH hbt
  have BN:=zH hbn
  clear hf hbt hbn
  by_cases hlt:k < KK
  ·have p1':(k:Int) < (KK:Int):=by omega
   go_wp2_with fail
   obtain ⟨ki,hki⟩:∃ m,k / K=m:=⟨_,rfl⟩
   obtain ⟨kj,hkj⟩:∃ m,k % K=m:=⟨_,rfl⟩
   have bki:ki≤25:=by rw [← hki];exact Nat.le_trans (Nat.div_le_self _ _) (by omega)
   have bkj:kj≤5:=by rw [← hkj];exact Nat.le_trans (Nat.le_of_lt (Nat.mod_lt _ (by omega))) k1b
   have hK0:(K:Int) ≠ 0:=by omega
   have d1:(k:Int).tdiv (K:Int)=(ki:Int):=by rw [← hki,Int.tdiv_eq_ediv_of_nonneg (by omega)];simp
   have d2:(k:Int).tmod (K:Int)=(kj:Int):=by rw [← hkj,Int.tmod_eq_emod_of_nonneg (by omega)];simp
   obtain ⟨ys,hys⟩:∃ m,y*S=m:=⟨_,rfl⟩
   have ysi:(y:Int)*(S:Int)=(ys:Int):=by rw [← hys];simp
   have ysb:ys≤4000:=by rw [← hys];exact Nat.mul_le_mul hy s1.2
   obtain ⟨xs,hxs⟩:∃ m,x*S=m:=⟨_,rfl⟩
   have xsi:(x:Int)*(S:Int)=(xs:Int):=by rw [← hxs];simp
   have xsb:xs≤4000:=by rw [← hxs];exact Nat.mul_le_mul hx s1.2
   obtain ⟨yy,hyy⟩:∃ m:Int,((y*S+k / K:Nat):Int) - P=m:=⟨_,rfl⟩
   obtain ⟨xx,hxx⟩:∃ m:Int,((x*S+k % K:Nat):Int) - P=m:=⟨_,rfl⟩
   have hyy2:(ys:Int)+(ki:Int) - (P:Int)=yy:=by rw [← hyy,hys,hki];simp
   have hxx2:(xs:Int)+(kj:Int) - (P:Int)=xx:=by rw [← hxx,hxs,hkj];simp
   have g1:IntKind.i64.wrap ((y:Int)*(S:Int))=(ys:Int):=by rw [ysi];exact IntWalk.i64_in _ (by omega)
   have g2:IntKind.i64.wrap ((x:Int)*(S:Int))=(xs:Int):=by rw [xsi];exact IntWalk.i64_in _ (by omega)
   have g3:IntKind.i64.wrap ((ys:Int)+(ki:Int))=(ys:Int)+(ki:Int):=IntWalk.i64_in _ (by omega)
   have g4:IntKind.i64.wrap ((xs:Int)+(kj:Int))=(xs:Int)+(kj:Int):=IntWalk.i64_in _ (by omega)
   have g5:IntKind.i64.wrap ((ys:Int)+(ki:Int) - (P:Int))=yy:=by rw [hyy2];exact IntWalk.i64_in _ (by omega)
   have g6:IntKind.i64.wrap ((xs:Int)+(kj:Int) - (P:Int))=xx:=by rw [hxx2];exact IntWalk.i64_in _ (by omega)
   have g7:IntKind.i64.wrap (ki:Int)=(ki:Int):=IntWalk.i64_in _ (by omega)
   have g8:IntKind.i64.wrap (kj:Int)=(kj:Int):=IntWalk.i64_in _ (by omega)
   have t0:∀ q:Ext wr,q.1.cell? ⟨w.heap.size,0,none⟩=some (.int .i64 H):=fun q=>(BT.out.ext q).cell 0
   have t1:∀ q:Ext wr,q.1.cell? ⟨w.heap.size,1,none⟩=some (.int .i64 V):=fun q=>(BT.out.ext q).cell 1
   have t2:∀ q:Ext wr,q.1.cell? ⟨w.heap.size,2,none⟩=some (.int .i64 C):=fun q=>(BT.out.ext q).cell 2
   have n3:∀ q:Ext wr,q.1.cell? ⟨w1.heap.size,3,none⟩=some (.int .i64 K):=fun q=>by rw [← HK.out];exact (BN.out.ext q).cell 3
   have n4:∀ q:Ext wr,q.1.cell? ⟨w1.heap.size,4,none⟩=some (.int .i64 S):=fun q=>by rw [← HS.out];exact (BN.out.ext q).cell 4
   have n5:∀ q:Ext wr,q.1.cell? ⟨w1.heap.size,5,none⟩=some (.int .i64 P):=fun q=>by rw [← HP.out];exact (BN.out.ext q).cell 5
   have RG:=zH (fun q:Ext wr=>calls_ext q (IX.out yy xx q.1))
   have hq:sumN (k+1) (depthQ H V C l d.za d.w K S P c y x)=sumN k (depthQ H V C l d.za d.w K S P c y x)+depthQ H V C l d.za d.w K S P c y x k:=rfl
   have hq2:depthQ H V C l d.za d.w K S P c y x k=d.w.getD (c*K*K+k) 0*px H V C l d.za yy xx c:=by unfold depthQ;rw [hyy,hxx]
   obtain ⟨D,hD⟩:∃ m,sumN k (depthQ H V C l d.za d.w K S P c y x)=m:=⟨_,rfl⟩
   rw [hD] at hq ⊢
   obtain ⟨D1,hD1⟩:∃ m,sumN (k+1) (depthQ H V C l d.za d.w K S P c y x)=m:=⟨_,rfl⟩
   rw [hD1] at hq
   have HD:=zH hD1
   by_cases hin:inside H V yy xx
   ·have hin2:=hin
    unfold inside at hin2
    have E1:=RG.out
    simp only [if_pos hin,decide_eq_true hin] at E1
    obtain ⟨ix,hix⟩:∃ m,placeV V C yy xx c=m:=⟨_,rfl⟩
    rw [hix] at E1
    have hixn:ix < n:=by
     rw [← hix,HN.out]
     exact idx_lt yy.toNat xx.toNat c H V C (by omega) (by omega) hc
    have hpx:px H V C l d.za yy xx c=l.getD ix 0 - d.za:=by unfold px;rw [if_pos hin2,← hix];rfl
    rw [hq2,hpx] at hq
    replace E1:=zH E1
    refine wp_region_ext wr (by kernel_rfl) (by kernel_rfl) (Below.refl _ _) ?_
    repeat (go_big_quiet_step ((exact E1.out _)))
    refine wpQuiet_nil ?_
    rintro _ ⟨⟨w3,hB⟩,rfl⟩
    replace FR:=zH (FR.out.fut hB)
    replace BT:=zH (BT.out.fut hB)
    replace BN:=zH (BN.out.fut hB)
    clear t0 t1 t2 n3 n4 n5 hB RG hix hin hin2 hpx g1 g2 g3 g4 g5 g6 g7 g8 d1 d2 hq2
    obtain ⟨bA,oA,rfl,-,-,ca,ia⟩:=((Old.now HL.out).fut FR.out.out).all.int_at ix hixn
    obtain ⟨r1,hr1⟩:∃ m,c*K=m:=⟨_,rfl⟩
    have j1:(c:Int)*(K:Int)=(r1:Int):=by rw [← hr1];simp
    obtain ⟨r2,hr2⟩:∃ m,r1*K=m:=⟨_,rfl⟩
    have j2:(r1:Int)*(K:Int)=(r2:Int):=by rw [← hr2];simp
    have hr3:r2+k < nw:=by
     rw [HW.out,← hr2,← hr1]
     have:(c+1)*(K*K)≤C*(K*K):=Nat.mul_le_mul_right _ hc
     rw [HKK.out] at this
     rw [Nat.mul_assoc,Nat.mul_assoc,HKK.out]
     rw [Nat.succ_mul] at this
     omega
    rw [hr1,hr2] at hq
    have r2b:r2≤30000:=by
     rw [← hr2,← hr1]
     have q1:c*K≤1024*5:=Nat.mul_le_mul (by omega) k1b
     exact Nat.le_trans (Nat.mul_le_mul q1 k1b) (by omega)
    have r1b:r1≤r2:=by rw [← hr2];exact Nat.le_mul_of_pos_right _ (by omega)
    obtain ⟨bW,oW,rfl,-,-,cW,iW⟩:=((Old.now HWL.out).fut FR.out.out).all.int_at (r2+k) hr3
    obtain ⟨dv,hdv⟩:∃ m,l.getD ix 0=m:=⟨_,rfl⟩
    obtain ⟨wv,hwv⟩:∃ m,d.w.getD (r2+k) 0=m:=⟨_,rfl⟩
    obtain ⟨zv,hzv⟩:∃ m,d.za=m:=⟨_,rfl⟩
    have hzz:=HZ.out
    rw [hdv] at ca ia hq
    rw [hwv] at cW iW hq
    rw [hzv] at hq hzz
    rw [inK_i8] at ia iW hzz
    obtain ⟨i1,i2⟩:=ia
    obtain ⟨i3,i4⟩:=iW
    obtain ⟨i5,i6⟩:=hzz
    have hm:=mul_range8 wv (dv - zv) i3 i4 (by omega) (by omega)
    have a3:=BT.out.cell 3
    have n3:=BN.out.cell 3
    have n7:=BN.out.cell 7
    have n9:=BN.out.cell 9
    simp only [gX] at a3 n3 n7 n9
    rw [HK.out] at n3
    rw [hzv] at n7
    have HQ:=zH hq
    have ZZ:=zH hzv
    clear hq hdv hwv hzv hr1 hr2
    go_wp2_with fail
    go_quiet (fail)
    go_wp2_with fail
    exact ⟨⟨k+1,by omega,by go_num,by rw [HD.out,HQ.out,wrap32_add,Int.add_assoc],FR.out.drewN _,⟨BT.out.heap⟩,⟨BN.out.heap⟩⟩,by simp [intOf];omega⟩
   ·have E1:=RG.out
    simp only [if_neg hin,decide_eq_false hin] at E1
    have hpx:px H V C l d.za yy xx c=0:=by unfold px;exact if_neg hin
    rw [hq2,hpx,Int.mul_zero,Int.add_zero] at hq
    have HQ:=zH hq
    replace E1:=zH E1
    clear hq hq2 hpx hin RG
    refine wp_region_ext wr (by kernel_rfl) (by kernel_rfl) (Below.refl _ _) ?_
    repeat (go_big_quiet_step ((exact E1.out _)))
    refine wpQuiet_nil ?_
    rintro _ ⟨⟨w3,hB⟩,rfl⟩
    replace FR:=zH (FR.out.fut hB)
    replace BT:=zH (BT.out.fut hB)
    replace BN:=zH (BN.out.fut hB)
    clear t0 t1 t2 n3 n4 n5 hB g1 g2 g3 g4 g5 g6 g7 g8 d1 d2
    go_wp2_with fail
    exact ⟨⟨k+1,by omega,by go_num,by rw [HD.out,HQ.out],FR.out,BT.out,BN.out⟩,by simp [intOf];omega⟩
  ·obtain rfl:k=KK:=by omega
   go_wp2_with fail
   rw [Exit.noGoto_ret]
   go_ret
   exact ⟨rfl,FR.out.out⟩
end Go.Proofs.YtjkmjpjknmghlaaGreat
namespace Go.Proofs.YtjkmjpjknmghlaaGreat
open Go.RowKit
def depthF (t:Tensor) (d:Node) (Wo Co:Nat) (i:Nat):Int:=wrap32 (d.bias.getD (i % Co) 0+depthN t.h.toNat t.v.toNat t.c.toNat t.data d.za d.w d.k.toNat d.s.toNat d.p.toNat (i % Co) (i / Co / Wo) (i / Co % Wo))
def depthOf (t:Tensor) (d:Node):Tensor × Int :=
 if t.ok=true then (if (depthV t.h t.v t.c d).2=0 then (⟨(depthV t.h t.v t.c d).1.1,(depthV t.h t.v t.c d).1.2.1,(depthV t.h t.v t.c d).1.2.2,
  (List.range (elems (depthV t.h t.v t.c d).1.1 (depthV t.h t.v t.c d).1.2.1 (depthV t.h t.v t.c d).1.2.2).toNat).map (depthF t d (depthV t.h t.v t.c d).1.2.1.toNat (depthV t.h t.v t.c d).1.2.2.toNat)⟩,0) else (noTensor,(depthV t.h t.v t.c d).2)) else (noTensor,5)
theorem depth_nat {t:Tensor} {d:Node} (h1:t.ok=true) (h2:(depthV t.h t.v t.c d).2=0):∃ H V C K S P Ho Wo:Nat,TOk t t.data.length H V C∧WOk d H V C K S P Ho Wo C∧depthV t.h t.v t.c d=(((Ho:Int),(Wo:Int),(C:Int)),0)∧d.w.length=C*K*K∧d.bias.length=C∧elems Ho Wo C=(Ho*Wo*C:Nat) ∧
  depthOf t d=(⟨Ho,Wo,C,(List.range (Ho*Wo*C)).map (depthF t d Wo C)⟩,0):=by
 obtain ⟨H,V,C,T⟩:=tok_of h1
 obtain ⟨⟨⟨x1,x2,x3⟩,e⟩,hx⟩:∃ x,depthV t.h t.v t.c d=x:=⟨_,rfl⟩
 have hx':=hx
 rw [hx] at h2
 obtain rfl:e=0:=h2
 unfold depthV at hx'
 obtain ⟨a,b,-,c⟩:=fit_nat hx' rfl
 rw [T.h,T.v,T.c] at a
 obtain ⟨K,S,P,Ho,Wo,Co,hw,e1,e2,e3,e4,e5⟩:=slide_nat a
 subst e1 e2 e3
 obtain rfl:C=Co:=by omega
 refine ⟨H,V,C,K,S,P,Ho,Wo,T,hw,hx,?_,by have:=T.c;omega,e5,?_⟩
 ·rw [hw.k,T.c] at b
  exact_mod_cast b
 ·unfold depthOf
  rw [if_pos h1,hx,if_pos rfl]
  simp only [e5,Int.toNat_natCast]
theorem tok_elems {t:Tensor} {n H V C:Nat} (h:TOk t n H V C):decide (0 < elems (H:Int) (V:Int) (C:Int))=true:=by
 have e:elems (H:Int) (V:Int) (C:Int)=(H*V*C:Nat):=by
  rw [elems_iff,if_pos]
  ·rw [Int.natCast_mul,Int.natCast_mul]
  ·have:=h.h1;have:=h.v1;have:=h.c1
   refine ⟨by omega,by omega,by omega,by omega,by omega,by omega,?_⟩
   have e:=h.n_eq
   have:=h.n_le
   rw [e] at this
   rw [← Int.natCast_mul,← Int.natCast_mul]
   omega
 rw [e]
 have:0 < H*V*C:=Nat.mul_pos (Nat.mul_pos (by have:=h.h1;omega) (by have:=h.v1;omega)) (by have:=h.c1;omega)
 simp only [decide_eq_true_eq]
 omega
theorem range_snoc {α:Type} (f:Nat → α) (r:Nat):(List.range r).map f ++ [f r]=(List.range (r+1)).map f:=by simp [List.range_succ]
theorem div_bounds {i Ho Wo Co:Nat} (h:i < Ho*Wo*Co):i % Co < Co∧i / Co / Wo < Ho∧i / Co % Wo < Wo:=by
 have hC:0 < Co:=by
  rcases Nat.eq_zero_or_pos Co with e|e
  ·subst e;simp at h
  ·exact e
 have hW:0 < Wo:=by
  rcases Nat.eq_zero_or_pos Wo with e|e
  ·subst e;simp at h
  ·exact e
 have h1:i / Co < Ho*Wo:=Nat.div_lt_of_lt_mul (by rw [Nat.mul_comm];exact h)
 exact ⟨Nat.mod_lt _ hC,Nat.div_lt_of_lt_mul (by rw [Nat.mul_comm];exact h1),Nat.mod_lt _ hW⟩
end Go.Proofs.YtjkmjpjknmghlaaGreat
namespace Go.Proofs.YtjkmjpjknmghlaaGreat
open Go.RowKit Go.ChangeShapes Go.WideShapes Fx
set_option maxRecDepth 100000
set_option maxHeartbeats 4000000
def dotN (a b:List Int) (n:Nat):Int:=sumN n fun i=>a.getD i 0*b.getD i 0
theorem dot_any (A A':Option Addr) (n cap cap':Nat) (a b:List Int) (w:World) (ha:Sl (tInt .i16) w (blo w.heap.size) A n cap a) (hb:Sl (tInt .i8) w (blo w.heap.size) A' n cap' b) (hn:n≤65536) :
  Calls Tryz.prog 163 #[.slice A n cap,.slice A' n cap'] w fun e w'=>e=.returned (.int .i32 (wrap32 (dotN a b n)))∧Below w.heap.size w w':=by
 have HA:=zH ha
 have HB:=zH hb
 have z0:=zH (show wrap32 (dotN a b 0)=0 by unfold dotN;rw [show sumN 0 (fun i=>a.getD i 0*b.getD i 0)=0 from rfl];unfold wrap32;decide)
 clear ha hb
 go_enter Tryz.func163,Tryz.ntmps163
 go_wp2_with fail
 go_loopw [5,12] (fun u ii wr=>∃ k:Nat,k≤n∧ii=.int .i64 k∧u=.int .i32 (wrap32 (dotN a b k))∧Below w.heap.size w wr) (fun _ ii _=>n - (intOf ii).toNat)
 case atStart=>exact ⟨0,Nat.zero_le _,rfl,by rw [z0.out],Below.refl _ _⟩
 case round =>
  obtain ⟨k,hk,rfl,rfl,hbl⟩:=hrel
  have HBL:=zH hbl
  clear hbl
  by_cases hlt:k < n
  ·have p1:(k:Int) < (n:Int):=by omega
   obtain ⟨ba,oa,rfl,-,-,cx,ix⟩:=((Old.now HA.out).fut HBL.out).all.int_at k hlt
   obtain ⟨bz,oz,rfl,-,-,cy,iy⟩:=((Old.now HB.out).fut HBL.out).all.int_at k hlt
   have hs:dotN a b (k+1)=dotN a b k+a.getD k 0*b.getD k 0:=rfl
   obtain ⟨x,hx⟩:∃ x,a.getD k 0=x:=⟨_,rfl⟩
   obtain ⟨y,hy⟩:∃ x,b.getD k 0=x:=⟨_,rfl⟩
   rw [hx] at cx ix hs
   rw [hy] at cy iy hs
   rw [inK_i16] at ix
   rw [inK_i8] at iy
   have hm:=natAbs_mul_le (a:=x) (b:=y) (m:=32768) (n:=128) (by omega) (by omega)
   obtain ⟨i1,i2⟩:=ix
   obtain ⟨i3,i4⟩:=iy
   obtain ⟨pr,hpr⟩:∃ m,x*y=m:=⟨_,rfl⟩
   rw [hpr] at hm hs
   have m1:-4194304≤pr:=by omega
   have m2:pr≤4194304:=by omega
   obtain ⟨D,hD⟩:∃ m,dotN a b k=m:=⟨_,rfl⟩
   rw [hD] at hs ⊢
   have HS:=zH hs
   obtain ⟨ac,hac⟩:∃ m,wrap32 D=m:=⟨_,rfl⟩
   have HC:=zH hac
   have b1:-2147483648≤ac:=by rw [← hac];exact (wrap32_in D).1
   have b2:ac≤2147483647:=by rw [← hac];exact (wrap32_in D).2
   rw [hac]
   clear hx hy hs hm hD hac
   go_wp2_with fail
   go_quiet (fail)
   go_wp2_with fail
   exact ⟨⟨k+1,by omega,by go_num,by rw [HS.out,← HC.out,wrap32_add],below_drewN HBL.out _⟩,by simp [intOf];omega⟩
  ·obtain rfl:k=n:=by omega
   go_wp2_with fail
   go_ret
   exact ⟨rfl,HBL.out⟩
end Go.Proofs.YtjkmjpjknmghlaaGreat
namespace Go.Proofs.YtjkmjpjknmghlaaGreat
open Go.RowKit Go.ChangeShapes Go.WideShapes
set_option maxRecDepth 100000
def RetNode (d:Node) (w:World) (e:Ending) (w':World):Prop :=
 ∃ (W:Option Addr) (nw cw:Nat) (B:Option Addr) (nb cb:Nat),e=.returned (.agg (nN d.kind d.a d.b d.k d.s d.p d.out d.za d.zb W nw cw B nb cb d.qm d.qs d.qz d.rm d.rs d.rz d.lo d.hi))∧Sl (tInt .i8) w' (bin w.heap.size w'.heap.size) W nw cw d.w∧Sl (tInt .i32) w' (bin w.heap.size w'.heap.size) B nb cb d.bias∧Below w.heap.size w w'
end Go.Proofs.YtjkmjpjknmghlaaGreat
