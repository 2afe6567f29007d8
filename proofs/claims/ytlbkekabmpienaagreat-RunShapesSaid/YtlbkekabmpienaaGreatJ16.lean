/-
  'make([]T, n)' of numbers as an operation by itself (in a region that draws its order); a list that is filled here and there.
  One sum of a window of one channel (layer 17: depth.sum).
  The sums of channels (layer 17): the values, in whole numbers.
  Rows multiplied (layer 13): gemm.Dot of rows that are as long; gemm.may of three numbers.
  A bias is added, channel by channel (layer 14: lower.biased's function).
  Rows multiplied (layer 13): gemm.may where all is within bounds.
  A product is shifted and rounded (layer 2): fix.Round, the document's Round.
  The least and the greatest number (layer 5, the document's Reach).
  The greatest number (layer 19: pool.greatest, slices.Max).
  slices.Clone of []int8.
  copy into a slice of the call's own (numbers): what went over lies there.
  A node that is handed back (layer 25).
  Lists alike, element by element.
  slices.Equal of []int8.
  slices.Equal of []int32.
-/
import Derived.Laws.MakeOwn
import Derived.Test.YtlbkekabmpienaaGreatJ00
import Derived.Test.YtlbkekabmpienaaGreatJ03
import Derived.Test.YtlbkekabmpienaaGreatJ07
import Derived.BigQuiet
import Derived.StillTailTactics
import Derived.Test.YtlbkekabmpienaaGreatJ15
import Derived.Test.YtlbkekabmpienaaGreatJ08
import Derived.Test.YtlbkekabmpienaaGreatJ05
import Derived.Laws.Bits64b
import Derived.Laws.ShiftsVarLaws
import Derived.Test.YtlbkekabmpienaaGreatChecked
import Derived.Laws.CopyOwn
import Derived.Test.YtlbkekabmpienaaGreatJ01
set_option linter.unusedVariables false
set_option linter.unusedSimpArgs false
namespace Go.Proofs.YtlbkekabmpienaaGreat
open Go.RowKit Go.ChangeShapes Go.WideShapes
theorem Blk.grown0 {w w':World} {g:Nat} {e:TypeId} {cs:Array Value} (h:Blk w g e cs) (gm:w.grownBy w' none):Blk w' g e cs:=⟨(gm.block g h.lt (by simp)).trans h.heap⟩
theorem Blk.rowR {w w':World} {g:Nat} {e:TypeId} {cs:Array Value} {r:Option Nat} (h:Blk w g e cs) (hg:w.grownBy w' r) (hne:some g ≠ r):Blk w' g e cs:=⟨by rw [hg.block g h.lt hne];exact h.heap⟩
theorem World.size_drew (w:World):w.drew.heap.size=w.heap.size:=rfl
section
variable {P:Program} {o:Oper} {a:Act} {Q:Go.Exit → Act → World → Prop} {T E:TypeId} {bytes base n:Nat} {k:IntKind}
theorem oper_make {K:Act → World → Prop} {W:World} (lo co:Operand) (ho:o.op=Op.makeSlice T lo co) (ei:EI P T E (.int k 0) 1 bytes) (kl kc:IntKind) (hl:a.eval lo=.int kl (n:Int)) (hc:a.eval co=.int kc (n:Int))
  (b2:bytes*n≤281474976710656) (b3:n≤maxLen) (b4:base≤W.heap.size) (h0:InK k 0)
  (h:∀ w',Own (tInt k) w' (fun _=>False) base E (.slice (some ⟨W.heap.size,0,none⟩) n n) n (List.replicate n 0) → W.grownBy w' none → K (a.put o.dst (.slice (some ⟨W.heap.size,0,none⟩) n n)) w') :
  Oper.wp P o a W K Q:=by
 obtain ⟨i,hi,hz0,hz1,hz2⟩:=info_parts ei.hi
 obtain ⟨w',hrun,h1,hg⟩:=run_make_full (P:=P) W base T E i (.int k 0) 1 ei.ht hi hz0 hz1 kl kc n (by rw [hz2];exact b2) b3 b4
 unfold Oper.wp execOp
 simp only [ho,hl,hc,Sem.run_bind,hrun,Sem.run_pure,Result.andThen_ok]
 refine h w' ⟨_,h1,?_⟩ hg
 have e:(madeCells (Value.cells (.int k 0)) (n*1)).toList=(List.replicate n (0:Int)).map (Value.int k):=by
  simp [madeCells,Value.cells]
  apply List.ext_getElem (by simp)
  intro j h1 h2
  simp [Nat.mod_one]
 rw [e]
 exact RowsOf.ints (fun x hx=>by rw [List.eq_of_mem_replicate hx];exact h0)
end
/-- A list that is filled at the places that p tells. -/
def stF (f:Nat → Int) (p:Nat → Bool) (n:Nat):List Int:=(List.range n).map fun j=>if p j=true then f j else 0
theorem stF_ext {f:Nat → Int} {p q:Nat → Bool} {n:Nat} (h:∀ j,j < n → p j=q j):stF f p n=stF f q n:=by
 unfold stF
 apply List.map_congr_left
 intro j hj
 rw [h j (List.mem_range.1 hj)]
theorem stF_none (f:Nat → Int) (p:Nat → Bool) (n:Nat) (h:∀ j,j < n → p j=false):stF f p n=List.replicate n 0:=by
 unfold stF
 apply List.ext_getElem (by simp)
 intro i h1 h2
 simp at h1
 simp [h i h1]
theorem stF_all (f:Nat → Int) (p:Nat → Bool) (n:Nat) (h:∀ j,j < n → p j=true):stF f p n=(List.range n).map f:=by
 unfold stF
 apply List.map_congr_left
 intro j hj
 rw [if_pos (h j (List.mem_range.1 hj))]
theorem stF_set (f:Nat → Int) (p:Nat → Bool) (n i:Nat):(stF f p n).set i (f i)=stF f (fun j=>p j || j == i) n:=by
 unfold stF
 apply List.ext_getElem (by simp)
 intro j h1 h2
 rw [List.getElem_set]
 simp only [List.getElem_map,List.getElem_range]
 by_cases e:i=j
 ·subst e;simp
 ·rw [if_neg e]
  have:(j == i)=false:=by simp;omega
  rw [this,Bool.or_false]
end Go.Proofs.YtlbkekabmpienaaGreat
namespace Go.Proofs.YtlbkekabmpienaaGreat
set_option linter.unusedVariables false
set_option linter.unusedSimpArgs false
open Go.RowKit Go.ChangeShapes Go.WideShapes
set_option maxRecDepth 100000
set_option maxHeartbeats 2000000
/-- One summand of a window of channel c. -/
def depthQ (H V C:Nat) (l:List Int) (za:Int) (w:List Int) (K S P:Nat) (c y x q:Nat):Int:=w.getD (c*K*K+q) 0*px H V C l za ((y*S+q / K:Nat) - P) ((x*S+q % K:Nat) - P) c
def depthN (H V C:Nat) (l:List Int) (za:Int) (w:List Int) (K S P:Nat) (c y x:Nat):Int:=sumN (K*K) (depthQ H V C l za w K S P c y x)
theorem depthSum_any (H V C:Nat) (A:Option Addr) (n cap:Nat) (l:List Int) (d:Node) (W:Option Addr) (nw cw:Nat) (B:Option Addr) (nb cb:Nat) (K S P y x c:Nat) (w:World)
  (hl:Sl (tInt .i8) w (blo w.heap.size) A n cap l) (hwl:Sl (tInt .i8) w (blo w.heap.size) W nw cw d.w) (hbl:Sl (tInt .i32) w (blo w.heap.size) B nb cb d.bias) (hn:n=H*V*C) (hn2:n≤1024) (h1:1≤H∧H≤16) (v1:1≤V∧V≤16) (c1:1≤C∧C≤1024) (he:decide (0 < elems H V C)=true)
  (hk:d.k=K) (hs:d.s=S) (hp:d.p=P) (k1:1≤K∧K≤5) (s1:1≤S∧S≤4) (p1:P≤4) (hz:InK .i8 d.za) (hy:y≤1000) (hx:x≤1000) (hc:c < C) (hcb:c < nb) (hnw:nw=C*K*K) :
  Calls Tryz.prog 81 #[.agg #[.int .i64 H,.int .i64 V,.int .i64 C,.slice A n cap],.agg #[.int .i64 d.kind,.int .i64 d.a,.int .i64 d.b,.int .i64 d.k,.int .i64 d.s,.int .i64 d.p,.int .i64 d.out,.int .i8 d.za,.int .i8 d.zb,.slice W nw cw,.slice B nb cb,.int .i32 d.qm,.int .i64 d.qs,.int .i8 d.qz,.int .i32 d.rm,.int .i64 d.rs,.int .i8 d.rz,.int .i8 d.lo,.int .i8 d.hi],.int .i64 y,.int .i64 x,.int .i64 c] w fun e w' =>
   e=.returned (.int .i32 (wrap32 (d.bias.getD c 0+depthN H V C l d.za d.w K S P c y x)))∧Below w.heap.size w w':=by
 obtain ⟨bb,ob,rfl,-,-,-,-⟩:=hbl.int_at c hcb
 have FR:=zH (Far.refl w)
 have OL:=zH (Old.now hl)
 have OW:=zH (Old.now hwl)
 have OB:=zH (Old.now hbl)
 obtain ⟨w1,hw_w1,BT,k_w1⟩:=nB w #[.int .i64 H,.int .i64 V,.int .i64 C,.slice A n cap] 32
 replace FR:=zH (FR.out.fut k_w1)
 replace OL:=zH (OL.out.fut k_w1)
 replace OW:=zH (OW.out.fut k_w1)
 replace OB:=zH (OB.out.fut k_w1)
 clear k_w1
 obtain ⟨w2,hw_w2,BN,k_w2⟩:=nB w1 #[.int .i64 d.kind,.int .i64 d.a,.int .i64 d.b,.int .i64 d.k,.int .i64 d.s,.int .i64 d.p,.int .i64 d.out,.int .i8 d.za,.int .i8 d.zb,.slice W nw cw,.slice (some ⟨bb,ob,none⟩) nb cb,.int .i32 d.qm,.int .i64 d.qs,.int .i8 d.qz,.int .i32 d.rm,.int .i64 d.rs,.int .i8 d.rz,.int .i8 d.lo,.int .i8 d.hi] 28
 replace FR:=zH (FR.out.fut k_w2)
 replace OL:=zH (OL.out.fut k_w2)
 replace OW:=zH (OW.out.fut k_w2)
 replace OB:=zH (OB.out.fut k_w2)
 replace BT:=zH (BT.out.fut k_w2)
 clear k_w2
 have IX:=zH (fun (yy xx:Int) (wq:World)=>shapeIndex_any H V C yy xx c wq h1 v1 c1 he hc)
 obtain ⟨b0,o0,e0,-,-,cB,iB⟩:=OB.out.out.int_at c hcb
 simp only [Option.some.injEq,Addr.mk.injEq,and_true] at e0
 obtain ⟨rfl,rfl⟩:=e0
 obtain ⟨bo,hbo⟩:∃ m,d.bias.getD c 0=m:=⟨_,rfl⟩
 rw [hbo] at cB iB ⊢
 have HN:=zH hn
 have HW:=zH hnw
 have HL:=zH hl
 have HWL:=zH hwl
 have HK:=zH hk
 have HS:=zH hs
 have HP:=zH hp
 have HZ:=zH hz
 have n3:=BN.out.cell 3
 have n10:=BN.out.cell 10
 simp only [gX] at n3 n10
 rw [hk] at n3
 obtain ⟨KK,hKK⟩:∃ m,K*K=m:=⟨_,rfl⟩
 have hKi:(K:Int)*(K:Int)=(KK:Int):=by rw [← hKK];simp
 have KK1:KK≤25:=by rw [← hKK];exact Nat.mul_le_mul k1.2 k1.2
 unfold depthN
 rw [hKK]
 rw [inK_i32] at iB
 have HB0:=zH (show wrap32 (bo+sumN 0 (depthQ H V C l d.za d.w K S P c y x))=bo by rw [show sumN 0 (depthQ H V C l d.za d.w K S P c y x)=0 from rfl,Int.add_zero];unfold wrap32;omega)
 have hk0:=k1
 obtain ⟨k1a,k1b⟩:=k1
 have HKK:=zH hKK
 clear hl hwl hbl hn hnw hk hs hp hz he hbo hKK
 go_enter Tryz.func81,Tryz.ntmps81
 go_wp2_with fail
 go_step3
 go_wp2_with fail
 go_step3
 go_wp2_with fail
 clear hw_w1 hw_w2 n3 n10 cB
 go_loopw [11,25] (fun u ii wr=>∃ k:Nat,k≤KK∧ii=.int .i64 k∧u=.int .i32 (wrap32 (bo+sumN k (depthQ H V C l d.za d.w K S P c y x)))∧Far w wr∧Blk wr w.heap.size 32 #[.int .i64 H,.int .i64 V,.int .i64 C,.slice A n cap]∧Blk wr w1.heap.size 28 #[.int .i64 d.kind,.int .i64 d.a,.int .i64 d.b,.int .i64 d.k,.int .i64 d.s,.int .i64 d.p,.int .i64 d.out,.int .i8 d.za,.int .i8 d.zb,.slice W nw cw,.slice (some ⟨bb,ob,none⟩) nb cb,.int .i32 d.qm,.int .i64 d.qs,.int .i8 d.qz,.int .i32 d.rm,.int .i64 d.rs,.int .i8 d.rz,.int .i8 d.lo,.int .i8 d.hi]) (fun _ ii _=>KK - (intOf ii).toNat)
 case atStart=>exact ⟨0,Nat.zero_le _,rfl,by rw [HB0.out],FR.out,BT.out,BN.out⟩
 case round =>
  obtain ⟨k,hk,rfl,rfl,hf,hbt,hbn⟩:=hrel
  clear FR BT BN
  have FR:=zH hf
  have BT:=zH hbt
  have BN:=zH hbn
  clear hf hbt hbn
  by_cases hlt:k < KK
  ·have p1':(k:Int) < (KK:Int):=by omega
   go_wp2_with fail
   obtain ⟨ki,hki⟩:∃ m,k / K=m:=⟨_,rfl⟩
   obtain ⟨kj,hkj⟩:∃ m,k % K=m:=⟨_,rfl⟩
   have bki:ki≤25:=by rw [← hki];exact Nat.le_trans (Nat.div_le_self _ _) (by omega)
   have bkj:kj≤5:=by rw [← hkj];exact Nat.le_trans (Nat.le_of_lt (Nat.mod_lt _ (by omega))) k1b
   have hK0:(K:Int) ≠ 0:=by omega
   have d1:(k:Int).tdiv (K:Int)=(ki:Int):=by rw [← hki,Int.tdiv_eq_ediv_of_nonneg (by omega)];simp
   have d2:(k:Int).tmod (K:Int)=(kj:Int):=by rw [← hkj,Int.tmod_eq_emod_of_nonneg (by omega)];simp
   obtain ⟨ys,hys⟩:∃ m,y*S=m:=⟨_,rfl⟩
   have ysi:(y:Int)*(S:Int)=(ys:Int):=by rw [← hys];simp
   have ysb:ys≤4000:=by rw [← hys];exact Nat.mul_le_mul hy s1.2
   obtain ⟨xs,hxs⟩:∃ m,x*S=m:=⟨_,rfl⟩
   have xsi:(x:Int)*(S:Int)=(xs:Int):=by rw [← hxs];simp
   have xsb:xs≤4000:=by rw [← hxs];exact Nat.mul_le_mul hx s1.2
   obtain ⟨yy,hyy⟩:∃ m:Int,((y*S+k / K:Nat):Int) - P=m:=⟨_,rfl⟩
   obtain ⟨xx,hxx⟩:∃ m:Int,((x*S+k % K:Nat):Int) - P=m:=⟨_,rfl⟩
   have hyy2:(ys:Int)+(ki:Int) - (P:Int)=yy:=by rw [← hyy,hys,hki];simp
   have hxx2:(xs:Int)+(kj:Int) - (P:Int)=xx:=by rw [← hxx,hxs,hkj];simp
   have g1:IntKind.i64.wrap ((y:Int)*(S:Int))=(ys:Int):=by rw [ysi];exact IntWalk.i64_in _ (by omega)
   have g2:IntKind.i64.wrap ((x:Int)*(S:Int))=(xs:Int):=by rw [xsi];exact IntWalk.i64_in _ (by omega)
   have g3:IntKind.i64.wrap ((ys:Int)+(ki:Int))=(ys:Int)+(ki:Int):=IntWalk.i64_in _ (by omega)
   have g4:IntKind.i64.wrap ((xs:Int)+(kj:Int))=(xs:Int)+(kj:Int):=IntWalk.i64_in _ (by omega)
   have g5:IntKind.i64.wrap ((ys:Int)+(ki:Int) - (P:Int))=yy:=by rw [hyy2];exact IntWalk.i64_in _ (by omega)
   have g6:IntKind.i64.wrap ((xs:Int)+(kj:Int) - (P:Int))=xx:=by rw [hxx2];exact IntWalk.i64_in _ (by omega)
   have g7:IntKind.i64.wrap (ki:Int)=(ki:Int):=IntWalk.i64_in _ (by omega)
   have g8:IntKind.i64.wrap (kj:Int)=(kj:Int):=IntWalk.i64_in _ (by omega)
   have t0:∀ q:Ext wr,q.1.cell? ⟨w.heap.size,0,none⟩=some (.int .i64 H):=fun q=>(BT.out.ext q).cell 0
   have t1:∀ q:Ext wr,q.1.cell? ⟨w.heap.size,1,none⟩=some (.int .i64 V):=fun q=>(BT.out.ext q).cell 1
   have t2:∀ q:Ext wr,q.1.cell? ⟨w.heap.size,2,none⟩=some (.int .i64 C):=fun q=>(BT.out.ext q).cell 2
   have n3:∀ q:Ext wr,q.1.cell? ⟨w1.heap.size,3,none⟩=some (.int .i64 K):=fun q=>by rw [← HK.out];exact (BN.out.ext q).cell 3
   have n4:∀ q:Ext wr,q.1.cell? ⟨w1.heap.size,4,none⟩=some (.int .i64 S):=fun q=>by rw [← HS.out];exact (BN.out.ext q).cell 4
   have n5:∀ q:Ext wr,q.1.cell? ⟨w1.heap.size,5,none⟩=some (.int .i64 P):=fun q=>by rw [← HP.out];exact (BN.out.ext q).cell 5
   have RG:=zH (fun q:Ext wr=>calls_ext q (IX.out yy xx q.1))
   have hq:sumN (k+1) (depthQ H V C l d.za d.w K S P c y x)=sumN k (depthQ H V C l d.za d.w K S P c y x)+depthQ H V C l d.za d.w K S P c y x k:=rfl
   have hq2:depthQ H V C l d.za d.w K S P c y x k=d.w.getD (c*K*K+k) 0*px H V C l d.za yy xx c:=by unfold depthQ;rw [hyy,hxx]
   obtain ⟨D,hD⟩:∃ m,sumN k (depthQ H V C l d.za d.w K S P c y x)=m:=⟨_,rfl⟩
   rw [hD] at hq ⊢
   obtain ⟨D1,hD1⟩:∃ m,sumN (k+1) (depthQ H V C l d.za d.w K S P c y x)=m:=⟨_,rfl⟩
   rw [hD1] at hq
   have HD:=zH hD1
   by_cases hin:inside H V yy xx
   ·have hin2:=hin
    unfold inside at hin2
    have E1:=RG.out
    simp only [if_pos hin,decide_eq_true hin] at E1
    obtain ⟨ix,hix⟩:∃ m,placeV V C yy xx c=m:=⟨_,rfl⟩
    rw [hix] at E1
    have hixn:ix < n:=by
     rw [← hix,HN.out]
     exact idx_lt yy.toNat xx.toNat c H V C (by omega) (by omega) hc
    have hpx:px H V C l d.za yy xx c=l.getD ix 0 - d.za:=by unfold px;rw [if_pos hin2,← hix];rfl
    rw [hq2,hpx] at hq
    replace E1:=zH E1
    refine wp_region_ext wr (by kernel_rfl) (by kernel_rfl) (Below.refl _ _) ?_
    repeat (go_big_quiet_step ((exact E1.out _)))
    refine wpQuiet_nil ?_
    rintro _ ⟨⟨w3,hB⟩,rfl⟩
    replace FR:=zH (FR.out.fut hB)
    replace BT:=zH (BT.out.fut hB)
    replace BN:=zH (BN.out.fut hB)
    clear t0 t1 t2 n3 n4 n5 hB RG hix hin hin2 hpx g1 g2 g3 g4 g5 g6 g7 g8 d1 d2 hq2
    obtain ⟨bA,oA,rfl,-,-,ca,ia⟩:=((Old.now HL.out).fut FR.out.out).all.int_at ix hixn
    obtain ⟨r1,hr1⟩:∃ m,c*K=m:=⟨_,rfl⟩
    have j1:(c:Int)*(K:Int)=(r1:Int):=by rw [← hr1];simp
    obtain ⟨r2,hr2⟩:∃ m,r1*K=m:=⟨_,rfl⟩
    have j2:(r1:Int)*(K:Int)=(r2:Int):=by rw [← hr2];simp
    have hr3:r2+k < nw:=by
     rw [HW.out,← hr2,← hr1]
     have:(c+1)*(K*K)≤C*(K*K):=Nat.mul_le_mul_right _ hc
     rw [HKK.out] at this
     rw [Nat.mul_assoc,Nat.mul_assoc,HKK.out]
     rw [Nat.succ_mul] at this
     omega
    rw [hr1,hr2] at hq
    have r2b:r2≤30000:=by
     rw [← hr2,← hr1]
     have q1:c*K≤1024*5:=Nat.mul_le_mul (by omega) k1b
     exact Nat.le_trans (Nat.mul_le_mul q1 k1b) (by omega)
    have r1b:r1≤r2:=by rw [← hr2];exact Nat.le_mul_of_pos_right _ (by omega)
    obtain ⟨bW,oW,rfl,-,-,cW,iW⟩:=((Old.now HWL.out).fut FR.out.out).all.int_at (r2+k) hr3
    obtain ⟨dv,hdv⟩:∃ m,l.getD ix 0=m:=⟨_,rfl⟩
    obtain ⟨wv,hwv⟩:∃ m,d.w.getD (r2+k) 0=m:=⟨_,rfl⟩
    obtain ⟨zv,hzv⟩:∃ m,d.za=m:=⟨_,rfl⟩
    have hzz:=HZ.out
    rw [hdv] at ca ia hq
    rw [hwv] at cW iW hq
    rw [hzv] at hq hzz
    rw [inK_i8] at ia iW hzz
    obtain ⟨i1,i2⟩:=ia
    obtain ⟨i3,i4⟩:=iW
    obtain ⟨i5,i6⟩:=hzz
    have hm:=mul_range8 wv (dv - zv) i3 i4 (by omega) (by omega)
    have a3:=BT.out.cell 3
    have n3:=BN.out.cell 3
    have n7:=BN.out.cell 7
    have n9:=BN.out.cell 9
    simp only [gX] at a3 n3 n7 n9
    rw [HK.out] at n3
    rw [hzv] at n7
    have HQ:=zH hq
    have ZZ:=zH hzv
    clear hq hdv hwv hzv hr1 hr2
    go_wp2_with fail
    go_quiet (fail)
    go_wp2_with fail
    exact ⟨⟨k+1,by omega,by go_num,by rw [HD.out,HQ.out,wrap32_add,Int.add_assoc],FR.out.drewN _,⟨BT.out.heap⟩,⟨BN.out.heap⟩⟩,by simp [intOf];omega⟩
   ·have E1:=RG.out
    simp only [if_neg hin,decide_eq_false hin] at E1
    have hpx:px H V C l d.za yy xx c=0:=by unfold px;exact if_neg hin
    rw [hq2,hpx,Int.mul_zero,Int.add_zero] at hq
    have HQ:=zH hq
    replace E1:=zH E1
    clear hq hq2 hpx hin RG
    refine wp_region_ext wr (by kernel_rfl) (by kernel_rfl) (Below.refl _ _) ?_
    repeat (go_big_quiet_step ((exact E1.out _)))
    refine wpQuiet_nil ?_
    rintro _ ⟨⟨w3,hB⟩,rfl⟩
    replace FR:=zH (FR.out.fut hB)
    replace BT:=zH (BT.out.fut hB)
    replace BN:=zH (BN.out.fut hB)
    clear t0 t1 t2 n3 n4 n5 hB g1 g2 g3 g4 g5 g6 g7 g8 d1 d2
    go_wp2_with fail
    exact ⟨⟨k+1,by omega,by go_num,by rw [HD.out,HQ.out],FR.out,BT.out,BN.out⟩,by simp [intOf];omega⟩
  ·obtain rfl:k=KK:=by omega
   go_wp2_with fail
   rw [Exit.noGoto_ret]
   go_ret
   exact ⟨rfl,FR.out.out⟩
end Go.Proofs.YtlbkekabmpienaaGreat
namespace Go.Proofs.YtlbkekabmpienaaGreat
open Go.RowKit
set_option linter.unusedVariables false
set_option linter.unusedSimpArgs false
def depthF (t:Tensor) (d:Node) (Wo Co:Nat) (i:Nat):Int:=wrap32 (d.bias.getD (i % Co) 0+depthN t.h.toNat t.v.toNat t.c.toNat t.data d.za d.w d.k.toNat d.s.toNat d.p.toNat (i % Co) (i / Co / Wo) (i / Co % Wo))
def depthOf (t:Tensor) (d:Node):Tensor × Int :=
 if t.ok=true then (if (depthV t.h t.v t.c d).2=0 then (⟨(depthV t.h t.v t.c d).1.1,(depthV t.h t.v t.c d).1.2.1,(depthV t.h t.v t.c d).1.2.2,
  (List.range (elems (depthV t.h t.v t.c d).1.1 (depthV t.h t.v t.c d).1.2.1 (depthV t.h t.v t.c d).1.2.2).toNat).map (depthF t d (depthV t.h t.v t.c d).1.2.1.toNat (depthV t.h t.v t.c d).1.2.2.toNat)⟩,0) else (noTensor,(depthV t.h t.v t.c d).2)) else (noTensor,5)
theorem depth_nat {t:Tensor} {d:Node} (h1:t.ok=true) (h2:(depthV t.h t.v t.c d).2=0):∃ H V C K S P Ho Wo:Nat,TOk t t.data.length H V C∧WOk d H V C K S P Ho Wo C∧depthV t.h t.v t.c d=(((Ho:Int),(Wo:Int),(C:Int)),0)∧d.w.length=C*K*K∧d.bias.length=C∧elems Ho Wo C=(Ho*Wo*C:Nat) ∧
  depthOf t d=(⟨Ho,Wo,C,(List.range (Ho*Wo*C)).map (depthF t d Wo C)⟩,0):=by
 obtain ⟨H,V,C,T⟩:=tok_of h1
 obtain ⟨⟨⟨x1,x2,x3⟩,e⟩,hx⟩:∃ x,depthV t.h t.v t.c d=x:=⟨_,rfl⟩
 have hx':=hx
 rw [hx] at h2
 obtain rfl:e=0:=h2
 unfold depthV at hx'
 obtain ⟨a,b,-,c⟩:=fit_nat hx' rfl
 rw [T.h,T.v,T.c] at a
 obtain ⟨K,S,P,Ho,Wo,Co,hw,e1,e2,e3,e4,e5⟩:=slide_nat a
 subst e1 e2 e3
 obtain rfl:C=Co:=by omega
 refine ⟨H,V,C,K,S,P,Ho,Wo,T,hw,hx,?_,by have:=T.c;omega,e5,?_⟩
 ·rw [hw.k,T.c] at b
  exact_mod_cast b
 ·unfold depthOf
  rw [if_pos h1,hx,if_pos rfl]
  simp only [e5,Int.toNat_natCast]
theorem tok_elems {t:Tensor} {n H V C:Nat} (h:TOk t n H V C):decide (0 < elems (H:Int) (V:Int) (C:Int))=true:=by
 have e:elems (H:Int) (V:Int) (C:Int)=(H*V*C:Nat):=by
  rw [elems_iff,if_pos]
  ·rw [Int.natCast_mul,Int.natCast_mul]
  ·have:=h.h1;have:=h.v1;have:=h.c1
   refine ⟨by omega,by omega,by omega,by omega,by omega,by omega,?_⟩
   have e:=h.n_eq
   have:=h.n_le
   rw [e] at this
   rw [← Int.natCast_mul,← Int.natCast_mul]
   omega
 rw [e]
 have:0 < H*V*C:=Nat.mul_pos (Nat.mul_pos (by have:=h.h1;omega) (by have:=h.v1;omega)) (by have:=h.c1;omega)
 simp only [decide_eq_true_eq]
 omega
/-- A number's place in a tensor's order. -/
theorem div_bounds {i Ho Wo Co:Nat} (h:i < Ho*Wo*Co):i % Co < Co∧i / Co / Wo < Ho∧i / Co % Wo < Wo:=by
 have hC:0 < Co:=by
  rcases Nat.eq_zero_or_pos Co with e|e
  ·subst e;simp at h
  ·exact e
 have hW:0 < Wo:=by
  rcases Nat.eq_zero_or_pos Wo with e|e
  ·subst e;simp at h
  ·exact e
 have h1:i / Co < Ho*Wo:=Nat.div_lt_of_lt_mul (by rw [Nat.mul_comm];exact h)
 exact ⟨Nat.mod_lt _ hC,Nat.div_lt_of_lt_mul (by rw [Nat.mul_comm];exact h1),Nat.mod_lt _ hW⟩
end Go.Proofs.YtlbkekabmpienaaGreat
namespace Go.Proofs.YtlbkekabmpienaaGreat
set_option linter.unusedVariables false
set_option linter.unusedSimpArgs false
open Go.RowKit Go.ChangeShapes Go.WideShapes Fx
set_option maxRecDepth 100000
set_option maxHeartbeats 4000000
def dotN (a b:List Int) (n:Nat):Int:=sumN n fun i=>a.getD i 0*b.getD i 0
theorem dot_any (A A':Option Addr) (n cap cap':Nat) (a b:List Int) (w:World) (ha:Sl (tInt .i16) w (blo w.heap.size) A n cap a) (hb:Sl (tInt .i8) w (blo w.heap.size) A' n cap' b) (hn:n≤65536) :
  Calls Tryz.prog 142 #[.slice A n cap,.slice A' n cap'] w fun e w'=>e=.returned (.int .i32 (wrap32 (dotN a b n)))∧Below w.heap.size w w':=by
 have HA:=zH ha
 have HB:=zH hb
 have z0:=zH (show wrap32 (dotN a b 0)=0 by unfold dotN;rw [show sumN 0 (fun i=>a.getD i 0*b.getD i 0)=0 from rfl];unfold wrap32;decide)
 clear ha hb
 go_enter Tryz.func142,Tryz.ntmps142
 go_wp2_with fail
 go_loopw [5,12] (fun u ii wr=>∃ k:Nat,k≤n∧ii=.int .i64 k∧u=.int .i32 (wrap32 (dotN a b k))∧Below w.heap.size w wr) (fun _ ii _=>n - (intOf ii).toNat)
 case atStart=>exact ⟨0,Nat.zero_le _,rfl,by rw [z0.out],Below.refl _ _⟩
 case round =>
  obtain ⟨k,hk,rfl,rfl,hbl⟩:=hrel
  have HBL:=zH hbl
  clear hbl
  by_cases hlt:k < n
  ·have p1:(k:Int) < (n:Int):=by omega
   obtain ⟨ba,oa,rfl,-,-,cx,ix⟩:=((Old.now HA.out).fut HBL.out).all.int_at k hlt
   obtain ⟨bz,oz,rfl,-,-,cy,iy⟩:=((Old.now HB.out).fut HBL.out).all.int_at k hlt
   have hs:dotN a b (k+1)=dotN a b k+a.getD k 0*b.getD k 0:=rfl
   obtain ⟨x,hx⟩:∃ x,a.getD k 0=x:=⟨_,rfl⟩
   obtain ⟨y,hy⟩:∃ x,b.getD k 0=x:=⟨_,rfl⟩
   rw [hx] at cx ix hs
   rw [hy] at cy iy hs
   rw [inK_i16] at ix
   rw [inK_i8] at iy
   have hm:=natAbs_mul_le (a:=x) (b:=y) (m:=32768) (n:=128) (by omega) (by omega)
   obtain ⟨i1,i2⟩:=ix
   obtain ⟨i3,i4⟩:=iy
   obtain ⟨pr,hpr⟩:∃ m,x*y=m:=⟨_,rfl⟩
   rw [hpr] at hm hs
   have m1:-4194304≤pr:=by omega
   have m2:pr≤4194304:=by omega
   obtain ⟨D,hD⟩:∃ m,dotN a b k=m:=⟨_,rfl⟩
   rw [hD] at hs ⊢
   have HS:=zH hs
   obtain ⟨ac,hac⟩:∃ m,wrap32 D=m:=⟨_,rfl⟩
   have HC:=zH hac
   have b1:-2147483648≤ac:=by rw [← hac];exact (wrap32_in D).1
   have b2:ac≤2147483647:=by rw [← hac];exact (wrap32_in D).2
   rw [hac]
   clear hx hy hs hm hD hac
   go_wp2_with fail
   go_quiet (fail)
   go_wp2_with fail
   exact ⟨⟨k+1,by omega,by go_num,by rw [HS.out,← HC.out,wrap32_add],below_drewN HBL.out _⟩,by simp [intOf];omega⟩
  ·obtain rfl:k=n:=by omega
   go_wp2_with fail
   go_ret
   exact ⟨rfl,HBL.out⟩
end Go.Proofs.YtlbkekabmpienaaGreat
namespace Go.Proofs.YtlbkekabmpienaaGreat
set_option linter.unusedVariables false
set_option linter.unusedSimpArgs false
open Go.RowKit Go.ChangeShapes Go.WideShapes Fx
set_option maxRecDepth 100000
set_option maxHeartbeats 4000000
theorem grown_tr {w w1 w2:World} {r:Option Nat} (h:w.grownBy w1 r) (h':w1.grownBy w2 r):w.grownBy w2 r :=
 ⟨h'.os.trans h.os,h'.tape.trans h.tape,h'.output.trans h.output,Nat.le_trans h.size h'.size,fun k hk hne=>(h'.block k (Nat.lt_of_lt_of_le hk h.size) hne).trans (h.block k hk hne)⟩
theorem grown_drew (w:World) (r:Option Nat):w.grownBy w.drew r:=⟨rfl,rfl,rfl,Nat.le_refl _,fun _ _ _=>rfl⟩
theorem grown_self (w:World) (r:Option Nat):w.grownBy w r:=⟨rfl,rfl,rfl,Nat.le_refl _,fun _ _ _=>rfl⟩
/-- A list that is turned from the left. -/
def stM (f g:Nat → Int) (n k:Nat):List Int:=(List.range n).map fun i=>if i < k then f i else g i
theorem stM_zero (f g:Nat → Int) (n:Nat):stM f g n 0=(List.range n).map g:=by unfold stM;apply List.map_congr_left;intro i _;rw [if_neg (by omega)]
theorem stM_all (f g:Nat → Int) (n:Nat):stM f g n n=(List.range n).map f:=by unfold stM;apply List.map_congr_left;intro i hi;rw [if_pos (List.mem_range.1 hi)]
theorem stM_at (f g:Nat → Int) (n k:Nat) (h:k < n):(stM f g n k)[k]?=some (g k):=by
 unfold stM
 rw [List.getElem?_map,List.getElem?_range h]
 simp
theorem stM_set (f g:Nat → Int) (n k:Nat):(stM f g n k).set k (f k)=stM f g n (k+1):=by
 unfold stM
 apply List.ext_getElem (by simp)
 intro i h1 h2
 rw [List.getElem_set]
 simp only [List.getElem_map,List.getElem_range]
 by_cases e:k=i
 ·subst e;rw [if_pos rfl,if_pos (by omega)]
 ·rw [if_neg e]
  by_cases h:i < k
  ·rw [if_pos h,if_pos (by omega)]
  ·rw [if_neg h,if_neg (by omega)]
theorem list_range {l:List Int} {n:Nat} (h:l.length=n):(List.range n).map (fun i=>l.getD i 0)=l:=by
 subst h
 apply List.ext_getElem (by simp)
 intro i h1 h2
 simp at h1
 simp [List.getD_eq_getElem?_getD,List.getElem?_eq_getElem h1]
theorem biased_any (p:Addr) (B:Option Addr) (nb cb:Nat) (bl:List Int) (m base q N:Nat) (l:List Int) (w:World) (hb:Sl (tInt .i32) w (blo m) B nb cb bl) (hm:m≤base) (hp:w.cell? p=some (.slice B nb cb)) (hpq:p.block ≠ q)
  (hown:Own (tInt .i32) w (fun _=>False) base 21 (.slice (some ⟨q,0,none⟩) N N) N l) (hnb:1≤nb) (hN:N≤65536) :
  Calls Tryz.prog 122 #[.slice (some ⟨q,0,none⟩) N N,.pointer (some p)] w fun e w'=>e=.returned (.tuple #[])∧Own (tInt .i32) w' (fun _=>False) base 21 (.slice (some ⟨q,0,none⟩) N N) N ((List.range N).map fun i=>wrap32 (l.getD i 0+bl.getD (i % nb) 0))∧w.grownBy w' (some q):=by
 have HB:=zH hb
 have HP:=zH hp
 have mx:=Nat.le_trans hb.cap_le hb.max_le
 have mx2:nb≤9223372036854775807:=mx
 have lq:=hown.lt _ rfl
 have PQ:=zH hpq
 have hlen:=hown.length (by decide)
 have ON:=zH (show Own (tInt .i32) w (fun _=>False) base 21 (.slice (some ⟨q,0,none⟩) N N) N (stM (fun i=>wrap32 (l.getD i 0+bl.getD (i % nb) 0)) (fun i=>l.getD i 0) N 0) by rw [stM_zero,list_range hlen];exact hown)
 have nz:¬ nb=0:=by omega
 have nz2:(nb:Int) ≠ 0:=by omega
 clear hb hp hown hlen hpq mx
 go_enter Tryz.func122,Tryz.ntmps122
 go_wp2_with fail
 go_loopw [6] (fun ii wr=>∃ k:Nat,k≤N∧ii=.int .i64 k∧w.grownBy wr (some q)∧Own (tInt .i32) wr (fun _=>False) base 21 (.slice (some ⟨q,0,none⟩) N N) N (stM (fun i=>wrap32 (l.getD i 0+bl.getD (i % nb) 0)) (fun i=>l.getD i 0) N k)) (fun ii _=>N - (intOf ii).toNat)
 case atStart=>exact ⟨0,Nat.zero_le _,rfl,grown_self _ _,ON.out⟩
 case round =>
  obtain ⟨k,hk,rfl,hg,hon⟩:=hrel
  clear ON
  have GR:=zH hg
  have ON:=zH hon
  clear hg hon
  by_cases hlt:k < N
  ·have p1:(k:Int) < (N:Int):=by omega
   obtain ⟨kb,hkb⟩:∃ x,k % nb=x:=⟨_,rfl⟩
   have hkl:kb < nb:=by rw [← hkb];exact Nat.mod_lt _ hnb
   have d1:(k:Int).tmod (nb:Int)=(kb:Int):=by rw [← hkb,Int.tmod_eq_emod_of_nonneg (by omega)];simp
   have d2:(k:Int) % (nb:Int)=(kb:Int):=by rw [← hkb];simp
   have g1:IntKind.i64.wrap (kb:Int)=(kb:Int):=IntWalk.i64_in _ (by omega)
   have hp:wr.cell? p=some (.slice B nb cb):=cell_grown GR.out HP.out (fun e=>PQ.out (Option.some.inj e))
   obtain ⟨bz,oz,rfl,hz1,-,cy,iy⟩:=HB.out.int_at kb hkl
   have cy':wr.cell? ⟨bz,oz+kb,none⟩=some (.int .i32 (bl.getD kb 0)):=cell_grown GR.out cy (fun e=>by have:=Option.some.inj e;simp only at this;unfold blo at hz1;omega)
   obtain ⟨x0,u0,hx0,hu0,c5,c6,c7,-⟩:=ON.out.cell rfl k hlt
   rw [stM_at _ _ _ _ hlt] at hx0
   obtain ⟨hu1,hu2⟩:=hu0
   simp only [List.cons.injEq,and_true] at hu1
   subst hu1
   have hx1:=Option.some.inj hx0
   have FS:=zH (stM_set (fun i=>wrap32 (l.getD i 0+bl.getD (i % nb) 0)) (fun i=>l.getD i 0) N k)
   obtain ⟨y,hy⟩:∃ x,bl.getD kb 0=x:=⟨_,rfl⟩
   rw [hy] at cy'
   obtain ⟨res,hres⟩:∃ r,wrap32 (x0+y)=r:=⟨_,rfl⟩
   have e6:IntKind.i32.wrap (x0+y)=res:=by rw [IntKind.wrap_i32,← hres];unfold wrap32;rfl
   have FE:=zH (show wrap32 (l.getD k 0+bl.getD (k % nb) 0)=res by rw [hkb,hy,hx1,hres])
   have RE:=zH (show InK .i32 res by rw [inK_i32,← hres];exact wrap32_in _)
   clear hkb hy hres hx0 hx1 cy hu2
   go_wp2_with fail
   go_still_tail 12,(by kernel_rfl)
   change wpList _ _ _ _ _ wr.drew
   have G2:=zH (grown_tr GR.out (grown_drew wr (some q)))
   have O2:=zH (ON.out.heap (w':=wr.drew) rfl)
   clear c5 c6 c7 cy' hp ON GR
   generalize wr.drew=wy at *
   obtain ⟨x9,u9,-,-,c5,c6,c7,-⟩:=O2.out.cell rfl k hlt
   go_wp2_with fail
   obtain ⟨o3,g3⟩:=O2.out.set1 rfl k (.int .i32 res) res ⟨rfl,RE.out⟩ (fun _ h=>h.elim)
   have fs:=FS.out
   simp only [FE.out] at fs
   rw [fs] at o3
   exact ⟨⟨k+1,by omega,by go_num,grown_tr G2.out g3,o3⟩,by simp [intOf];omega⟩
  ·obtain rfl:k=N:=by omega
   go_wp2_with fail
   ((try simp only [Exit.inBlock,Exit.then]);refine bodyPost_end (results_none rfl _ _ _) rfl ?_)
   have e:=ON.out
   rw [stM_all] at e
   exact ⟨rfl,e,GR.out⟩
end Go.Proofs.YtlbkekabmpienaaGreat
namespace Go.Proofs.YtlbkekabmpienaaGreat
set_option linter.unusedVariables false
set_option linter.unusedSimpArgs false
open Go.RowKit Go.ChangeShapes Go.WideShapes Fx
set_option maxRecDepth 100000
set_option maxHeartbeats 4000000
theorem gemMay_any (A:Option Addr) (n cap:Nat) (l:List Int) (w:World) (hl:Sl (tInt .i64) w (blo w.heap.size) A n cap l) (hn:n≤1024) (hb:∀ i,i < n → 1≤l.getD i 0∧l.getD i 0≤16384) :
  Calls Tryz.prog 120 #[.slice A n cap] w fun e w'=>e=.returned (.bool true)∧w=w':=by
 have H:=zH hl
 have HB:=zH hb
 clear hl hb
 go_enter Tryz.func120,Tryz.ntmps120
 go_wp2_with fail
 go_loopw [7] (fun ii wr=>∃ k:Nat,k≤n∧ii=.int .i64 k∧w=wr) (fun ii _=>n - (intOf ii).toNat)
 case atStart=>exact ⟨0,Nat.zero_le _,rfl,rfl⟩
 case round =>
  obtain ⟨k,hk,rfl,rfl⟩:=hrel
  by_cases hlt:k < n
  ·have p1:(k:Int) < (n:Int):=by omega
   obtain ⟨b,o,rfl,-,-,cx,ix⟩:=H.out.int_at k hlt
   obtain ⟨x1,x2⟩:=HB.out k hlt
   obtain ⟨x,hx⟩:∃ x,l.getD k 0=x:=⟨_,rfl⟩
   rw [hx] at cx ix x1 x2
   have t1:¬ x < 1:=by omega
   have t2:¬ 16384 < x:=by omega
   clear hx
   go_wp2_with fail
   exact ⟨⟨k+1,by omega,by go_num,by trivial⟩,by simp [intOf];omega⟩
  ·obtain rfl:k=n:=by omega
   go_wp2_with fail
   go_ret
   exact ⟨rfl,by trivial⟩
end Go.Proofs.YtlbkekabmpienaaGreat
namespace Go.Proofs.YtlbkekabmpienaaGreat
set_option linter.unusedVariables false
set_option linter.unusedSimpArgs false
open Go.RowKit Go.ChangeShapes Go.WideShapes
set_option maxRecDepth 100000
set_option maxHeartbeats 2000000
/-- A whole number's size, shifted and rounded: halves go away from 0. -/
def sizeR (m:Nat) (s:Nat):Nat:=m / 2 ^ s+if s=0 then 0 else m / 2 ^ (s - 1) % 2
def roundV (v s:Int):Int:=if s < 0 ∨ 62 < s then 0 else if v < 0 then -(sizeR v.natAbs s.toNat:Int) else (sizeR v.natAbs s.toNat:Int)
theorem sizeR_le (m s:Nat):sizeR m s≤m:=by
 unfold sizeR
 split
 ·rename_i h;subst h;simp
 ·rename_i h
  obtain ⟨k,rfl⟩:∃ k,s=k+1:=⟨s - 1,by omega⟩
  rw [Nat.add_sub_cancel,Nat.pow_succ,← Nat.div_div_eq_div_mul]
  have:=Nat.div_le_self m (2 ^ k)
  omega
theorem and_half (m k:Nat) (hm:m < 18446744073709551616) (hk:k < 63):bits .and .u64 (m:Int) ((2 ^ k:Nat):Int) / ((2:Int) ^ k)=((m / 2 ^ k % 2:Nat):Int):=by
 have hp:2 ^ k < 18446744073709551616:=Nat.lt_of_lt_of_le (Nat.pow_lt_pow_right (by decide) hk) (by decide)
 rw [bits_and_u64_nat m (2 ^ k) hm hp]
 have:m &&& 2 ^ k=m / 2 ^ k % 2*2 ^ k:=by
  have e:=and_bit_var 64 m (k:Int) (by omega)
  rw [Int.toNat_natCast,Nat.min_eq_left (by omega),if_neg (by omega)] at e
  have e2:((2:Int) ^ k % 2 ^ 64).toNat=2 ^ k:=by
   have e3:((2:Int) ^ k)=((2 ^ k:Nat):Int):=by simp
   rw [e3]
   generalize 2 ^ k=p at *
   omega
  rw [e2] at e
  exact e
 rw [this,show ((2:Int) ^ k)=((2 ^ k:Nat):Int) by simp,← Int.natCast_ediv,Nat.mul_div_cancel _ (Nat.two_pow_pos k)]
theorem size_eq (m k:Nat) (hm:m≤9223372036854775808) (hk:k < 63):IntKind.u64.wrap ((m:Int) / 2 ^ (k+1)+bits BinOp.and IntKind.u64 (m:Int) (IntKind.u64.wrap (2 ^ k)) / 2 ^ k)=(sizeR m (k+1):Int):=by
 have hp:2 ^ k < 18446744073709551616:=Nat.lt_of_lt_of_le (Nat.pow_lt_pow_right (by decide) hk) (by decide)
 have e0:IntKind.u64.wrap (2 ^ k)=((2 ^ k:Nat):Int):=by
  rw [show ((2:Int) ^ k)=((2 ^ k:Nat):Int) by simp,IntKind.wrap_u64]
  generalize 2 ^ k=p at *
  omega
 rw [e0,and_half m k (by omega) hk,show ((2:Int) ^ (k+1))=((2 ^ (k+1):Nat):Int) by simp,← Int.natCast_ediv,← Int.natCast_add]
 have e1:m / 2 ^ (k+1)+m / 2 ^ k % 2=sizeR m (k+1):=by unfold sizeR;rw [if_neg (by omega),Nat.add_sub_cancel]
 have:=sizeR_le m (k+1)
 rw [e1,IntKind.wrap_u64]
 omega
theorem round_any (v s:Int) (w:World) (hv:InK .i64 v):Calls Tryz.prog 147 #[.int .i64 v,.int .i64 s] w fun e w'=>e=.returned (.int .i64 (roundV v s))∧Below w.heap.size w w':=by
 rw [inK_i64] at hv
 obtain ⟨hv1,hv2⟩:=hv
 unfold roundV
 by_cases a1:s < 0
 ·rw [if_pos (.inl a1)]
  go_enter Tryz.func147,Tryz.ntmps147
  go_wp2_with fail
  go_step3
  go_wp2_with fail
  rw [Exit.noGoto_ret]
  go_ret
  exact ⟨rfl,Below.refl _ _⟩
 ·by_cases a2:62 < s
  ·rw [if_pos (.inr a2)]
   go_enter Tryz.func147,Tryz.ntmps147
   go_wp2_with fail
   go_step3
   go_wp2_with fail
   rw [Exit.noGoto_ret]
   go_ret
   exact ⟨rfl,Below.refl _ _⟩
  ·rw [if_neg (by omega)]
   obtain ⟨n,rfl⟩:∃ n:Nat,s=n:=⟨s.toNat,by omega⟩
   rw [Int.toNat_natCast]
   have hs62:n≤62:=by omega
   clear a1 a2
   by_cases b1:v < 0
   ·rw [if_pos b1]
    obtain ⟨m,rfl⟩:∃ m:Nat,v=-(m:Int):=⟨v.natAbs,by omega⟩
    rw [show (-(m:Int)).natAbs=m by omega]
    have b2:¬ m=0:=by omega
    have hm:m≤9223372036854775808:=by omega
    obtain ⟨x,hx⟩:∃ x:Int,18446744073709551616 - (m:Int)=x:=⟨_,rfl⟩
    have u1:IntKind.u64.wrap (-(m:Int))=x:=by rw [IntKind.wrap_u64];omega
    have u2:IntKind.u64.wrap (-x)=(m:Int):=by rw [IntKind.wrap_u64];omega
    have u5:wrap64 x=-(m:Int):=by rw [← hx];unfold wrap64;omega
    obtain ⟨r,hr⟩:∃ r,sizeR m n=r:=⟨_,rfl⟩
    have hrm:r≤m:=by rw [← hr];exact sizeR_le m n
    obtain ⟨y,hy⟩:∃ y:Int,(-(r:Int)) % 18446744073709551616=y:=⟨_,rfl⟩
    have u3:IntKind.u64.wrap (-(r:Int))=y:=by rw [IntKind.wrap_u64,hy]
    have u4:IntKind.i64.wrap y=-(r:Int):=by rw [IntKind.wrap_i64,← hy];omega
    rw [hr]
    have b3:¬ (0:Int)≤-(m:Int):=by omega
    by_cases c1:n=0
    ·subst c1
     obtain rfl:m=r:=by rw [← hr];simp [sizeR]
     clear hx hy hr
     go_enter Tryz.func147,Tryz.ntmps147
     go_wp2_with fail
     go_step3
     go_wp2_with fail
     go_step3
     go_wp2_with fail
     rw [Exit.noGoto_ret]
     go_ret
     exact ⟨by show Ending.returned (.int .i64 (wrap64 x))=_;rw [u5],Below.refl _ _⟩
    ·obtain ⟨k,rfl⟩:∃ k,n=k+1:=⟨n - 1,by omega⟩
     have HR:=zH (size_eq m k hm (by omega))
     rw [hr] at HR
     clear hx hy hr
     go_enter Tryz.func147,Tryz.ntmps147
     go_wp2_with fail
     go_step3
     go_wp2_with fail
     go_step3
     go_wp2_with fail
     go_quiet (fail)
     rw [HR.out]
     go_wp2_with fail
     rw [Exit.noGoto_ret]
     go_ret
     exact ⟨rfl,below_drewN (Below.refl _ _) _⟩
   ·rw [if_neg b1]
    obtain ⟨m,rfl⟩:∃ m:Nat,v=(m:Int):=⟨v.natAbs,by omega⟩
    rw [show ((m:Int)).natAbs=m by omega]
    obtain ⟨r,hr⟩:∃ r,sizeR m n=r:=⟨_,rfl⟩
    have hrm:r≤m:=by rw [← hr];exact sizeR_le m n
    rw [hr]
    by_cases c1:n=0
    ·subst c1
     obtain rfl:m=r:=by rw [← hr];simp [sizeR]
     clear hr
     go_enter Tryz.func147,Tryz.ntmps147
     go_wp2_with fail
     refine wp_scope_fore 0 rfl ?_
     go_wp2_with fail
     go_step3
     refine ⟨rfl,?_⟩
     go_wp2_with fail
     rw [Exit.noGoto_ret]
     go_ret
     exact ⟨rfl,Below.refl _ _⟩
    ·obtain ⟨k,rfl⟩:∃ k,n=k+1:=⟨n - 1,by omega⟩
     have HR:=zH (size_eq m k (by omega) (by omega))
     rw [hr] at HR
     clear hr
     go_enter Tryz.func147,Tryz.ntmps147
     go_wp2_with fail
     refine wp_scope_fore 0 rfl ?_
     go_wp2_with fail
     go_step3
     refine ⟨rfl,?_⟩
     go_wp2_with fail
     go_quiet (fail)
     rw [HR.out]
     go_wp2_with fail
     rw [Exit.noGoto_ret]
     go_ret
     exact ⟨rfl,below_drewN (Below.refl _ _) _⟩
end Go.Proofs.YtlbkekabmpienaaGreat
namespace Go.Proofs.YtlbkekabmpienaaGreat
set_option linter.unusedVariables false
set_option linter.unusedSimpArgs false
open Go.RowKit Go.ChangeShapes Go.WideShapes Fx
set_option maxRecDepth 100000
set_option maxHeartbeats 4000000
def hiN (l:List Int):Nat → Int
 | 0=>l.getD 0 0
 | k+1=>if hiN l k < l.getD k 0 then l.getD k 0 else hiN l k
end Go.Proofs.YtlbkekabmpienaaGreat
namespace Go.Proofs.YtlbkekabmpienaaGreat
set_option linter.unusedVariables false
set_option linter.unusedSimpArgs false
open Go.RowKit Go.ChangeShapes Go.WideShapes Fx
set_option maxRecDepth 100000
set_option maxHeartbeats 4000000
theorem hiN_one (l:List Int):hiN l 1=l.getD 0 0:=by
 show (if hiN l 0 < l.getD 0 0 then l.getD 0 0 else hiN l 0)=_
 split
 ·rfl
 ·rfl
theorem max8_any (A:Option Addr) (n cap:Nat) (l:List Int) (w:World) (hl:Sl (tInt .i8) w (blo w.heap.size) A n cap l) (hn:n≤1024) (h1:1≤n) :
  Calls Tryz.prog 96 #[.slice A n cap] w fun e w'=>e=.returned (.int .i8 (hiN l n))∧w=w':=by
 have H:=zH hl
 clear hl
 obtain ⟨b,o,rfl,-,-,c0,i0⟩:=H.out.int_at 0 (by omega)
 rw [Nat.add_zero] at c0
 have t1:¬ (n:Int) < 1:=by omega
 have H0:=zH (hiN_one l)
 obtain ⟨x0,hx0⟩:∃ x,l.getD 0 0=x:=⟨_,rfl⟩
 rw [hx0] at c0 i0 H0
 clear hx0
 go_enter Tryz.func96,Tryz.ntmps96
 go_wp2_with fail
 clear c0
 go_loopw [3,4] (fun v ii wr=>∃ k:Nat,k≤n∧1≤k∧ii=.int .i64 k∧v=.int .i8 (hiN l k)∧w=wr) (fun _ ii _=>n - (intOf ii).toNat)
 case atStart=>exact ⟨1,h1,Nat.le_refl _,rfl,by rw [H0.out],rfl⟩
 case round =>
  obtain ⟨k,hk,hk1,rfl,rfl,rfl⟩:=hrel
  by_cases hlt:k < n
  ·have p1:(k:Int) < (n:Int):=by omega
   obtain ⟨b',o',e',-,-,cx,ix⟩:=H.out.int_at k hlt
   simp only [Option.some.injEq,Addr.mk.injEq,and_true] at e'
   obtain ⟨rfl,rfl⟩:=e'
   have HS:=zH (show hiN l (k+1)=if hiN l k < l.getD k 0 then l.getD k 0 else hiN l k from rfl)
   obtain ⟨x,hx⟩:∃ x,l.getD k 0=x:=⟨_,rfl⟩
   rw [hx] at cx ix HS
   clear hx
   go_wp2_with fail
   exact ⟨⟨k+1,by omega,by omega,by go_num,by rw [HS.out],by trivial⟩,by simp [intOf];omega⟩
  ·obtain rfl:k=n:=by omega
   go_wp2_with fail
   go_ret
   exact ⟨rfl,by trivial⟩
theorem greatest_any (A:Option Addr) (n cap:Nat) (l:List Int) (w:World) (hl:Sl (tInt .i8) w (blo w.heap.size) A n cap l) (hn:n≤1024) (h1:1≤n) :
  Calls Tryz.prog 53 #[.slice A n cap] w fun e w'=>e=.returned (.int .i8 (hiN l n))∧w=w':=by
 go_enter Tryz.func53,Tryz.ntmps53
 go_wp2_with (go_at_call 96;refine (max8_any A n cap l _ hl hn h1).mono ?_;rintro e w2 ⟨rfl,rfl⟩)
 go_ret
 exact ⟨rfl,rfl⟩
end Go.Proofs.YtlbkekabmpienaaGreat
namespace Go.Proofs.YtlbkekabmpienaaGreat
set_option linter.unusedVariables false
set_option linter.unusedSimpArgs false
open Go.RowKit Go.ChangeShapes Go.WideShapes
set_option maxRecDepth 100000
theorem ei_i8':EI Tryz.prog 23 22 (.int .i8 0) 1 1:=⟨Tryz.underlying23,by kernel_rfl,rfl,by decide⟩
theorem clone8_any (A:Option Addr) (n c:Nat) (l:List Int) (w:World) (h:Sl (tInt .i8) w (blo w.heap.size) A n c l) (hn:n≤140737488351232) :
  Calls Tryz.prog 62 #[.slice A n c] w (RetSl (tInt .i8) w l):=by
 cases A with
 | none =>
  have hc:=h.nil_ rfl
  have hm:=h.cap_le
  obtain rfl:c=0:=hc
  obtain rfl:n=0:=by omega
  obtain rfl:l=[]:=List.length_eq_zero_iff.1 h.n_eq
  clear h
  have q0:=fun w=>Lib.run_eql_slice_nil (P:=Tryz.prog) w 23 22 none 0 0 0 0 Tryz.underlying23
  simp only [Option.isNone_none] at q0
  go_enter Tryz.func62,Tryz.ntmps62
  go_wp2_with fail
  go_ret
  exact ⟨none,0,0,rfl,Sl.nil _ _ _,Below.refl _ _⟩
 | some ad =>
  have H:=zH h
  clear h
  have q0:=fun w=>Lib.run_eql_slice_nil (P:=Tryz.prog) w 23 22 (some ad) n c 0 0 Tryz.underlying23
  simp only [Option.isNone_some] at q0
  go_enter Tryz.func62,Tryz.ntmps62
  have o0:=Own.lit0 (W:=w) (k:=.i8) (E:=22) (base:=w.heap.size) (Nat.le_refl _)
  have k0:Below w.heap.size w (w.alloc (.cells #[] 22)):=(Below.refl _ _).alloc (Nat.le_refl _) _
  have s0:=H.out.later k0 (Nat.le_refl _)
  go_wp2_with (at_builtin;refine wpList_extend rfl _ _ rfl ei_i8' rfl o0 rfl s0 (by unfold maxLen;omega) (by omega) k0.size ?_;intro v' w' o' g' a')
  go_ret
  refine o'.ret (by decide) (k0.grown g' k0.size (fun k h=>(o0.lt k h).1)) (fun b h=>h.elim)
end Go.Proofs.YtlbkekabmpienaaGreat
namespace Go.Proofs.YtlbkekabmpienaaGreat
set_option linter.unusedVariables false
set_option linter.unusedSimpArgs false
open Go
section
variable {P:Program} {ops:Array Oper} {Q:Exit → Act → World → Prop} {o:Oper} {a:Act} {k:IntKind} {w:World} {base q N:Nat} {E:TypeId} {L:List Int}
theorem own_copied (own:Own (tInt k) w (fun _=>False) base E (.slice (some ⟨q,0,none⟩) N N) N L) (off:Nat) (xs:List Int) (hx:∀ x ∈ xs,InK k x) (hfit:off+xs.length≤N) :
  ∃ cur:Array Value,w.heap[q]?=some (.cells cur E (0,0))∧cur.size=N∧∀ w',w'=w.setRow q (cur.toList.take off ++ (xs.map (Value.int k) ++ cur.toList.drop (off+xs.length))).toArray →
   Own (tInt k) w' (fun _=>False) base E (.slice (some ⟨q,0,none⟩) N N) N (splice L off xs)∧w.grownBy w' (some q):=by
 obtain ⟨vs,⟨h1,h2⟩,h3⟩:=own.out
 obtain ⟨e1,e2⟩:=h3.ints_iff
 rcases h2 with ⟨e,-⟩|⟨g,cap,cur,e,hb,hg,hc,hm,hs,ht⟩
 ·cases e
 ·injection e with e e' e''
  injection e with e
  injection e with e
  subst e e''
  have sz:(tInt k).size=1:=rfl
  rw [sz,Nat.mul_one] at hs ht h1
  have hcl:cur.toList=L.map (Value.int k):=by
   rw [← e1,← ht,List.take_of_length_le (by rw [Array.length_toList];omega)]
  refine ⟨cur,hg,hs,?_⟩
  rintro w' rfl
  have hl:(splice L off xs).length=N:=by
   have:L.length=N:=by rw [← h1,e1,List.length_map]
   rw [length_splice _ _ _ (by omega),this]
  have hrow:(cur.toList.take off ++ (xs.map (Value.int k) ++ cur.toList.drop (off+xs.length)))=(splice L off xs).map (Value.int k):=by
   rw [hcl];simp [splice]
  rw [hrow]
  refine ⟨⟨(splice L off xs).map (Value.int k),⟨by rw [List.length_map,hl,sz,Nat.mul_one],.inr ⟨q,N,((splice L off xs).map (Value.int k)).toArray,rfl,hb,setRow_heap w q _ _ E _ hg,Nat.le_refl _,hm,by simp [hl,sz],by rw [sz,Nat.mul_one,List.take_of_length_le (by simp [hl])]⟩⟩,RowsOf.ints ?_⟩,⟨rfl,rfl,rfl,by simp [World.setRow],fun j _ hj=>setRow_other w q j _ (fun e=>hj (by rw [e]))⟩⟩
  intro x hxm
  unfold splice at hxm
  rcases List.mem_append.1 hxm with h|h
  ·exact e2 x (List.mem_of_mem_take h)
  ·rcases List.mem_append.1 h with h|h
   ·exact hx x h
   ·exact e2 x (List.mem_of_mem_drop h)
theorem oper_copyO {K:Act → World → Prop} (d s:Operand) (dT sT:TypeId) (ho:o.op=.call { callee:=.builtin .copy,args:=#[d,s],argTypes:=#[dT,sT] }) (elem:TypeId) (hu:P.underlying dT=some (.slice elem)) (hsz:(P.info? elem).map (·.size)=some 1)
  (own:Own (tInt k) w (fun _=>False) base E (.slice (some ⟨q,0,none⟩) N N) N L) (off dLen dCap:Nat) (hd:a.eval d=.slice (some ⟨q,off,none⟩) dLen dCap) (ad:Addr) (sLen sCap:Nat) (hs:a.eval s=.slice (some ad) sLen sCap)
  (xs:List Int) (hx:∀ x ∈ xs,InK k x) (hn:xs.length=Nat.min sLen dLen) (hsrc:∀ j,j < xs.length → w.cell? (ad.add j)=some (.int k (xs.getD j 0))) (hfit:off+xs.length≤N)
  (h:∀ w',Own (tInt k) w' (fun _=>False) base E (.slice (some ⟨q,0,none⟩) N N) N (splice L off xs) → w.grownBy w' (some q) → K (a.put o.dst (goInt xs.length)) w'):Oper.wp P o a w K Q:=by
 obtain ⟨cur,hg,hc,hw⟩:=own_copied own off xs hx hfit
 have hrun:=run_copy_row (P:=P) w dT sT o.type elem q off dLen dCap ad sLen sCap cur E (xs.map (Value.int k)) hu hsz hg (by simpa using hn) (fun j v hv=>by
  rw [List.getElem?_map] at hv
  have hj:j < xs.length:=by
   cases e:xs[j]? with
   | none=>rw [e] at hv;cases hv
   | some y=>exact (List.getElem?_eq_some_iff.1 e).1
  rw [hsrc j hj,← hv,List.getD_eq_getElem?_getD,List.getElem?_eq_getElem hj];rfl) (by simpa [hc] using hfit) (by intro v hv;obtain ⟨y,-,rfl⟩:=List.mem_map.1 hv;rfl)
 obtain ⟨h1,h2⟩:=hw _ rfl
 have:=h _ h1 h2
 unfold Oper.wp
 simp only [List.length_map] at hrun
 simp [execOp,ho,resolve,invoke,builtin,hd,hs,hrun,Result.andThen]
 exact this
theorem wpList_copyO {rest:List Oper} (hgd:o.guard=none) (d s:Operand) (dT sT:TypeId) (ho:o.op=.call { callee:=.builtin .copy,args:=#[d,s],argTypes:=#[dT,sT] }) (elem:TypeId) (hu:P.underlying dT=some (.slice elem)) (hsz:(P.info? elem).map (·.size)=some 1)
  (own:Own (tInt k) w (fun _=>False) base E (.slice (some ⟨q,0,none⟩) N N) N L) (off dLen dCap:Nat) (hd:a.eval d=.slice (some ⟨q,off,none⟩) dLen dCap) (ad:Addr) (sLen sCap:Nat) (hs:a.eval s=.slice (some ad) sLen sCap)
  (xs:List Int) (hx:∀ x ∈ xs,InK k x) (hn:xs.length=Nat.min sLen dLen) (hsrc:∀ j,j < xs.length → w.cell? (ad.add j)=some (.int k (xs.getD j 0))) (hfit:off+xs.length≤N)
  (h:∀ w',Own (tInt k) w' (fun _=>False) base E (.slice (some ⟨q,0,none⟩) N N) N (splice L off xs) → w.grownBy w' (some q) → wpList P ops Q rest (a.put o.dst (goInt xs.length)) w'):wpList P ops Q (o :: rest) a w :=
 wpList_plain hgd fun K hK=>oper_copyO d s dT sT ho elem hu hsz own off dLen dCap hd ad sLen sCap hs xs hx hn hsrc hfit fun w' h1 h2=>hK _ _ (h w' h1 h2)
end
end Go.Proofs.YtlbkekabmpienaaGreat
namespace Go.Proofs.YtlbkekabmpienaaGreat
set_option linter.unusedVariables false
set_option linter.unusedSimpArgs false
open Go.RowKit Go.ChangeShapes Go.WideShapes
/-- A node is handed back, its numbers in new memory. -/
def RetNode (d:Node) (w:World) (e:Ending) (w':World):Prop :=
 ∃ (W:Option Addr) (nw cw:Nat) (B:Option Addr) (nb cb:Nat),e=.returned (.agg #[.int .i64 d.kind,.int .i64 d.a,.int .i64 d.b,.int .i64 d.k,.int .i64 d.s,.int .i64 d.p,.int .i64 d.out,.int .i8 d.za,.int .i8 d.zb,.slice W nw cw,.slice B nb cb,.int .i32 d.qm,.int .i64 d.qs,.int .i8 d.qz,.int .i32 d.rm,.int .i64 d.rs,.int .i8 d.rz,.int .i8 d.lo,.int .i8 d.hi])∧Sl (tInt .i8) w' (bin w.heap.size w'.heap.size) W nw cw d.w∧Sl (tInt .i32) w' (bin w.heap.size w'.heap.size) B nb cb d.bias∧Below w.heap.size w w'
end Go.Proofs.YtlbkekabmpienaaGreat
namespace Go.Proofs.YtlbkekabmpienaaGreat
theorem list_eq_getD {l l':List Int} {n:Nat} (h1:l.length=n) (h2:l'.length=n) (h:∀ j,j < n → l.getD j 0=l'.getD j 0):l=l':=by
 apply List.ext_getElem (by omega)
 intro j ha hb
 have:=h j (by omega)
 rw [List.getD_eq_getElem?_getD,List.getD_eq_getElem?_getD,List.getElem?_eq_getElem ha,List.getElem?_eq_getElem hb] at this
 exact this
end Go.Proofs.YtlbkekabmpienaaGreat
namespace Go.Proofs.YtlbkekabmpienaaGreat
set_option linter.unusedVariables false
set_option linter.unusedSimpArgs false
open Go.RowKit Go.ChangeShapes Go.WideShapes
set_option maxRecDepth 100000
theorem equal8_any (A A':Option Addr) (n cap n' cap':Nat) (l l':List Int) (w:World) (h:Sl (tInt .i8) w (blo w.heap.size) A n cap l) (h':Sl (tInt .i8) w (blo w.heap.size) A' n' cap' l') :
  Calls Tryz.prog 88 #[.slice A n cap,.slice A' n' cap'] w fun e w'=>e=.returned (.bool (decide (l=l')))∧Below w.heap.size w w':=by
 have hm:n≤9223372036854775807:=Nat.le_trans h.cap_le h.max_le
 have hm':n'≤9223372036854775807:=Nat.le_trans h'.cap_le h'.max_le
 have H:=zH h
 have H':=zH h'
 clear h h'
 by_cases hn:n=n'
 rotate_left
 ·have d1:((n:Int) != (n':Int))=true:=by rw [bne_iff_ne];omega
  have d2:decide (l=l')=false:=by rw [decide_eq_false_iff_not];rintro rfl;exact hn (H.out.n_eq.symm.trans H'.out.n_eq)
  rw [d2]
  clear hn
  go_enter Tryz.func88,Tryz.ntmps88
  go_wp2_with fail
  go_ret
  exact ⟨rfl,Below.refl _ _⟩
 subst hn
 have d1:((n:Int) != (n:Int))=false:=by simp
 go_enter Tryz.func88,Tryz.ntmps88
 go_wp2_with fail
 go_loopw [13] (fun i wr=>∃ k:Nat,k≤n∧i=.int .i64 k∧wr.heap=w.heap∧Below w.heap.size w wr∧∀ j,j < k → l.getD j 0=l'.getD j 0) (fun i _=>n - (intOf i).toNat)
 case atStart=>exact ⟨0,Nat.zero_le _,rfl,rfl,Below.refl _ _,fun j hj=>absurd hj (Nat.not_lt_zero _)⟩
 case round =>
  obtain ⟨k,hk,rfl,hh,hb,hq⟩:=hrel
  have HQ:=zH hq
  clear hq
  by_cases hlt:k < n
  ·obtain ⟨b,off,rfl,_,_,c0,i0⟩:=(H.out.below hb (fun _ h=>h)).int_at k hlt
   obtain ⟨b',off',rfl,_,_,c1,i1⟩:=(H'.out.below hb (fun _ h=>h)).int_at k hlt
   have HH:=zH hh
   clear hh i0 i1
   by_cases he:l.getD k 0=l'.getD k 0
   ·rw [← he] at c1
    generalize hx:l.getD k 0=x at *
    have d3:(x != x)=false:=by simp
    have HX:=zH hx
    have HE:=zH he
    clear hx he
    go_wp2_with fail
    go_quiet (fail)
    go_wp2_with fail
    refine ⟨⟨k+1,by omega,by go_num,HH.out,below_drewN hb _,fun j hj=>?_⟩,by simp [intOf];omega⟩
    by_cases hjk:j < k
    ·exact HQ.out j hjk
    ·obtain rfl:j=k:=by omega
     rw [HX.out,HE.out]
   ·have d2:decide (l=l')=false:=by rw [decide_eq_false_iff_not];rintro rfl;exact he rfl
    have d3:(l.getD k 0 != l'.getD k 0)=true:=by rw [bne_iff_ne];exact he
    generalize l.getD k 0=x at *
    generalize l'.getD k 0=y at *
    have D2:=zH d2
    clear d2 he
    go_wp2_with fail
    go_quiet (fail)
    go_wp2_with fail
    go_ret
    exact ⟨by rw [D2.out];rfl,below_drewN hb _⟩
  ·obtain rfl:k=n:=by omega
   go_wp2_with fail
   go_ret
   exact ⟨by rw [decide_eq_true (list_eq_getD H.out.n_eq H'.out.n_eq HQ.out)];rfl,hb⟩
end Go.Proofs.YtlbkekabmpienaaGreat
namespace Go.Proofs.YtlbkekabmpienaaGreat
set_option linter.unusedVariables false
set_option linter.unusedSimpArgs false
open Go.RowKit Go.ChangeShapes Go.WideShapes
set_option maxRecDepth 100000
theorem equal32_any (A A':Option Addr) (n cap n' cap':Nat) (l l':List Int) (w:World) (h:Sl (tInt .i32) w (blo w.heap.size) A n cap l) (h':Sl (tInt .i32) w (blo w.heap.size) A' n' cap' l') :
  Calls Tryz.prog 89 #[.slice A n cap,.slice A' n' cap'] w fun e w'=>e=.returned (.bool (decide (l=l')))∧Below w.heap.size w w':=by
 have hm:n≤9223372036854775807:=Nat.le_trans h.cap_le h.max_le
 have hm':n'≤9223372036854775807:=Nat.le_trans h'.cap_le h'.max_le
 have H:=zH h
 have H':=zH h'
 clear h h'
 by_cases hn:n=n'
 rotate_left
 ·have d1:((n:Int) != (n':Int))=true:=by rw [bne_iff_ne];omega
  have d2:decide (l=l')=false:=by rw [decide_eq_false_iff_not];rintro rfl;exact hn (H.out.n_eq.symm.trans H'.out.n_eq)
  rw [d2]
  clear hn
  go_enter Tryz.func89,Tryz.ntmps89
  go_wp2_with fail
  go_ret
  exact ⟨rfl,Below.refl _ _⟩
 subst hn
 have d1:((n:Int) != (n:Int))=false:=by simp
 go_enter Tryz.func89,Tryz.ntmps89
 go_wp2_with fail
 go_loopw [13] (fun i wr=>∃ k:Nat,k≤n∧i=.int .i64 k∧wr.heap=w.heap∧Below w.heap.size w wr∧∀ j,j < k → l.getD j 0=l'.getD j 0) (fun i _=>n - (intOf i).toNat)
 case atStart=>exact ⟨0,Nat.zero_le _,rfl,rfl,Below.refl _ _,fun j hj=>absurd hj (Nat.not_lt_zero _)⟩
 case round =>
  obtain ⟨k,hk,rfl,hh,hb,hq⟩:=hrel
  have HQ:=zH hq
  clear hq
  by_cases hlt:k < n
  ·obtain ⟨b,off,rfl,_,_,c0,i0⟩:=(H.out.below hb (fun _ h=>h)).int_at k hlt
   obtain ⟨b',off',rfl,_,_,c1,i1⟩:=(H'.out.below hb (fun _ h=>h)).int_at k hlt
   have HH:=zH hh
   clear hh i0 i1
   by_cases he:l.getD k 0=l'.getD k 0
   ·rw [← he] at c1
    generalize hx:l.getD k 0=x at *
    have d3:(x != x)=false:=by simp
    have HX:=zH hx
    have HE:=zH he
    clear hx he
    go_wp2_with fail
    go_quiet (fail)
    go_wp2_with fail
    refine ⟨⟨k+1,by omega,by go_num,HH.out,below_drewN hb _,fun j hj=>?_⟩,by simp [intOf];omega⟩
    by_cases hjk:j < k
    ·exact HQ.out j hjk
    ·obtain rfl:j=k:=by omega
     rw [HX.out,HE.out]
   ·have d2:decide (l=l')=false:=by rw [decide_eq_false_iff_not];rintro rfl;exact he rfl
    have d3:(l.getD k 0 != l'.getD k 0)=true:=by rw [bne_iff_ne];exact he
    generalize l.getD k 0=x at *
    generalize l'.getD k 0=y at *
    have D2:=zH d2
    clear d2 he
    go_wp2_with fail
    go_quiet (fail)
    go_wp2_with fail
    go_ret
    exact ⟨by rw [D2.out];rfl,below_drewN hb _⟩
  ·obtain rfl:k=n:=by omega
   go_wp2_with fail
   go_ret
   exact ⟨by rw [decide_eq_true (list_eq_getD H.out.n_eq H'.out.n_eq HQ.out)];rfl,hb⟩
end Go.Proofs.YtlbkekabmpienaaGreat
