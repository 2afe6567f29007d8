/-
  The numbers of a window, one by one (layer 19: the function of pool.window).
  Numbers of eight bits that an iterator hands out, gathered (slices.AppendSeq, slices.Collect); those of a window (layer 19).
  The numbers of two lists, pair by pair (layer 20: join.pairs).
  A slice of one number, many times (slices.Repeat).
  What a node's kind tells (layer 25): kinds.Plain, some of the kinds.
-/
import Derived.RangeFuncNested
import Derived.RangeFuncBound
import Derived.RangeFuncCalls
import Derived.RangeFuncLeaves
import Derived.WalkKit
import Derived.OwnWalkIn
import Derived.TacticsInMore
import Derived.LoopNIn
import Derived.LoopIn
import Derived.Test.YtlbkekabmpienaaGreatJ20
import Derived.Test.YtlbkekabmpienaaGreatJ15
import Derived.Test.YtlbkekabmpienaaGreatJ00
import Derived.RangeFuncBox
import Derived.RangeFuncWrites
import Derived.Maps.AppendAt
import Derived.Deep.DeepCutAuto
import Derived.Deep.CutRange
import Derived.Deep.CutBlock
import Derived.StillTailTactics
import Derived.Test.YtlbkekabmpienaaGreatJ16
import Derived.Test.YtlbkekabmpienaaGreatJ02
import Derived.Test.YtlbkekabmpienaaGreatJ19
import Derived.Test.YtlbkekabmpienaaGreatChecked
import Derived.Test.YtlbkekabmpienaaGreatJ18
import Derived.Test.YtlbkekabmpienaaGreatJ08
import Derived.Test.YtlbkekabmpienaaGreatJ03
namespace Go.Proofs.YtlbkekabmpienaaGreat
set_option linter.unusedVariables false
set_option linter.unusedSimpArgs false
open Go.RowKit Go.ChangeShapes Go.WideShapes Fx
set_option maxRecDepth 100000
set_option maxHeartbeats 4000000
/-- A number of eight bits. -/
abbrev I8:={ x:Int // InK .i8 x }
def e8 (x:I8):Array Value:=#[Value.int .i8 x.1]
/-- What a window has of a channel, as far as place q. -/
def winX (H V C:Nat) (l:List Int) (hl:∀ i,InK .i8 (l.getD i 0)) (K S P:Nat) (c y x:Nat):Nat → List I8
 | 0=>[]
 | q+1=>if inside H V ((y*S+q / K:Nat) - (P:Int)) ((x*S+q % K:Nat) - (P:Int)) then winX H V C l hl K S P c y x q ++ [⟨l.getD (placeV V C ((y*S+q / K:Nat) - (P:Int)) ((x*S+q % K:Nat) - (P:Int)) c) 0,hl _⟩] else winX H V C l hl K S P c y x q
theorem winX_map (H V C:Nat) (l:List Int) (hl:∀ i,InK .i8 (l.getD i 0)) (K S P:Nat) (c y x:Nat):∀ q,(winX H V C l hl K S P c y x q).map (fun v=>v.1)=winL H V C l K S P c y x q
 | 0=>rfl
 | q+1=>by
  have ih:=winX_map H V C l hl K S P c y x q
  unfold winX winL
  split
  ·rw [List.map_append,ih];rfl
  ·exact ih
theorem winX_len (H V C:Nat) (l:List Int) (hl:∀ i,InK .i8 (l.getD i 0)) (K S P:Nat) (c y x q:Nat):(winX H V C l hl K S P c y x q).length≤q:=by
 rw [← List.length_map (f:=fun v:I8=>v.1),winX_map]
 exact winL_len H V C l K S P c y x q
theorem below_none {w w':World} (hb:Below w.heap.size w w'):w.grownBy w' none:=⟨hb.os,hb.tape,hb.output,hb.size,fun k hk _=>hb.block k hk⟩
theorem Blk.under {w w':World} {n₀ g:Nat} {e:TypeId} {cs:Array Value} (h:Blk w g e cs) (hb:Below n₀ w w') (hg:g < n₀):Blk w' g e cs:=⟨(hb.block g hg).trans h.heap⟩
theorem win1_stops (H V C:Nat) (A:Option Addr) (n cap:Nat) (l:List Int) (d:Node) (W:Option Addr) (nw cw:Nat) (B:Option Addr) (nb cb:Nat) (K S P y x c:Nat) (bN bT bH bW bC n₀ m:Nat) (w:World)
  (hl:Sl (tInt .i8) w (blo n₀) A n cap l) (hn:n=H*V*C) (hn2:n≤1024) (h1:1≤H∧H≤16) (v1:1≤V∧V≤16) (c1:1≤C∧C≤1024) (he:decide (0 < elems H V C)=true)
  (hk:d.k=K) (hs:d.s=S) (hp:d.p=P) (k1:1≤K∧K≤5) (s1:1≤S∧S≤4) (p1:P≤4) (hy:y≤1000) (hx:x≤1000) (hc:c < C)
  (BN:Blk w bN 28 #[.int .i64 d.kind,.int .i64 d.a,.int .i64 d.b,.int .i64 d.k,.int .i64 d.s,.int .i64 d.p,.int .i64 d.out,.int .i8 d.za,.int .i8 d.zb,.slice W nw cw,.slice B nb cb,.int .i32 d.qm,.int .i64 d.qs,.int .i8 d.qz,.int .i32 d.rm,.int .i64 d.rs,.int .i8 d.rz,.int .i8 d.lo,.int .i8 d.hi]) (BT:Blk w bT 32 #[.int .i64 H,.int .i64 V,.int .i64 C,.slice A n cap])
  (BH:Blk w bH 3 #[.int .i64 y]) (BW:Blk w bW 3 #[.int .i64 x]) (BC:Blk w bC 3 #[.int .i64 c]) (hb:bN < n₀∧bT < n₀∧bH < n₀∧bW < n₀∧bC < n₀) (hn₀:n₀≤w.heap.size) (hm:1≤m) :
  SeqStopsK Fence.wide m Tryz.prog 129 #[.pointer (some ⟨bN,0,none⟩),.pointer (some ⟨bT,0,none⟩),.pointer (some ⟨bH,0,none⟩),.pointer (some ⟨bW,0,none⟩),.pointer (some ⟨bC,0,none⟩)] e8 (Below n₀) (fun ys=>ys=winX H V C l hl.allK K S P c y x (K*K)) (fun _=>True) (K*K) w:=by
 intro lo J Jx W0 hW hJ hJx hY h0
 have h8:∀ i,InK .i8 (l.getD i 0):=hl.allK
 obtain ⟨XS,hXS⟩:∃ f,winX H V C l hl.allK K S P c y x=f:=⟨_,rfl⟩
 have XL:∀ q,(XS q).length≤q:=fun q=>by rw [← hXS];exact winX_len _ _ _ _ _ _ _ _ _ _ _ _
 have XZ:XS 0=[]:=by rw [← hXS];rfl
 have XS1:∀ q,XS (q+1)=if inside H V ((y*S+q / K:Nat) - (P:Int)) ((x*S+q % K:Nat) - (P:Int)) then XS q ++ [⟨l.getD (placeV V C ((y*S+q / K:Nat) - (P:Int)) ((x*S+q % K:Nat) - (P:Int)) c) 0,h8 _⟩] else XS q:=fun q=>by rw [← hXS];rfl
 rw [hXS]
 have hWb:Below n₀ w W0:=hW.mono hn₀
 have HL:=zH (hl.below hWb (fun b h=>h))
 have GB:=zH hb
 have GB2:=zH (show n₀≤W0.heap.size from Nat.le_trans hn₀ hW.size)
 have BN:=zH (BN.under hWb hb.1)
 have BT:=zH (BT.under hWb hb.2.1)
 have BH:=zH (BH.under hWb hb.2.2.1)
 have BW:=zH (BW.under hWb hb.2.2.2.1)
 have BC:=zH (BC.under hWb hb.2.2.2.2)
 have IX:=zH (fun (yy xx:Int) (w:World)=>shapeIndex_any H V C yy xx c w h1 v1 c1 he hc)
 have HN:=zH hn
 have HK:=zH hk
 have HS:=zH hs
 have HP:=zH hp
 have XS1:=zH XS1
 have XL:=zH XL
 have HJ:=zH (And.intro hJ hJx)
 have HY:=zH hY
 have n3:=BN.out.cell 3
 simp only [gX] at n3
 rw [hk] at n3
 obtain ⟨KK,hKK⟩:∃ m,K*K=m:=⟨_,rfl⟩
 have hKi:(K:Int)*(K:Int)=(KK:Int):=by rw [← hKK];simp
 have KK1:KK≤25:=by rw [← hKK];exact Nat.mul_le_mul k1.2 k1.2
 rw [hKK] at HY ⊢
 have gKK:IntKind.i64.wrap ((K:Int)*(K:Int))=(KK:Int):=by rw [hKi];exact IntWalk.i64_in _ (by omega)
 obtain ⟨k1a,k1b⟩:=k1
 clear hl hn hk hs hp he hKK hXS hW hWb hJ hJx hY hb hn₀ hKi
 rw [callsIn_wide]
 simp only [List.append_toArray,List.cons_append,List.nil_append]
 go_enter Tryz.func129,Tryz.ntmps129
 go_wp2_with fail
 go_loopw [15] (fun ii wr=>∃ q:Nat,q≤KK∧ii=.int .i64 q∧J (XS q) wr∧Below n₀ W0 wr∧W0.heap.size≤wr.heap.size) (fun ii _=>KK - (intOf ii).toNat)
 case atStart=>exact ⟨0,Nat.zero_le _,rfl,by rw [XZ];exact h0,Below.refl _ _,Nat.le_refl _⟩
 case round =>
  obtain ⟨q,hq,rfl,hj,hbw,hsz⟩:=hrel
  have BT:=zH (BT.out.under hbw GB.out.2.1)
  have BN:=zH (BN.out.under hbw GB.out.1)
  have BH:=zH (BH.out.under hbw GB.out.2.2.1)
  have BW:=zH (BW.out.under hbw GB.out.2.2.2.1)
  have BC:=zH (BC.out.under hbw GB.out.2.2.2.2)
  have HL:=zH (HL.out.below hbw (fun b h=>h))
  have HJS:=zH hj
  have HB:=zH (And.intro hbw hsz)
  clear hj hbw hsz
  by_cases hlt:q < KK
  ·have p1':(q:Int) < (KK:Int):=by omega
   go_wp2_with fail
   obtain ⟨ki,hki⟩:∃ m,q / K=m:=⟨_,rfl⟩
   obtain ⟨kj,hkj⟩:∃ m,q % K=m:=⟨_,rfl⟩
   have bki:ki≤25:=by rw [← hki];exact Nat.le_trans (Nat.div_le_self _ _) (by omega)
   have bkj:kj≤5:=by rw [← hkj];exact Nat.le_trans (Nat.le_of_lt (Nat.mod_lt _ (by omega))) k1b
   have hK0:(K:Int) ≠ 0:=by omega
   have d1:(q:Int).tdiv (K:Int)=(ki:Int):=by rw [← hki,Int.tdiv_eq_ediv_of_nonneg (by omega)];simp
   have d2:(q:Int).tmod (K:Int)=(kj:Int):=by rw [← hkj,Int.tmod_eq_emod_of_nonneg (by omega)];simp
   obtain ⟨ys,hys⟩:∃ m,y*S=m:=⟨_,rfl⟩
   have ysi:(y:Int)*(S:Int)=(ys:Int):=by rw [← hys];simp
   have ysb:ys≤4000:=by rw [← hys];exact Nat.mul_le_mul hy s1.2
   obtain ⟨xs,hxs⟩:∃ m,x*S=m:=⟨_,rfl⟩
   have xsi:(x:Int)*(S:Int)=(xs:Int):=by rw [← hxs];simp
   have xsb:xs≤4000:=by rw [← hxs];exact Nat.mul_le_mul hx s1.2
   obtain ⟨yy,hyy⟩:∃ m:Int,((y*S+q / K:Nat):Int) - P=m:=⟨_,rfl⟩
   obtain ⟨xx,hxx⟩:∃ m:Int,((x*S+q % K:Nat):Int) - P=m:=⟨_,rfl⟩
   have hyy2:(ys:Int)+(ki:Int) - (P:Int)=yy:=by rw [← hyy,hys,hki];simp
   have hxx2:(xs:Int)+(kj:Int) - (P:Int)=xx:=by rw [← hxx,hxs,hkj];simp
   have g1:IntKind.i64.wrap ((y:Int)*(S:Int))=(ys:Int):=by rw [ysi];exact IntWalk.i64_in _ (by omega)
   have g2:IntKind.i64.wrap ((x:Int)*(S:Int))=(xs:Int):=by rw [xsi];exact IntWalk.i64_in _ (by omega)
   have g3:IntKind.i64.wrap ((ys:Int)+(ki:Int))=(ys:Int)+(ki:Int):=IntWalk.i64_in _ (by omega)
   have g4:IntKind.i64.wrap ((xs:Int)+(kj:Int))=(xs:Int)+(kj:Int):=IntWalk.i64_in _ (by omega)
   have g5:IntKind.i64.wrap ((ys:Int)+(ki:Int) - (P:Int))=yy:=by rw [hyy2];exact IntWalk.i64_in _ (by omega)
   have g6:IntKind.i64.wrap ((xs:Int)+(kj:Int) - (P:Int))=xx:=by rw [hxx2];exact IntWalk.i64_in _ (by omega)
   have g7:IntKind.i64.wrap (ki:Int)=(ki:Int):=IntWalk.i64_in _ (by omega)
   have g8:IntKind.i64.wrap (kj:Int)=(kj:Int):=IntWalk.i64_in _ (by omega)
   have t0:∀ q:Ext wr,q.1.cell? ⟨bT,0,none⟩=some (.int .i64 H):=fun q=>(BT.out.ext q).cell 0
   have t1:∀ q:Ext wr,q.1.cell? ⟨bT,1,none⟩=some (.int .i64 V):=fun q=>(BT.out.ext q).cell 1
   have t2:∀ q:Ext wr,q.1.cell? ⟨bT,2,none⟩=some (.int .i64 C):=fun q=>(BT.out.ext q).cell 2
   have n3:∀ q:Ext wr,q.1.cell? ⟨bN,3,none⟩=some (.int .i64 K):=fun q=>by rw [← HK.out];exact (BN.out.ext q).cell 3
   have n4:∀ q:Ext wr,q.1.cell? ⟨bN,4,none⟩=some (.int .i64 S):=fun q=>by rw [← HS.out];exact (BN.out.ext q).cell 4
   have n5:∀ q:Ext wr,q.1.cell? ⟨bN,5,none⟩=some (.int .i64 P):=fun q=>by rw [← HP.out];exact (BN.out.ext q).cell 5
   have u0:∀ q:Ext wr,q.1.cell? ⟨bH,0,none⟩=some (.int .i64 y):=fun q=>(BH.out.ext q).cell 0
   have u1:∀ q:Ext wr,q.1.cell? ⟨bW,0,none⟩=some (.int .i64 x):=fun q=>(BW.out.ext q).cell 0
   have u2:∀ q:Ext wr,q.1.cell? ⟨bC,0,none⟩=some (.int .i64 c):=fun q=>(BC.out.ext q).cell 0
   have RG:=zH (fun q:Ext wr=>calls_ext q (IX.out yy xx q.1))
   have XQ:=XS1.out q
   rw [hyy,hxx] at XQ
   have XLq:=XL.out q
   by_cases hin:inside H V yy xx
   ·have hin2:=hin
    unfold inside at hin2
    have E1:=RG.out
    simp only [if_pos hin,decide_eq_true hin] at E1
    rw [if_pos hin] at XQ
    obtain ⟨ix,hix⟩:∃ m,placeV V C yy xx c=m:=⟨_,rfl⟩
    rw [hix] at E1
    simp only [hix] at XQ
    have hixn:ix < n:=by
     rw [← hix,HN.out]
     exact idx_lt yy.toNat xx.toNat c H V C (by omega) (by omega) hc
    replace E1:=zH E1
    obtain ⟨v8,hv8⟩:∃ v:I8,(⟨l.getD ix 0,h8 ix⟩:I8)=v:=⟨_,rfl⟩
    rw [hv8] at XQ
    have hv9:l.getD ix 0=v8.1:=by rw [← hv8]
    have HV:=zH hv9
    have XQ:=zH XQ
    clear hv8 hv9
    refine wp_region_ext wr (by kernel_rfl) (by kernel_rfl) (Below.refl _ _) ?_
    repeat (go_big_quiet_step ((exact E1.out _)))
    refine wpQuiet_nil ?_
    rintro wz ⟨⟨w3,hB⟩,ewz⟩
    obtain rfl:wz=w3:=by first|exact ewz|exact ewz.symm
    have j3:J (XS q) wz:=HJ.out.1 _ _ _ none HJS.out (below_none hB) (fun r e=>by cases e)
    have b3:Below n₀ W0 wz:=HB.out.1.trans (hB.mono (Nat.le_trans GB2.out HB.out.2))
    have s3:=hB.size
    obtain ⟨b,o,rfl,hbb,-,cx,-⟩:=(HL.out.below (hB.mono (Nat.le_trans GB2.out HB.out.2)) (fun b h=>h)).int_at ix hixn
    have tt:=(BT.out.fut hB).cell 3
    simp only [gX] at tt
    clear t0 t1 t2 n3 n4 n5 u0 u1 u2 g1 g2 g3 g4 g5 g6 g7 g8 d1 d2
    have XQ2:=XQ.out
    obtain ⟨fn,tmps,assign,body,hy,hR⟩:=HY.out (XS q) v8 wz j3 (by omega)
    rw [HV.out] at cx
    simp only [e8] at hy
    go_step
    go_step
    rw [← wpIn_wide (n:=m)]
    gi_wp2
    refine hR.mono ?_
    rintro e w4 (⟨rfl,hJ4,hk4⟩|⟨rfl,hJx4⟩)
    ·gi_wp2
     go_wp2_with fail
     have b4:=b3.trans hk4
     have s4:=hk4.size
     rw [← XQ2] at hJ4
     exact ⟨⟨q+1,by omega,by go_num,hJ4,b4,by have:=HB.out.2;omega⟩,by simp [intOf];omega⟩
    ·gi_wp2
     refine bodyPost_ret (results_none rfl _ _ _) rfl ?_
     exact ⟨⟨_,rfl⟩,.inr ⟨_,trivial,hJx4⟩⟩
   ·have E1:=RG.out
    simp only [if_neg hin,decide_eq_false hin] at E1
    rw [if_neg hin] at XQ
    replace E1:=zH E1
    have XQ:=zH XQ
    refine wp_region_ext wr (by kernel_rfl) (by kernel_rfl) (Below.refl _ _) ?_
    repeat (go_big_quiet_step ((exact E1.out _)))
    refine wpQuiet_nil ?_
    rintro wz ⟨⟨w3,hB⟩,ewz⟩
    obtain rfl:wz=w3:=by first|exact ewz|exact ewz.symm
    have j3:J (XS q) wz:=HJ.out.1 _ _ _ none HJS.out (below_none hB) (fun r e=>by cases e)
    have b3:Below n₀ W0 wz:=HB.out.1.trans (hB.mono (Nat.le_trans GB2.out HB.out.2))
    have s3:=hB.size
    clear t0 t1 t2 n3 n4 n5 u0 u1 u2 g1 g2 g3 g4 g5 g6 g7 g8 d1 d2
    have XQ2:=XQ.out
    go_wp2_with fail
    rw [← XQ2] at j3
    exact ⟨⟨q+1,by omega,by go_num,j3,b3,by have:=HB.out.2;omega⟩,by simp [intOf];omega⟩
  ·obtain rfl:q=KK:=by omega
   go_wp2_with fail
   refine bodyPost_end (results_none rfl _ _ _) rfl ?_
   exact ⟨⟨_,rfl⟩,.inl ⟨_,rfl,HJS.out⟩⟩
end Go.Proofs.YtlbkekabmpienaaGreat
namespace Go.Proofs.YtlbkekabmpienaaGreat
set_option linter.unusedVariables false
set_option linter.unusedSimpArgs false
open Go.RowKit Go.Shelf
set_option maxRecDepth 100000
set_option maxHeartbeats 4000000
theorem rows_i8 (w:World) (S:Nat → Prop):∀ xs:List I8,RowsOf (tInt .i8) w S (xs.map fun x=>Value.int .i8 x.1) (xs.map fun x=>x.1)
 | []=>rfl
 | x :: xs=>⟨[Value.int .i8 x.1],xs.map fun x=>Value.int .i8 x.1,rfl,⟨rfl,x.2⟩,rows_i8 w S xs⟩
theorem info_i8:(Tryz.prog.info? 22).map (fun i=>(i.zero,i.size,i.bytes))=some (some (.int .i8 0),1,1):=by kernel_rfl
section
attribute [local go_sem] Oper.semAt_some
theorem append8_in (n gf:Nat) (hn:5≤n) (lb:Array Value) (xs:List I8) (N:Nat) (Sp:List I8 → Prop) (w:World) (hN:N≤1000)
  (eg:∀ args w,(callFunc gf args).run Tryz.prog w=.ok (.enter gf args) w)
  (hseq:SeqStopsK Fence.wide (n - 1) Tryz.prog gf lb e8 (Below w.heap.size) (fun ys=>ys=xs) Sp N w) :
  CallsIn Fence.wide n Tryz.prog 128 #[.slice none 0 0,.func (.func gf) #[] lb] w fun e W'=>∃ v,e=.returned v∧W'.ownsRow w.heap.size 22 1 v xs.length (xs.map fun x=>Value.int .i8 x.1)∧Below w.heap.size w W':=by
 have h1:1≤n:=by omega
 obtain ⟨i0,hi,hz0,hz1,hz2⟩:=info_parts info_i8
 refine callsIn_of_wp_marks Tryz.func128 rfl trivial ?_ rfl
 simp only [Tryz.ntmps128,List.size_toArray,List.length_cons,List.length_nil,Nat.reduceAdd,Nat.reduceSub,Array.replicate_succ,Array.replicate_zero,List.push_toArray,List.append_toArray,List.nil_append,List.cons_append]
 gi_wp2
 have bO:=Boxed.new w 23 (.slice none 0 0)
 have hB0:Below w.heap.size w (w.alloc (.cells #[.slice none 0 0] 23)):=(Below.refl _ w).alloc (Nat.le_refl _) _
 refine wpIn_rangeFunc_ownG rfl h1 (gf:=gf) (lb:=lb) rfl trivial eg
  hseq belowK_t (belowK_b (by simp)) hB0 (fun _=>rfl)
  (fun pre W=>(∃ v,Boxed W w.heap.size 23 v∧W.ownsRow w.heap.size 22 1 v pre.length (pre.map fun x=>Value.int .i8 x.1)∧True)∧Below w.heap.size w W)
  (fun _ _ _=>False)
  (OwnFrom.and (Own.from (holdsRow_own w.heap.size w.heap.size 23 22 1 (fun pre:List I8=>pre.length) (fun pre=>pre.map fun x=>Value.int .i8 x.1) (fun pre v=>True)) _) (ownFrom_below (Nat.le_refl _) (by simp)))
  (fun _ _ _ _ _ hs _ _=>hs)
  ⟨⟨_,bO,World.ownsRow_nil _ _ _ _,trivial⟩,hB0⟩
  (fun x=>{ tmps:=#[.slice none 0 0,.func (.func gf) #[] lb,.pointer (some ⟨w.heap.size,0,none⟩),undef,.slice none 0 0,.int .i8 x.1,.func (.func gf) #[] lb,.int .i8 x.1,undef,undef,undef,undef,undef],defers:=[] }) ?assign ?body ?done ?stop
 case assign =>
  intro l x W K hK
  simp only [e8]
  gi_wp2
  exact hK
 case body =>
  rintro l pre x W ⟨⟨v,hv,hrow,-⟩,hB⟩ hlt
  have hc:=hv.cell
  gi_wp2_with (gi_at_builtin;refine wpListIn_append_own _ rfl _ _ 23 rfl w.heap.size 22 i0 (.int .i8 0) 1 1 Tryz.underlying23 hi hz0 hz1 hz2 rfl (by decide) _ _ _ rfl (hrow.alloc _) ⟨W.heap.size,0,none⟩ 1 1 [.int .i8 x.1] rfl rfl (cell_one_new _ _ _) (by simp [Value.oneCell']) (by unfold maxLen;omega) (by omega) (by have:=hB.size;simp;omega) ?_;intro v' w1 hown' hgrow _;obtain ⟨g',cap',rfl⟩:=ownsRow_succ hown';obtain ⟨hv1,hv2,hr2,hk2,hb2⟩:=hv.appended (by decide) hrow hB.size (Nat.le_refl _) hown' hgrow;have hc1:=hv1.cell;have hf1:=hv1.frozen)
  exact ⟨hk2.from _,hb2,⟨_,hv2,by simpa using hr2,trivial⟩,hB.trans hb2⟩
 case done =>
  rintro D ys W hD rfl ⟨⟨v,hv,hrow,-⟩,hB⟩ hK
  have hc:=hv.cell
  gi_wp2
  refine ⟨by simp,.inl ⟨_,_,rfl,run_takeDeferred hK,?_⟩⟩
  exact ⟨_,results_tmp rfl _ _ _,v,rfl,ownsRow_putObj hrow _ hK rfl,hB.trans (belowK_b (w:=w) (Nat.le_refl _) W D _ _ (by simp at hD;omega) hK rfl rfl)⟩
 case stop =>
  rintro D c pre W _ _ h _
  exact h.elim
end
theorem collect8_any (gf:Nat) (lb:Array Value) (xs:List I8) (N:Nat) (Sp:List I8 → Prop) (w:World) (hN:N≤1000)
  (eg:∀ args w,(callFunc gf args).run Tryz.prog w=.ok (.enter gf args) w)
  (hseq:SeqStopsK Fence.wide 5 Tryz.prog gf lb e8 (Below w.heap.size) (fun ys=>ys=xs) Sp N w) :
  Calls Tryz.prog 94 #[.func (.func gf) #[] lb] w (RetSl (tInt .i8) w (xs.map fun x=>x.1)):=by
 go_enter Tryz.func94,Tryz.ntmps94
 go_wp2_with (go_at_call 128;refine ((callsIn_wide (n:=6)).1 (append8_in 6 gf (by decide) lb xs N Sp w hN eg hseq)).mono ?_;rintro e w2 ⟨v,rfl,hrow,hb⟩)
 go_ret
 have ho:Own (tInt .i8) w2 (fun _=>False) w.heap.size 22 v xs.length (xs.map fun x=>x.1):=⟨_,hrow,rows_i8 _ _ _⟩
 exact ho.ret (by decide) hb (fun _ h=>h.elim)
theorem window_any (H V C:Nat) (A:Option Addr) (n cap:Nat) (l:List Int) (d:Node) (W:Option Addr) (nw cw:Nat) (B:Option Addr) (nb cb:Nat) (K S P y x c:Nat) (w:World)
  (hl:Sl (tInt .i8) w (blo w.heap.size) A n cap l) (hn:n=H*V*C) (hn2:n≤1024) (h1:1≤H∧H≤16) (v1:1≤V∧V≤16) (c1:1≤C∧C≤1024) (he:decide (0 < elems H V C)=true)
  (hk:d.k=K) (hs:d.s=S) (hp:d.p=P) (k1:1≤K∧K≤5) (s1:1≤S∧S≤4) (p1:P≤4) (hy:y≤1000) (hx:x≤1000) (hc:c < C) :
  Calls Tryz.prog 95 #[.agg #[.int .i64 H,.int .i64 V,.int .i64 C,.slice A n cap],.agg #[.int .i64 d.kind,.int .i64 d.a,.int .i64 d.b,.int .i64 d.k,.int .i64 d.s,.int .i64 d.p,.int .i64 d.out,.int .i8 d.za,.int .i8 d.zb,.slice W nw cw,.slice B nb cb,.int .i32 d.qm,.int .i64 d.qs,.int .i8 d.qz,.int .i32 d.rm,.int .i64 d.rs,.int .i8 d.rz,.int .i8 d.lo,.int .i8 d.hi],.int .i64 y,.int .i64 x,.int .i64 c] w fun e w' =>
   ∃ F,e=.returned F∧Below w.heap.size w w'∧Calls Tryz.prog 94 #[F] w' (RetSl (tInt .i8) w' (winL H V C l K S P c y x (K*K))):=by
 have HL:=zH hl
 have hkk:K*K≤5*5:=Nat.mul_le_mul k1.2 k1.2
 have FR:=zH (Far.refl w)
 obtain ⟨w1,hw_w1,BT,k_w1⟩:=nB w #[.int .i64 H,.int .i64 V,.int .i64 C,.slice A n cap] 32
 replace FR:=zH (FR.out.fut k_w1)
 clear k_w1
 obtain ⟨w2,hw_w2,BN,k_w2⟩:=nB w1 #[.int .i64 d.kind,.int .i64 d.a,.int .i64 d.b,.int .i64 d.k,.int .i64 d.s,.int .i64 d.p,.int .i64 d.out,.int .i8 d.za,.int .i8 d.zb,.slice W nw cw,.slice B nb cb,.int .i32 d.qm,.int .i64 d.qs,.int .i8 d.qz,.int .i32 d.rm,.int .i64 d.rs,.int .i8 d.rz,.int .i8 d.lo,.int .i8 d.hi] 28
 replace FR:=zH (FR.out.fut k_w2)
 replace BT:=zH (BT.out.fut k_w2)
 clear k_w2
 obtain ⟨w3,hw_w3,BH,k_w3⟩:=nB w2 #[.int .i64 y] 3
 replace FR:=zH (FR.out.fut k_w3)
 replace BT:=zH (BT.out.fut k_w3)
 replace BN:=zH (BN.out.fut k_w3)
 clear k_w3
 obtain ⟨w4,hw_w4,BW,k_w4⟩:=nB w3 #[.int .i64 x] 3
 replace FR:=zH (FR.out.fut k_w4)
 replace BT:=zH (BT.out.fut k_w4)
 replace BN:=zH (BN.out.fut k_w4)
 replace BH:=zH (BH.out.fut k_w4)
 clear k_w4
 obtain ⟨w5,hw_w5,BC,k_w5⟩:=nB w4 #[.int .i64 c] 3
 replace FR:=zH (FR.out.fut k_w5)
 replace BT:=zH (BT.out.fut k_w5)
 replace BN:=zH (BN.out.fut k_w5)
 replace BH:=zH (BH.out.fut k_w5)
 replace BW:=zH (BW.out.fut k_w5)
 clear k_w5
 have q1:w.heap.size < w1.heap.size:=by rw [← hw_w1];simp
 have q2:w1.heap.size < w2.heap.size:=by rw [← hw_w2];simp
 have q3:w2.heap.size < w3.heap.size:=by rw [← hw_w3];simp
 have q4:w3.heap.size < w4.heap.size:=by rw [← hw_w4];simp
 have q5:w4.heap.size < w5.heap.size:=by rw [← hw_w5];simp
 have s5:=zH ((Old.now HL.out).fut FR.out.out).all
 have WS:=zH (win1_stops H V C A n cap l d W nw cw B nb cb K S P y x c w1.heap.size w.heap.size w2.heap.size w3.heap.size w4.heap.size w5.heap.size 5 w5 s5.out hn hn2 h1 v1 c1 he hk hs hp k1 s1 p1 hy hx hc BN.out BT.out BH.out BW.out BC.out ⟨by omega,by omega,by omega,by omega,by omega⟩ (Nat.le_refl _) (by decide))
 clear hn hk hs hp he hl
 go_enter Tryz.func95,Tryz.ntmps95
 go_wp2_with fail
 go_ret
 refine ⟨_,rfl,FR.out.out,?_⟩
 refine (collect8_any 129 #[.pointer (some ⟨w1.heap.size,0,none⟩),.pointer (some ⟨w.heap.size,0,none⟩),.pointer (some ⟨w2.heap.size,0,none⟩),.pointer (some ⟨w3.heap.size,0,none⟩),.pointer (some ⟨w4.heap.size,0,none⟩)] (winX H V C l s5.out.allK K S P c y x (K*K)) (K*K) (fun _=>True) w5 (by omega) (enters_of Tryz.func129 (by kernel_rfl) rfl) WS.out).mono ?_
 intro e w6 h
 rw [winX_map] at h
 exact h
end Go.Proofs.YtlbkekabmpienaaGreat
namespace Go.Proofs.YtlbkekabmpienaaGreat
set_option linter.unusedVariables false
set_option linter.unusedSimpArgs false
open Go.RowKit Go.ChangeShapes Go.WideShapes Fx
set_option maxRecDepth 100000
set_option maxHeartbeats 4000000
def e88 (x:I8 × I8):Array Value:=#[Value.int .i8 x.1.1,Value.int .i8 x.2.1]
def pairX (l l':List Int) (hl:∀ i,InK .i8 (l.getD i 0)) (hl':∀ i,InK .i8 (l'.getD i 0)) (i:Nat):I8 × I8:=(⟨l.getD i 0,hl i⟩,⟨l'.getD i 0,hl' i⟩)
/-- Some blocks lie as they lay. -/
structure KeepS (S:Nat → Prop) (W W':World):Prop where
 size:W.heap.size≤W'.heap.size
 same:∀ k,S k → W'.heap[k]?=W.heap[k]?
theorem KeepS.refl (S:Nat → Prop) (W:World):KeepS S W W:=⟨Nat.le_refl _,fun _ _=>rfl⟩
theorem KeepS.trans {S:Nat → Prop} {A B C:World} (h:KeepS S A B) (k:KeepS S B C):KeepS S A C:=⟨Nat.le_trans h.size k.size,fun i hi=>(k.same i hi).trans (h.same i hi)⟩
theorem KeepS.put {S:Nat → Prop} {m:Nat} (hS:∀ k,S k → k < m) (W:World) (l:Nat) (o o':Obj) (hl:m≤l) (h:W.heap[l]?=some o) (h1:o.isCells=false) (h2:o.isWalk=false):KeepS S W (W.putObj l o') :=
 ⟨(grownBy_putObj' W l o').size,fun k hk=>World.putObj_heap_other (fun e=>by have:=hS k hk;omega)⟩
theorem Blk.keepS {w w':World} {S:Nat → Prop} {g:Nat} {e:TypeId} {cs:Array Value} (h:Blk w g e cs) (hk:KeepS S w w') (hg:S g):Blk w' g e cs:=⟨(hk.same g hg).trans h.heap⟩
theorem pairs1_stops (S:Nat → Prop) (A A':Option Addr) (n cap cap':Nat) (l l':List Int) (bA bB m:Nat) (w:World)
  (hl:Sl (tInt .i8) w S A n cap l) (hl':Sl (tInt .i8) w S A' n cap' l') (hn2:n≤1024)
  (BA:Blk w bA 23 #[.slice A n cap]) (BB:Blk w bB 23 #[.slice A' n cap']) (hb:S bA∧S bB) (hS:∀ k,S k → k < w.heap.size) (hm:1≤m) :
  SeqStopsK Fence.wide m Tryz.prog 98 #[.pointer (some ⟨bA,0,none⟩),.pointer (some ⟨bB,0,none⟩)] e88 (KeepS S) (fun ys=>ys=(List.range n).map (pairX l l' hl.allK hl'.allK)) (fun _=>True) n w:=by
 intro lo J Jx W0 hW hJ hJx hY h0
 obtain ⟨XF,hXF⟩:∃ f,pairX l l' hl.allK hl'.allK=f:=⟨_,rfl⟩
 have X1:∀ i,(XF i).1.1=l.getD i 0∧(XF i).2.1=l'.getD i 0:=fun i=>by rw [← hXF];exact ⟨rfl,rfl⟩
 rw [hXF]
 have hWb:KeepS S w W0:=⟨hW.size,fun k hk=>hW.block k (hS k hk)⟩
 have HL:=zH (hl.keep fun b h=>hWb.same b h)
 have HL':=zH (hl'.keep fun b h=>hWb.same b h)
 have GB:=zH hb
 have BA:=zH (BA.keepS hWb hb.1)
 have BB:=zH (BB.keepS hWb hb.2)
 have HX:=zH X1
 have HY:=zH hY
 have mx:n≤9223372036854775807:=by omega
 have a0:=BA.out.cell 0
 clear hl hl' hXF hW hWb hJ hJx hY hb hS X1
 rw [callsIn_wide]
 simp only [List.append_toArray,List.cons_append,List.nil_append]
 go_enter Tryz.func98,Tryz.ntmps98
 go_wp2_with fail
 clear a0
 go_loopw [8] (fun ii wr=>∃ k:Nat,k≤n∧ii=.int .i64 k∧J ((List.range k).map XF) wr∧KeepS S W0 wr) (fun ii _=>n - (intOf ii).toNat)
 case atStart=>exact ⟨0,Nat.zero_le _,rfl,h0,KeepS.refl _ _⟩
 case round =>
  obtain ⟨k,hk,rfl,hj,hbw⟩:=hrel
  have BB:=zH (BB.out.keepS hbw GB.out.2)
  have HL:=zH (HL.out.keep fun b h=>hbw.same b h)
  have HL':=zH (HL'.out.keep fun b h=>hbw.same b h)
  have HJS:=zH hj
  have HB:=zH hbw
  clear hj hbw
  by_cases hlt:k < n
  ·have p1':(k:Int) < (n:Int):=by omega
   obtain ⟨b,o,rfl,-,-,cx,-⟩:=HL.out.int_at k hlt
   obtain ⟨b',o',rfl,-,-,cy,-⟩:=HL'.out.int_at k hlt
   obtain ⟨v8,hv8⟩:∃ v:I8 × I8,XF k=v:=⟨_,rfl⟩
   have hx:=HX.out k
   rw [hv8] at hx
   rw [← hx.1] at cx
   rw [← hx.2] at cy
   have b0:=BB.out.cell 0
   simp only [List.getElem?_toArray,List.getElem?_cons_zero] at b0
   have j8:∀ W,J ((List.range k).map XF ++ [v8]) W → J ((List.range (k+1)).map XF) W:=fun W h=>by
    rw [List.range_succ,List.map_append]
    show J (_ ++ [XF k]) W
    rw [hv8];exact h
   have J8:=zH j8
   obtain ⟨fn,tmps,assign,body,hy,hR⟩:=HY.out ((List.range k).map XF) v8 wr HJS.out (by simpa using hlt)
   simp only [e88] at hy
   clear hv8 hx j8
   go_upto_region 3 with fail
   rw [← wpIn_wide (n:=m)]
   gi_wp2
   refine hR.mono ?_
   rintro e w4 (⟨rfl,hJ4,hk4⟩|⟨rfl,hJx4⟩)
   ·gi_wp2
    go_wp2_with fail
    exact ⟨⟨k+1,by omega,by go_num,J8.out _ hJ4,HB.out.trans hk4⟩,by simp [intOf];omega⟩
   ·gi_wp2
    go_wp2_with fail
    refine bodyPost_ret (results_none rfl _ _ _) rfl ?_
    exact ⟨⟨_,rfl⟩,.inr ⟨_,trivial,hJx4⟩⟩
  ·obtain rfl:k=n:=by omega
   go_wp2_with fail
   refine bodyPost_end (results_none rfl _ _ _) rfl ?_
   exact ⟨⟨_,rfl⟩,.inl ⟨(List.range k).map XF,by first|rfl|simp,HJS.out⟩⟩
theorem pairs_any (A A':Option Addr) (n cap n' cap':Nat) (w:World) :
  Calls Tryz.prog 56 #[.slice A n cap,.slice A' n' cap'] w fun e w'=>e=.returned (.func (.func 98) #[] #[.pointer (some ⟨w.heap.size,0,none⟩),.pointer (some ⟨w.heap.size+1,0,none⟩)])∧w'=(w.alloc (.cells #[.slice A n cap] 23)).alloc (.cells #[.slice A' n' cap'] 23):=by
 go_enter Tryz.func56,Tryz.ntmps56
 go_wp2_with fail
 go_ret
 exact ⟨rfl,rfl⟩
end Go.Proofs.YtlbkekabmpienaaGreat
namespace Go.Proofs.YtlbkekabmpienaaGreat
set_option linter.unusedVariables false
set_option linter.unusedSimpArgs false
open Go.RowKit Go.ChangeShapes Go.WideShapes Fx
set_option maxRecDepth 100000
set_option maxHeartbeats 4000000
theorem bitsMul_any (N:Nat) (w:World) (hN:N≤1024) :
  Calls Tryz.prog 151 #[.int .u64 1,.int .u64 N] w fun e w'=>e=.returned (.tuple #[.int .u64 0,.int .u64 N])∧w=w':=by
 have B:=zH (fun w=>Tryz.bits_Mul64 1 N (by decide) (by omega) w)
 rw [show 1*N / 18446744073709551616=0 by omega,show 1*N % 18446744073709551616=N by omega] at B
 go_enter Tryz.func151,Tryz.ntmps151
 go_wp2_with (go_at_call 144;refine (B.out _).mono ?_;rintro e w2 ⟨rfl,rfl⟩)
 go_ret2
 exact ⟨rfl,rfl⟩
theorem rep_splice (N k m:Nat) (v:Int) (h:k+m≤N):splice (List.replicate k v ++ List.replicate (N - k) 0) k (List.replicate m v)=List.replicate (k+m) v ++ List.replicate (N - (k+m)) 0:=by
 unfold splice
 rw [List.take_append_of_le_length (by simp),List.take_of_length_le (by simp),List.length_replicate,List.drop_append]
 simp only [List.drop_replicate,List.length_replicate]
 rw [show k - (k+m)=0 by omega,List.replicate_zero,List.nil_append,← List.append_assoc,List.replicate_append_replicate,show N - k - (k+m - k)=N - (k+m) by omega]
theorem repeat_any (v:Int) (N g:Nat) (w:World) (hN:1≤N∧N≤1024) (hv:InK .i8 v) (hc:w.cell? ⟨g,0,none⟩=some (.int .i8 v)) (hg:g < w.heap.size) :
  Calls Tryz.prog 148 #[.slice (some ⟨g,0,none⟩) 1 1,.int .i64 N] w fun e w'=>∃ q,e=.returned (.slice (some ⟨q,0,none⟩) N N)∧Own (tInt .i8) w' (fun _=>False) w.heap.size 22 (.slice (some ⟨q,0,none⟩) N N) N (List.replicate N v)∧Below w.heap.size w w':=by
 have MU:=zH (fun w=>bitsMul_any N w hN.2)
 have HV:=zH hv
 have HC:=zH hc
 have FR:=zH (Far.refl w)
 have c1:IntKind.u64.wrap (N:Int)=(N:Int):=by rw [IntKind.wrap_u64];omega
 have c2:IntKind.i64.wrap (N:Int)=(N:Int):=IntWalk.i64_in _ (by omega)
 have n1:¬ (9223372036854775807:Int) < (N:Int):=by omega
 have n2:¬ (N:Int) < 0:=by omega
 obtain ⟨hN1,hN2⟩:=hN
 clear hv hc
 have f0:=zH (show ∀ x ∈ [v],InK .i8 x by intro x hx;rw [List.mem_singleton] at hx;subst hx;exact HV.out)
 have f1:=zH (show [v].length=Nat.min 1 N by show 1=min 1 N;omega)
 have f2:=zH (show ∀ w3:World,Below w.heap.size w w3 → ∀ j,j < [v].length → w3.cell? ((⟨g,0,none⟩:Addr).add j)=some (.int .i8 ([v].getD j 0)) by
  intro w3 kb j hj
  obtain rfl:j=0:=by have:j < 1:=hj;omega
  exact (kb.cell (p:=⟨g,0,none⟩) hg).trans HC.out)
 have f3:=zH (show 0+[v].length≤N by show 1≤N;omega)
 go_enter Tryz.func148,Tryz.ntmps148
 go_wp2_with (first|(go_at_call 151;refine (MU.out _).mono ?_;rintro e w2 ⟨rfl,rfl⟩)|(at_make;refine wpList_make (t:=tInt .i8) (S:=fun _=>False) (base:=w.heap.size) rfl _ _ rfl ei_b8 .i64 .i64 _ _ N rfl rfl rfl rfl ?_ ?_ ?_ 0 ⟨rfl,by decide⟩ (fun _ h=>h.elim) ?_;rotate_right;intro w3 hown hgr;have kb:Below w.heap.size w w3:=(Below.refl _ _).grown hgr (Nat.le_refl _) (by simp);have ON:=zH hown;replace FR:=zH (FR.out.fut kb);have lq:=hown.lt _ rfl;have g3:=zH (f2.out w3 kb);clear hown hgr kb)|(refine wpList_copyO (k:=.i8) rfl (.tmp 31) (.tmp 32) 23 23 rfl 22 Tryz.underlying23 (by kernel_rfl) ON.out 0 N N rfl ⟨g,0,none⟩ 1 1 rfl [v] f0.out f1.out g3.out f3.out ?_;intro w4 own4 g4))
 rotate_left
 ·omega
 ·unfold maxLen;omega
 ·omega
 have O4:=zH (show Own (tInt .i8) w4 (fun _=>False) w.heap.size 22 (.slice (some ⟨w.heap.size,0,none⟩) N N) N (List.replicate 1 v ++ List.replicate (N - 1) 0) by
  have:=rep_splice N 0 1 v (by omega)
  simp only [List.replicate_zero,List.nil_append,Nat.sub_zero,Nat.zero_add] at this
  rw [← this];exact own4)
 replace FR:=zH (FR.out.away g4 (Nat.le_refl _))
 have ON:=O4
 clear own4 g4 g3 f0 f1 f2 f3 O4 MU HC c1 n1 n2
 go_loopw [8] (fun ii wr=>∃ k:Nat,1≤k∧k≤N∧ii=.int .i64 k∧Far w wr∧Own (tInt .i8) wr (fun _=>False) w.heap.size 22 (.slice (some ⟨w.heap.size,0,none⟩) N N) N (List.replicate k v ++ List.replicate (N - k) 0)) (fun ii _=>N - (intOf ii).toNat)
 case atStart=>exact ⟨1,Nat.le_refl _,hN1,rfl,FR.out,ON.out⟩
 case round =>
  obtain ⟨k,hk1,hk2,rfl,f0,f1⟩:=hrel
  clear FR ON
  have FR:=zH f0
  have ON:=zH f1
  clear f0 f1
  by_cases hlt:k < N
  ·have p1:(k:Int) < (N:Int):=by omega
   obtain ⟨m,hm⟩:∃ m,Nat.min k (N - k)=m:=⟨_,rfl⟩
   have hm1:1≤m∧k+m≤N:=by rw [← hm];show 1≤min k (N - k)∧k+min k (N - k)≤N;omega
   have HM:=zH hm
   have ne:¬ N=k:=by omega
   have k0:0≤(k:Int):=by omega
   have k2:(k:Int)≤(N:Int):=by omega
   have e1:IntKind.i64.wrap ((k:Int)+(m:Int))=((k+m:Nat):Int):=(IntWalk.i64_in _ (by omega)).trans (by omega)
   clear hm
   have fd:Below w.heap.size w wr.drew:=FR.out.out.drew
   have O2:=zH (ON.out.heap (w':=wr.drew) rfl)
   have f0:=zH (show ∀ x ∈ List.replicate m v,InK .i8 x by intro x hx;rw [List.eq_of_mem_replicate hx];exact HV.out)
   have f1:=zH (show (List.replicate m v).length=Nat.min k (N - k) by rw [List.length_replicate];exact HM.out.symm)
   have f2:=zH (show ∀ j,j < (List.replicate m v).length → wr.drew.cell? ((⟨w.heap.size,0,none⟩:Addr).add j)=some (.int .i8 ((List.replicate m v).getD j 0)) by
    intro j hj
    rw [List.length_replicate] at hj
    have hmk:m≤k:=by rw [← HM.out];exact Nat.min_le_left _ _
    obtain ⟨x,u,hx,hu,hc,-⟩:=O2.out.cell rfl j (by omega)
    rw [List.getElem?_append_left (by rw [List.length_replicate];omega),List.getElem?_replicate,if_pos (by omega)] at hx
    injection hx with hx
    have hu1:=hu.1
    simp only [List.cons.injEq,and_true] at hu1
    have ha:(⟨w.heap.size,0,none⟩:Addr).add j=⟨w.heap.size,j,none⟩:=by unfold Addr.add;split <;> simp_all
    rw [ha,hc,hu1,List.getD_eq_getElem?_getD,List.getElem?_replicate,if_pos hj,hx]
    rfl)
   have f3:=zH (show k+(List.replicate m v).length≤N by rw [List.length_replicate];exact hm1.2)
   go_wp2_with fail
   refine wp_region_T (fun w'=>Below w.heap.size w w') 9 (by kernel_rfl) ?_ (fun hS=>?_)
   ·exact fd
   refine tkT 0 rfl (v:=?_) (Or.inl ⟨by rfl,?_⟩) hS ?_
   rotate_left
   ·intro w hSw;(try dsimp only at hSw);go_simp;try with_reducible rfl
   try simp only [pX]
   refine tkT 1 rfl (v:=?_) (Or.inl ⟨by rfl,?_⟩) hS ?_
   rotate_left
   ·intro w hSw;(try dsimp only at hSw);go_simp;try with_reducible rfl
   try simp only [pX]
   refine tkT 2 rfl (v:=?_) (Or.inl ⟨by rfl,?_⟩) hS ?_
   rotate_left
   ·intro w hSw;(try dsimp only at hSw);go_simp;try with_reducible rfl
   try simp only [pX]
   refine tkT 3 rfl (v:=?_) (Or.inl ⟨by rfl,?_⟩) hS ?_
   rotate_left
   ·intro w hSw;(try dsimp only at hSw);go_simp;try with_reducible rfl
   try simp only [pX]
   refine tkT 4 rfl (v:=?_) (Or.inl ⟨by rfl,?_⟩) hS ?_
   rotate_left
   ·intro w hSw;(try dsimp only at hSw);go_simp;try with_reducible rfl
   try simp only [pX]
   refine tkT 5 rfl (v:=?_) (Or.inl ⟨by rfl,?_⟩) hS ?_
   rotate_left
   ·intro w hSw;(try dsimp only at hSw);go_simp;try with_reducible rfl
   try simp only [pX]
   refine tkT 6 rfl (v:=?_) (Or.inl ⟨by rfl,?_⟩) hS ?_
   rotate_left
   ·intro w hSw;(try dsimp only at hSw);go_simp;try with_reducible rfl
   try simp only [pX]
   refine wpAnyT_one (i:=7) (by kernel_rfl) rfl rfl (fun K hK=>?_)
   (rw [if_pos (by rfl)];refine oper_copyO (k:=.i8) (.tmp 41) (.tmp 44) 23 23 rfl 22 Tryz.underlying23 (by kernel_rfl) O2.out k (N - k) (N - k) rfl ⟨w.heap.size,0,none⟩ k N rfl (List.replicate m v) f0.out f1.out f2.out f3.out ?_;intro w4 own4 g4;have O4:=zH own4;clear own4;refine hK.out _ _ (fd.grown g4 fd.size (fun k e=>by injection e with e;omega)) (fun hS=>?_))
   clear hK K
   try simp only [pX]
   refine tkT 8 rfl (v:=?_) (Or.inl ⟨by rfl,?_⟩) hS ?_
   rotate_left
   ·intro w hSw;(try dsimp only at hSw);go_simp;try with_reducible rfl
   try simp only [pX]
   refine wpAnyT_tail _ _ rfl rfl (by kernel_rfl) ?_
   have FZ:=zH (show Far w w4 from ⟨hS⟩)
   clear hS f0 f1 f2 f3 O2 g4 fd
   go_wp2_with fail
   have o5:=O4.out
   rw [rep_splice N k m v hm1.2] at o5
   exact ⟨⟨k+m,by omega,by omega,by go_num,FZ.out,o5⟩,by simp [intOf];omega⟩
  ·obtain rfl:k=N:=by omega
   go_wp2_with fail
   go_ret
   refine ⟨_,rfl,?_,FR.out.out⟩
   have:=ON.out
   rw [Nat.sub_self,List.replicate_zero,List.append_nil] at this
   exact this
end Go.Proofs.YtlbkekabmpienaaGreat
namespace Go.Proofs.YtlbkekabmpienaaGreat
set_option linter.unusedVariables false
set_option linter.unusedSimpArgs false
open Go.RowKit Go.ChangeShapes Go.WideShapes
set_option maxRecDepth 100000
set_option maxHeartbeats 8000000 in
theorem plain_8 (a b k s p out za zb qm qs qz rm rs rz lo hi:Int) (wl bl:List Int) (W:Option Addr) (nw cw:Nat) (B:Option Addr) (nb cb:Nat) (w:World) (hw:Sl (tInt .i8) w (blo w.heap.size) W nw cw wl) (hb:Sl (tInt .i32) w (blo w.heap.size) B nb cb bl) (mw:nw≤1048576) (mb:nb≤1048576) :
  Calls Tryz.prog 48 #[.agg #[.int .i64 8,.int .i64 a,.int .i64 b,.int .i64 k,.int .i64 s,.int .i64 p,.int .i64 out,.int .i8 za,.int .i8 zb,.slice W nw cw,.slice B nb cb,.int .i32 qm,.int .i64 qs,.int .i8 qz,.int .i32 rm,.int .i64 rs,.int .i8 rz,.int .i8 lo,.int .i8 hi]] w (RetNode ⟨8,a,0,0,0,p,0,za,0,[],[],0,0,0,0,0,0,0,0⟩ w):=by
 have HW:=zH (Old.now hw)
 have HB:=zH (Old.now hb)
 clear hw hb
 have SC:=zH (fun w=>scaledK_any 8 w)
 rw [show scaledK 8=false from rfl] at SC
 have NM:=zH (fun w=>kname_any 8 w)
 have FR:=zH (Far.refl w)
 obtain ⟨w1,hw_w1,BN,k_w1⟩:=nB w #[.int .i64 8,.int .i64 a,.int .i64 b,.int .i64 k,.int .i64 s,.int .i64 p,.int .i64 out,.int .i8 za,.int .i8 zb,.slice W nw cw,.slice B nb cb,.int .i32 qm,.int .i64 qs,.int .i8 qz,.int .i32 rm,.int .i64 rs,.int .i8 rz,.int .i8 lo,.int .i8 hi] 28
 replace FR:=zH (FR.out.fut k_w1)
 replace HW:=zH (HW.out.fut k_w1)
 replace HB:=zH (HB.out.fut k_w1)
 clear k_w1
 obtain ⟨w2,hw_w2,BR,k_w2⟩:=nB w1 #[.int .i64 0,.int .i64 0,.int .i64 0,.int .i64 0,.int .i64 0,.int .i64 0,.int .i64 0,.int .i8 0,.int .i8 0,.slice none 0 0,.slice none 0 0,.int .i32 0,.int .i64 0,.int .i8 0,.int .i32 0,.int .i64 0,.int .i8 0,.int .i8 0,.int .i8 0] 28
 replace FR:=zH (FR.out.fut k_w2)
 replace HW:=zH (HW.out.fut k_w2)
 replace HB:=zH (HB.out.fut k_w2)
 replace BN:=zH (BN.out.fut k_w2)
 clear k_w2
 have cN0:=BN.out.cell 0
 have cN1:=BN.out.cell 1
 go_enter Tryz.func48,Tryz.ntmps48
 go_wp2_with fail
 have lr0:=zH (show w.heap.size≤w1.heap.size by rw [← hw_w1];simp)
 clear hw_w1 hw_w2
 refine (NM.out _).mono ?_
 rintro e w3 ⟨rfl,hb⟩
 have tn:(nameOf 8).toList.isEmpty=false:=by rw [ByteArray.toList_eq];rfl
 clear cN0 cN1
 replace FR:=zH (FR.out.fut hb)
 replace HW:=zH (HW.out.fut hb)
 replace HB:=zH (HB.out.fut hb)
 replace BN:=zH (BN.out.fut hb)
 replace BR:=zH (BR.out.fut hb)
 clear hb
 have ln:w.heap.size < w3.heap.size:=BN.out.lt
 have lr:w1.heap.size < w3.heap.size:=BR.out.lt
 have cN0:=BN.out.cell 0
 have cN1:=BN.out.cell 1
 obtain ⟨w4,hw_w4,BM,k_w4⟩:=nB w3 #[.int .i64 0,.int .i64 0,.int .i64 0,.int .i64 0,.int .i64 0,.int .i64 0,.int .i64 0,.int .i8 0,.int .i8 0,.slice none 0 0,.slice none 0 0,.int .i32 0,.int .i64 0,.int .i8 0,.int .i32 0,.int .i64 0,.int .i8 0,.int .i8 0,.int .i8 0] 28
 replace FR:=zH (FR.out.fut k_w4)
 replace HW:=zH (HW.out.fut k_w4)
 replace HB:=zH (HB.out.fut k_w4)
 replace BN:=zH (BN.out.fut k_w4)
 replace BR:=zH (BR.out.fut k_w4)
 clear k_w4
 go_wp2_with (refine wpList_store_all rfl 28 (.tmp 3) (.tmp 13) rfl w3.heap.size #[.int .i64 8,.int .i64 a,.int .i64 0,.int .i64 0,.int .i64 0,.int .i64 0,.int .i64 0,.int .i8 0,.int .i8 0,.slice none 0 0,.slice none 0 0,.int .i32 0,.int .i64 0,.int .i8 0,.int .i32 0,.int .i64 0,.int .i8 0,.int .i8 0,.int .i8 0] rfl rfl _ _ BM.out rfl (by kernel_rfl) (by simp [Value.oneCell']) ?_;intro w5 BM5 g5;have cM0:=(BN.out.away g5 (by omega)).cell 0)
 clear hw_w4 cM0
 clear cN0 cN1
 replace FR:=zH (FR.out.away g5 (by omega))
 replace HW:=zH (HW.out.away g5 (by omega))
 replace HB:=zH (HB.out.away g5 (by omega))
 replace BN:=zH (BN.out.away g5 (by omega))
 replace BR:=zH (BR.out.away g5 (by omega))
 clear g5
 refine wp_region_held_drew (S:=fun w'=>w'.cell? ⟨w.heap.size,5,none⟩=some (.int .i64 p)∧w'.cell? ⟨w.heap.size,7,none⟩=some (.int .i8 za)∧Blk w' w.heap.size 28 #[.int .i64 8,.int .i64 a,.int .i64 b,.int .i64 k,.int .i64 s,.int .i64 p,.int .i64 out,.int .i8 za,.int .i8 zb,.slice W nw cw,.slice B nb cb,.int .i32 qm,.int .i64 qs,.int .i8 qz,.int .i32 rm,.int .i64 rs,.int .i8 rz,.int .i8 lo,.int .i8 hi]∧Below w.heap.size w w') (by kernel_rfl) ?_ (fun hS=>?_)
 ·exact ⟨BN.out.drew.cell 5,BN.out.drew.cell 7,BN.out.drew,FR.out.out.drew⟩
 refine tkH 0 rfl (v:=?_) (Or.inl ⟨by rfl,?_⟩) hS ?_
 rotate_left
 ·intro w hSw;(try dsimp only at hSw);go_simp;try with_reducible rfl
 try simp only [pX]
 refine tkH 1 rfl (v:=?_) (Or.inl ⟨by rfl,?_⟩) hS ?_
 rotate_left
 ·intro w hSw;(try dsimp only at hSw);go_simp;try with_reducible rfl
 try simp only [pX]
 refine tkH 2 rfl (v:=?_) (Or.inl ⟨by rfl,?_⟩) hS ?_
 rotate_left
 ·intro w hSw;(try dsimp only at hSw);go_simp;try with_reducible rfl
 try simp only [pX]
 refine tkH 3 rfl (v:=?_) (Or.inl ⟨by rfl,?_⟩) hS ?_
 rotate_left
 ·intro w hSw;(try dsimp only at hSw);go_simp;try with_reducible rfl
 try simp only [pX]
 refine tkH 4 rfl (v:=?_) (Or.inl ⟨by rfl,?_⟩) hS ?_
 rotate_left
 ·intro w hSw;(try dsimp only at hSw);go_simp;try with_reducible rfl
 try simp only [pX]
 refine wpAnyH_ready (rs:=[5]) (by kernel_rfl) (by simp) ?_
 refine AllReadyH.cons rfl (fun K hK=>?_) AllReadyH.nil
 (rw [if_pos (by rfl)];refine oper_store_one 3 (.tmp 78) (.tmp 75) rfl w3.heap.size 5 (.int .i64 p) rfl rfl rfl rfl _ #[.int .i64 8,.int .i64 a,.int .i64 0,.int .i64 0,.int .i64 0,.int .i64 0,.int .i64 0,.int .i8 0,.int .i8 0,.slice none 0 0,.slice none 0 0,.int .i32 0,.int .i64 0,.int .i8 0,.int .i32 0,.int .i64 0,.int .i8 0,.int .i8 0,.int .i8 0] #[.int .i64 8,.int .i64 a,.int .i64 0,.int .i64 0,.int .i64 0,.int .i64 p,.int .i64 0,.int .i8 0,.int .i8 0,.slice none 0 0,.slice none 0 0,.int .i32 0,.int .i64 0,.int .i8 0,.int .i32 0,.int .i64 0,.int .i8 0,.int .i8 0,.int .i8 0] BM5.drew (by simp) (by kernel_rfl) rfl ?_;intro w6 BM6 g6;have BN6:=(hS.2.2.1).away g6 (by omega);refine hK.out _ _ ⟨BN6.cell 5,BN6.cell 7,BN6,(hS.2.2.2).grown g6 (hS.2.2.2).size (fun k h=>by have:=Option.some.inj h;omega)⟩ (fun hS=>?_))
 clear hK K
 try simp only [pX]
 refine tkH 6 rfl (v:=?_) (Or.inl ⟨by rfl,?_⟩) hS ?_
 rotate_left
 ·intro w hSw;(try dsimp only at hSw);go_simp;try with_reducible rfl
 try simp only [pX]
 refine wpAnyH_ready (rs:=[7]) (by kernel_rfl) (by simp) ?_
 refine AllReadyH.cons rfl (fun K hK=>?_) AllReadyH.nil
 (rw [if_pos (by rfl)];refine oper_store_one 22 (.tmp 79) (.tmp 77) rfl w3.heap.size 7 (.int .i8 za) rfl rfl rfl rfl _ #[.int .i64 8,.int .i64 a,.int .i64 0,.int .i64 0,.int .i64 0,.int .i64 p,.int .i64 0,.int .i8 0,.int .i8 0,.slice none 0 0,.slice none 0 0,.int .i32 0,.int .i64 0,.int .i8 0,.int .i32 0,.int .i64 0,.int .i8 0,.int .i8 0,.int .i8 0] #[.int .i64 8,.int .i64 a,.int .i64 0,.int .i64 0,.int .i64 0,.int .i64 p,.int .i64 0,.int .i8 za,.int .i8 0,.slice none 0 0,.slice none 0 0,.int .i32 0,.int .i64 0,.int .i8 0,.int .i32 0,.int .i64 0,.int .i8 0,.int .i8 0,.int .i8 0] BM6 (by simp) (by kernel_rfl) rfl ?_;intro w7 BM7 g7;have BN7:=(hS.2.2.1).away g7 (by omega);refine hK.out _ _ ⟨BN7.cell 5,BN7.cell 7,BN7,(hS.2.2.2).grown g7 (hS.2.2.2).size (fun k h=>by have:=Option.some.inj h;omega)⟩ (fun hS=>?_))
 clear hK K
 try simp only [pX]
 refine wpAnyH_done (by kernel_rfl) ?_ _
 replace FR:=zH (Far.mk (hS.2.2.2))
 replace BN:=zH (hS.2.2.1)
 clear hS BN6 BN7
 replace HW:=zH (HW.out.draw)
 replace HB:=zH (HB.out.draw)
 replace BR:=zH (BR.out.draw)
 replace HW:=zH (HW.out.away g6 (by omega))
 replace HB:=zH (HB.out.away g6 (by omega))
 replace BR:=zH (BR.out.away g6 (by omega))
 clear g6
 replace HW:=zH (HW.out.away g7 (by omega))
 replace HB:=zH (HB.out.away g7 (by omega))
 replace BR:=zH (BR.out.away g7 (by omega))
 clear g7
 clear BM6
 have cN0:=BN.out.cell 0
 go_wp2_with (first
  | (go_at_call 49;refine (SC.out _).mono ?_;rintro e w' ⟨rfl,rfl⟩)
  | (refine wpList_load_row rfl 28 (.tmp 3) rfl w3.heap.size rfl _ _ (0,0) _ BM7.heap Tryz.underlying28 rfl (by kernel_rfl) ?_)
  | (refine wpList_store_all rfl 28 (.tmp 2) (.tmp 95) rfl w1.heap.size #[.int .i64 8,.int .i64 a,.int .i64 0,.int .i64 0,.int .i64 0,.int .i64 p,.int .i64 0,.int .i8 za,.int .i8 0,.slice none 0 0,.slice none 0 0,.int .i32 0,.int .i64 0,.int .i8 0,.int .i32 0,.int .i64 0,.int .i8 0,.int .i8 0,.int .i8 0] rfl rfl _ _ BR.out rfl (by kernel_rfl) (by simp [Value.oneCell']) ?_;intro wz BZ gz))
 clear cN0
 replace FR:=zH (FR.out.away gz (by have:=lr0.out;omega))
 refine ret_cell rfl BZ rfl Tryz.underlying28 (by kernel_rfl) rfl ⟨none,0,0,none,0,0,rfl,Sl.nil _ _ _,Sl.nil _ _ _,FR.out.out⟩
set_option maxHeartbeats 8000000 in
theorem plain_9 (a b k s p out za zb qm qs qz rm rs rz lo hi:Int) (wl bl:List Int) (W:Option Addr) (nw cw:Nat) (B:Option Addr) (nb cb:Nat) (w:World) (hw:Sl (tInt .i8) w (blo w.heap.size) W nw cw wl) (hb:Sl (tInt .i32) w (blo w.heap.size) B nb cb bl) (mw:nw≤1048576) (mb:nb≤1048576) :
  Calls Tryz.prog 48 #[.agg #[.int .i64 9,.int .i64 a,.int .i64 b,.int .i64 k,.int .i64 s,.int .i64 p,.int .i64 out,.int .i8 za,.int .i8 zb,.slice W nw cw,.slice B nb cb,.int .i32 qm,.int .i64 qs,.int .i8 qz,.int .i32 rm,.int .i64 rs,.int .i8 rz,.int .i8 lo,.int .i8 hi]] w (RetNode ⟨9,a,0,0,0,0,0,0,0,[],[],0,0,0,0,0,0,0,0⟩ w):=by
 have HW:=zH (Old.now hw)
 have HB:=zH (Old.now hb)
 clear hw hb
 have SC:=zH (fun w=>scaledK_any 9 w)
 rw [show scaledK 9=false from rfl] at SC
 have NM:=zH (fun w=>kname_any 9 w)
 have FR:=zH (Far.refl w)
 obtain ⟨w1,hw_w1,BN,k_w1⟩:=nB w #[.int .i64 9,.int .i64 a,.int .i64 b,.int .i64 k,.int .i64 s,.int .i64 p,.int .i64 out,.int .i8 za,.int .i8 zb,.slice W nw cw,.slice B nb cb,.int .i32 qm,.int .i64 qs,.int .i8 qz,.int .i32 rm,.int .i64 rs,.int .i8 rz,.int .i8 lo,.int .i8 hi] 28
 replace FR:=zH (FR.out.fut k_w1)
 replace HW:=zH (HW.out.fut k_w1)
 replace HB:=zH (HB.out.fut k_w1)
 clear k_w1
 obtain ⟨w2,hw_w2,BR,k_w2⟩:=nB w1 #[.int .i64 0,.int .i64 0,.int .i64 0,.int .i64 0,.int .i64 0,.int .i64 0,.int .i64 0,.int .i8 0,.int .i8 0,.slice none 0 0,.slice none 0 0,.int .i32 0,.int .i64 0,.int .i8 0,.int .i32 0,.int .i64 0,.int .i8 0,.int .i8 0,.int .i8 0] 28
 replace FR:=zH (FR.out.fut k_w2)
 replace HW:=zH (HW.out.fut k_w2)
 replace HB:=zH (HB.out.fut k_w2)
 replace BN:=zH (BN.out.fut k_w2)
 clear k_w2
 have cN0:=BN.out.cell 0
 have cN1:=BN.out.cell 1
 go_enter Tryz.func48,Tryz.ntmps48
 go_wp2_with fail
 have lr0:=zH (show w.heap.size≤w1.heap.size by rw [← hw_w1];simp)
 clear hw_w1 hw_w2
 refine (NM.out _).mono ?_
 rintro e w3 ⟨rfl,hb⟩
 have tn:(nameOf 9).toList.isEmpty=false:=by rw [ByteArray.toList_eq];rfl
 clear cN0 cN1
 replace FR:=zH (FR.out.fut hb)
 replace HW:=zH (HW.out.fut hb)
 replace HB:=zH (HB.out.fut hb)
 replace BN:=zH (BN.out.fut hb)
 replace BR:=zH (BR.out.fut hb)
 clear hb
 have ln:w.heap.size < w3.heap.size:=BN.out.lt
 have lr:w1.heap.size < w3.heap.size:=BR.out.lt
 have cN0:=BN.out.cell 0
 have cN1:=BN.out.cell 1
 obtain ⟨w4,hw_w4,BM,k_w4⟩:=nB w3 #[.int .i64 0,.int .i64 0,.int .i64 0,.int .i64 0,.int .i64 0,.int .i64 0,.int .i64 0,.int .i8 0,.int .i8 0,.slice none 0 0,.slice none 0 0,.int .i32 0,.int .i64 0,.int .i8 0,.int .i32 0,.int .i64 0,.int .i8 0,.int .i8 0,.int .i8 0] 28
 replace FR:=zH (FR.out.fut k_w4)
 replace HW:=zH (HW.out.fut k_w4)
 replace HB:=zH (HB.out.fut k_w4)
 replace BN:=zH (BN.out.fut k_w4)
 replace BR:=zH (BR.out.fut k_w4)
 clear k_w4
 go_wp2_with (refine wpList_store_all rfl 28 (.tmp 3) (.tmp 13) rfl w3.heap.size #[.int .i64 9,.int .i64 a,.int .i64 0,.int .i64 0,.int .i64 0,.int .i64 0,.int .i64 0,.int .i8 0,.int .i8 0,.slice none 0 0,.slice none 0 0,.int .i32 0,.int .i64 0,.int .i8 0,.int .i32 0,.int .i64 0,.int .i8 0,.int .i8 0,.int .i8 0] rfl rfl _ _ BM.out rfl (by kernel_rfl) (by simp [Value.oneCell']) ?_;intro w5 BM5 g5;have cM0:=(BN.out.away g5 (by omega)).cell 0)
 clear hw_w4 cM0
 clear cN0 cN1
 replace FR:=zH (FR.out.away g5 (by omega))
 replace HW:=zH (HW.out.away g5 (by omega))
 replace HB:=zH (HB.out.away g5 (by omega))
 replace BN:=zH (BN.out.away g5 (by omega))
 replace BR:=zH (BR.out.away g5 (by omega))
 clear g5
 have cN0:=BN.out.cell 0
 go_wp2_with (first
  | (go_at_call 49;refine (SC.out _).mono ?_;rintro e w' ⟨rfl,rfl⟩)
  | (refine wpList_load_row rfl 28 (.tmp 3) rfl w3.heap.size rfl _ _ (0,0) _ BM5.heap Tryz.underlying28 rfl (by kernel_rfl) ?_)
  | (refine wpList_store_all rfl 28 (.tmp 2) (.tmp 95) rfl w1.heap.size #[.int .i64 9,.int .i64 a,.int .i64 0,.int .i64 0,.int .i64 0,.int .i64 0,.int .i64 0,.int .i8 0,.int .i8 0,.slice none 0 0,.slice none 0 0,.int .i32 0,.int .i64 0,.int .i8 0,.int .i32 0,.int .i64 0,.int .i8 0,.int .i8 0,.int .i8 0] rfl rfl _ _ BR.out rfl (by kernel_rfl) (by simp [Value.oneCell']) ?_;intro wz BZ gz))
 clear cN0
 replace FR:=zH (FR.out.away gz (by have:=lr0.out;omega))
 refine ret_cell rfl BZ rfl Tryz.underlying28 (by kernel_rfl) rfl ⟨none,0,0,none,0,0,rfl,Sl.nil _ _ _,Sl.nil _ _ _,FR.out.out⟩
end Go.Proofs.YtlbkekabmpienaaGreat
