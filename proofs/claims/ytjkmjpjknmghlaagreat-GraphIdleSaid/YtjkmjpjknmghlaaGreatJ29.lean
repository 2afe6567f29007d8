/-
  The numbers of a window, one by one (layer 19: the function of pool.window).
-/
import Derived.RangeFuncNested
import Derived.RangeFuncBound
import Derived.OwnWalkIn
import Derived.TacticsInMore
import Derived.LoopNIn
import Derived.LoopIn
import Derived.Test.YtjkmjpjknmghlaaGreatJ24
set_option linter.unusedVariables false
set_option linter.unusedSimpArgs false
namespace Go.Proofs.YtjkmjpjknmghlaaGreat
open Go.RowKit Go.ChangeShapes Go.WideShapes Fx
set_option maxRecDepth 100000
set_option maxHeartbeats 4000000
abbrev I8:={ x:Int // InK .i8 x }
def e8 (x:I8):Array Value:=#[Value.int .i8 x.1]
def winX (H V C:Nat) (l:List Int) (hl:∀ i,InK .i8 (l.getD i 0)) (K S P:Nat) (c y x:Nat):Nat → List I8
 | 0=>[]
 | q+1=>if inside H V ((y*S+q / K:Nat) - (P:Int)) ((x*S+q % K:Nat) - (P:Int)) then winX H V C l hl K S P c y x q ++ [⟨l.getD (placeV V C ((y*S+q / K:Nat) - (P:Int)) ((x*S+q % K:Nat) - (P:Int)) c) 0,hl _⟩] else winX H V C l hl K S P c y x q
theorem winX_map (H V C:Nat) (l:List Int) (hl:∀ i,InK .i8 (l.getD i 0)) (K S P:Nat) (c y x:Nat):∀ q,(winX H V C l hl K S P c y x q).map (fun v=>v.1)=winL H V C l K S P c y x q
 | 0=>rfl
 | q+1=>by
  have ih:=winX_map H V C l hl K S P c y x q
  unfold winX winL
  split
  ·rw [List.map_append,ih];rfl
  ·exact ih
theorem winX_len (H V C:Nat) (l:List Int) (hl:∀ i,InK .i8 (l.getD i 0)) (K S P:Nat) (c y x q:Nat):(winX H V C l hl K S P c y x q).length≤q:=by
 rw [← List.length_map (f:=fun v:I8=>v.1),winX_map]
 exact winL_len H V C l K S P c y x q
theorem below_none {w w':World} (hb:Below w.heap.size w w'):w.grownBy w' none:=⟨hb.os,hb.tape,hb.output,hb.size,fun k hk _=>hb.block k hk⟩
theorem Blk.under {w w':World} {n₀ g:Nat} {e:TypeId} {cs:Array Value} (h:Blk w g e cs) (hb:Below n₀ w w') (hg:g < n₀):Blk w' g e cs:=⟨(hb.block g hg).trans h.heap⟩
theorem win1_stops (H V C:Nat) (A:Option Addr) (n cap:Nat) (l:List Int) (d:Node) (W:Option Addr) (nw cw:Nat) (B:Option Addr) (nb cb:Nat) (K S P y x c:Nat) (bN bT bH bW bC n₀ m:Nat) (w:World)
  (hl:Sl (tInt .i8) w (blo n₀) A n cap l) (hn:n=H*V*C) (hn2:n≤1024) (h1:1≤H∧H≤16) (v1:1≤V∧V≤16) (c1:1≤C∧C≤1024) (he:decide (0 < elems H V C)=true)
  (hk:d.k=K) (hs:d.s=S) (hp:d.p=P) (k1:1≤K∧K≤5) (s1:1≤S∧S≤4) (p1:P≤4) (hy:y≤1000) (hx:x≤1000) (hc:c < C)
  (BN:Blk w bN 44 (nN d.kind d.a d.b d.k d.s d.p d.out d.za d.zb W nw cw B nb cb d.qm d.qs d.qz d.rm d.rs d.rz d.lo d.hi)) (BT:Blk w bT 27 #[.int .i64 H,.int .i64 V,.int .i64 C,.slice A n cap])
  (BH:Blk w bH 3 #[.int .i64 y]) (BW:Blk w bW 3 #[.int .i64 x]) (BC:Blk w bC 3 #[.int .i64 c]) (hb:bN < n₀∧bT < n₀∧bH < n₀∧bW < n₀∧bC < n₀) (hn₀:n₀≤w.heap.size) (hm:1≤m) :
  SeqStopsK Fence.wide m Tryz.prog 128 #[.pointer (some ⟨bN,0,none⟩),.pointer (some ⟨bT,0,none⟩),.pointer (some ⟨bH,0,none⟩),.pointer (some ⟨bW,0,none⟩),.pointer (some ⟨bC,0,none⟩)] e8 (Below n₀) (fun ys=>ys=winX H V C l hl.allK K S P c y x (K*K)) (fun _=>True) (K*K) w:=by
 intro lo J Jx W0 hW hJ hJx hY h0
 have h8:∀ i,InK .i8 (l.getD i 0):=hl.allK
 obtain ⟨XS,hXS⟩:∃ f,winX H V C l hl.allK K S P c y x=f:=⟨_,rfl⟩
 have XL:∀ q,(XS q).length≤q:=fun q=>by rw [← hXS];exact winX_len _ _ _ _ _ _ _ _ _ _ _ _
 have XZ:XS 0=[]:=by rw [← hXS];rfl
 have XS1:∀ q,XS (q+1)=if inside H V ((y*S+q / K:Nat) - (P:Int)) ((x*S+q % K:Nat) - (P:Int)) then XS q ++ [⟨l.getD (placeV V C ((y*S+q / K:Nat) - (P:Int)) ((x*S+q % K:Nat) - (P:Int)) c) 0,h8 _⟩] else XS q:=fun q=>by rw [← hXS];rfl
 rw [hXS]
 have hWb:Below n₀ w W0:=hW.mono hn₀
 have HL:=zH (hl.below hWb (fun b h=>h))
 have GB:=zH hb
 have GB2:=zH (show n₀≤W0.heap.size from Nat.le_trans hn₀ hW.size)
 have BN:=zH (BN.under hWb hb.1)
 have BT:=zH (BT.under hWb hb.2.1)
 have BH:=zH (BH.under hWb hb.2.2.1)
 have BW:=zH (BW.under hWb hb.2.2.2.1)
 have BC:=zH (BC.under hWb hb.2.2.2.2)
 have IX:=zH (fun (yy xx:Int) (w:World)=>shapeIndex_any H V C yy xx c w h1 v1 c1 he hc)
 have HN:=zH hn
 have HK:=zH hk
 have HS:=zH hs
 have HP:=zH hp
 have XS1:=zH XS1
 have XL:=zH XL
 have HJ:=zH (And.intro hJ hJx)
 have HY:=zH hY
 have n3:=BN.out.cell 3
 simp only [gX] at n3
 rw [hk] at n3
 obtain ⟨KK,hKK⟩:∃ m,K*K=m:=⟨_,rfl⟩
 have hKi:(K:Int)*(K:Int)=(KK:Int):=by rw [← hKK];simp
 have KK1:KK≤25:=by rw [← hKK];exact Nat.mul_le_mul k1.2 k1.2
 rw [hKK] at HY ⊢
 have gKK:IntKind.i64.wrap ((K:Int)*(K:Int))=(KK:Int):=by rw [hKi];exact IntWalk.i64_in _ (by omega)
 obtain ⟨k1a,k1b⟩:=k1
 clear hl hn hk hs hp he hKK hXS hW hWb hJ hJx hY hb hn₀ hKi
 rw [callsIn_wide]
 simp only [List.append_toArray,List.cons_append,List.nil_append]
 go_enter Tryz.func128,Tryz.ntmps128
 go_wp2_with fail
 go_loopw [15] (fun ii wr=>∃ q:Nat,q≤KK∧ii=.int .i64 q∧J (XS q) wr∧Below n₀ W0 wr∧W0.heap.size≤wr.heap.size) (fun ii _=>KK - (intOf ii).toNat)
 case atStart=>exact ⟨0,Nat.zero_le _,rfl,by rw [XZ];exact h0,Below.refl _ _,Nat.le_refl _⟩
 case round =>
  obtain ⟨q,hq,rfl,hj,hbw,hsz⟩:=hrel
  have BT:=zH (BT.out.under hbw GB.out.2.1)
  have BN:=zH (BN.out.under hbw GB.out.1)
  have BH:=zH (BH.out.under hbw GB.out.2.2.1)
  have BW:=zH (BW.out.under hbw GB.out.2.2.2.1)
  have BC:=zH (BC.out.under hbw GB.out.2.2.2.2)
  have HL:=zH (HL.out.below hbw (fun b h=>h))
  have HJS:=zH hj
  have HB:=zH (And.intro hbw hsz)
  clear hj hbw hsz
  by_cases hlt:q < KK
  ·have p1':(q:Int) < (KK:Int):=by omega
   go_wp2_with fail
   obtain ⟨ki,hki⟩:∃ m,q / K=m:=⟨_,rfl⟩
   obtain ⟨kj,hkj⟩:∃ m,q % K=m:=⟨_,rfl⟩
   have bki:ki≤25:=by rw [← hki];exact Nat.le_trans (Nat.div_le_self _ _) (by omega)
   have bkj:kj≤5:=by rw [← hkj];exact Nat.le_trans (Nat.le_of_lt (Nat.mod_lt _ (by omega))) k1b
   have hK0:(K:Int) ≠ 0:=by omega
   have d1:(q:Int).tdiv (K:Int)=(ki:Int):=by rw [← hki,Int.tdiv_eq_ediv_of_nonneg (by omega)];simp
   have d2:(q:Int).tmod (K:Int)=(kj:Int):=by rw [← hkj,Int.tmod_eq_emod_of_nonneg (by omega)];simp
   obtain ⟨ys,hys⟩:∃ m,y*S=m:=⟨_,rfl⟩
   have ysi:(y:Int)*(S:Int)=(ys:Int):=by rw [← hys];simp
   have ysb:ys≤4000:=by rw [← hys];exact Nat.mul_le_mul hy s1.2
   obtain ⟨xs,hxs⟩:∃ m,x*S=m:=⟨_,rfl⟩
   have xsi:(x:Int)*(S:Int)=(xs:Int):=by rw [← hxs];simp
   have xsb:xs≤4000:=by rw [← hxs];exact Nat.mul_le_mul hx s1.2
   obtain ⟨yy,hyy⟩:∃ m:Int,((y*S+q / K:Nat):Int) - P=m:=⟨_,rfl⟩
   obtain ⟨xx,hxx⟩:∃ m:Int,((x*S+q % K:Nat):Int) - P=m:=⟨_,rfl⟩
   have hyy2:(ys:Int)+(ki:Int) - (P:Int)=yy:=by rw [← hyy,hys,hki];simp
   have hxx2:(xs:Int)+(kj:Int) - (P:Int)=xx:=by rw [← hxx,hxs,hkj];simp
   have g1:IntKind.i64.wrap ((y:Int)*(S:Int))=(ys:Int):=by rw [ysi];exact IntWalk.i64_in _ (by omega)
   have g2:IntKind.i64.wrap ((x:Int)*(S:Int))=(xs:Int):=by rw [xsi];exact IntWalk.i64_in _ (by omega)
   have g3:IntKind.i64.wrap ((ys:Int)+(ki:Int))=(ys:Int)+(ki:Int):=IntWalk.i64_in _ (by omega)
   have g4:IntKind.i64.wrap ((xs:Int)+(kj:Int))=(xs:Int)+(kj:Int):=IntWalk.i64_in _ (by omega)
   have g5:IntKind.i64.wrap ((ys:Int)+(ki:Int) - (P:Int))=yy:=by rw [hyy2];exact IntWalk.i64_in _ (by omega)
   have g6:IntKind.i64.wrap ((xs:Int)+(kj:Int) - (P:Int))=xx:=by rw [hxx2];exact IntWalk.i64_in _ (by omega)
   have g7:IntKind.i64.wrap (ki:Int)=(ki:Int):=IntWalk.i64_in _ (by omega)
   have g8:IntKind.i64.wrap (kj:Int)=(kj:Int):=IntWalk.i64_in _ (by omega)
   have t0:∀ q:Ext wr,q.1.cell? ⟨bT,0,none⟩=some (.int .i64 H):=fun q=>(BT.out.ext q).cell 0
   have t1:∀ q:Ext wr,q.1.cell? ⟨bT,1,none⟩=some (.int .i64 V):=fun q=>(BT.out.ext q).cell 1
   have t2:∀ q:Ext wr,q.1.cell? ⟨bT,2,none⟩=some (.int .i64 C):=fun q=>(BT.out.ext q).cell 2
   have n3:∀ q:Ext wr,q.1.cell? ⟨bN,3,none⟩=some (.int .i64 K):=fun q=>by rw [← HK.out];exact (BN.out.ext q).cell 3
   have n4:∀ q:Ext wr,q.1.cell? ⟨bN,4,none⟩=some (.int .i64 S):=fun q=>by rw [← HS.out];exact (BN.out.ext q).cell 4
   have n5:∀ q:Ext wr,q.1.cell? ⟨bN,5,none⟩=some (.int .i64 P):=fun q=>by rw [← HP.out];exact (BN.out.ext q).cell 5
   have u0:∀ q:Ext wr,q.1.cell? ⟨bH,0,none⟩=some (.int .i64 y):=fun q=>(BH.out.ext q).cell 0
   have u1:∀ q:Ext wr,q.1.cell? ⟨bW,0,none⟩=some (.int .i64 x):=fun q=>(BW.out.ext q).cell 0
   have u2:∀ q:Ext wr,q.1.cell? ⟨bC,0,none⟩=some (.int .i64 c):=fun q=>(BC.out.ext q).cell 0
   have RG:=zH (fun q:Ext wr=>calls_ext q (IX.out yy xx q.1))
   have XQ:=XS1.out q
   rw [hyy,hxx] at XQ
   have XLq:=XL.out q
   by_cases hin:inside H V yy xx
   ·have hin2:=hin
    unfold inside at hin2
    have E1:=RG.out
    simp only [if_pos hin,decide_eq_true hin] at E1
    rw [if_pos hin] at XQ
    obtain ⟨ix,hix⟩:∃ m,placeV V C yy xx c=m:=⟨_,rfl⟩
    rw [hix] at E1
    simp only [hix] at XQ
    have hixn:ix < n:=by
     rw [← hix,HN.out]
     exact idx_lt yy.toNat xx.toNat c H V C (by omega) (by omega) hc
    replace E1:=zH E1
    obtain ⟨v8,hv8⟩:∃ v:I8,(⟨l.getD ix 0,h8 ix⟩:I8)=v:=⟨_,rfl⟩
    rw [hv8] at XQ
    have hv9:l.getD ix 0=v8.1:=by rw [← hv8]
    have HV:=zH hv9
    have XQ:=zH XQ
    clear hv8 hv9
    refine wp_region_ext wr (by kernel_rfl) (by kernel_rfl) (Below.refl _ _) ?_
    repeat (go_big_quiet_step ((exact E1.out _)))
    refine wpQuiet_nil ?_
    rintro wz ⟨⟨w3,hB⟩,ewz⟩
    obtain rfl:wz=w3:=by first|exact ewz|exact ewz.symm
    have j3:J (XS q) wz:=HJ.out.1 _ _ _ none HJS.out (below_none hB) (fun r e=>by cases e)
    have b3:Below n₀ W0 wz:=HB.out.1.trans (hB.mono (Nat.le_trans GB2.out HB.out.2))
    have s3:=hB.size
    obtain ⟨b,o,rfl,hbb,-,cx,-⟩:=(HL.out.below (hB.mono (Nat.le_trans GB2.out HB.out.2)) (fun b h=>h)).int_at ix hixn
    have tt:=(BT.out.fut hB).cell 3
    simp only [gX] at tt
    clear t0 t1 t2 n3 n4 n5 u0 u1 u2 g1 g2 g3 g4 g5 g6 g7 g8 d1 d2
    have XQ2:=XQ.out
    obtain ⟨fn,tmps,assign,body,hy,hR⟩:=HY.out (XS q) v8 wz j3 (by omega)
    rw [HV.out] at cx
    simp only [e8] at hy
    go_step
    go_step
    rw [← wpIn_wide (n:=m)]
    gi_wp2
    refine hR.mono ?_
    rintro e w4 (⟨rfl,hJ4,hk4⟩|⟨rfl,hJx4⟩)
    ·gi_wp2
     go_wp2_with fail
     have b4:=b3.trans hk4
     have s4:=hk4.size
     rw [← XQ2] at hJ4
     exact ⟨⟨q+1,by omega,by go_num,hJ4,b4,by have:=HB.out.2;omega⟩,by simp [intOf];omega⟩
    ·gi_wp2
     refine bodyPost_ret (results_none rfl _ _ _) rfl ?_
     exact ⟨⟨_,rfl⟩,.inr ⟨_,trivial,hJx4⟩⟩
   ·have E1:=RG.out
    simp only [if_neg hin,decide_eq_false hin] at E1
    rw [if_neg hin] at XQ
    replace E1:=zH E1
    have XQ:=zH XQ
    refine wp_region_ext wr (by kernel_rfl) (by kernel_rfl) (Below.refl _ _) ?_
    repeat (go_big_quiet_step ((exact E1.out _)))
    refine wpQuiet_nil ?_
    rintro wz ⟨⟨w3,hB⟩,ewz⟩
    obtain rfl:wz=w3:=by first|exact ewz|exact ewz.symm
    have j3:J (XS q) wz:=HJ.out.1 _ _ _ none HJS.out (below_none hB) (fun r e=>by cases e)
    have b3:Below n₀ W0 wz:=HB.out.1.trans (hB.mono (Nat.le_trans GB2.out HB.out.2))
    have s3:=hB.size
    clear t0 t1 t2 n3 n4 n5 u0 u1 u2 g1 g2 g3 g4 g5 g6 g7 g8 d1 d2
    have XQ2:=XQ.out
    go_wp2_with fail
    rw [← XQ2] at j3
    exact ⟨⟨q+1,by omega,by go_num,j3,b3,by have:=HB.out.2;omega⟩,by simp [intOf];omega⟩
  ·obtain rfl:q=KK:=by omega
   go_wp2_with fail
   refine bodyPost_end (results_none rfl _ _ _) rfl ?_
   exact ⟨⟨_,rfl⟩,.inl ⟨_,rfl,HJS.out⟩⟩
end Go.Proofs.YtjkmjpjknmghlaaGreat
