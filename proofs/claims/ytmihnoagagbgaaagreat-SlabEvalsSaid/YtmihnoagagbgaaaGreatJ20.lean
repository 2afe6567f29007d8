/-
  One sum of a window of one channel (layer 17, the document's Sum).
-/
import Derived.Test.YtmihnoagagbgaaaGreatJ14
set_option linter.unusedVariables false
set_option linter.unusedSimpArgs false
set_option maxRecDepth 100000
set_option maxHeartbeats 16000000
namespace Go.Proofs.YtmihnoagagbgaaaGreat
open Go.RowKit Go.ChangeShapes Go.WideShapes Fx Tryz
set_option maxRecDepth 100000
set_option maxHeartbeats 16000000
theorem uj {H V C:Nat} {l:List Int} {za:Int} {y x:Int} {c:Nat} (hl:∀ i,InK .i8 (l.getD i 0)) (hz:InK .i8 za):(px H V C l za y x c).natAbs≤255:=by
 unfold px
 split
 ·have h1:=hl ((y.toNat*V+x.toNat)*C+c)
  rw [aT] at h1 hz
  omega
 ·simp
theorem rV {H V C:Nat} {l w:List Int} {za:Int} {y x:Int} {c j:Nat} (hl:∀ i,InK .i8 (l.getD i 0)) (hw:∀ i,InK .i8 (w.getD i 0)) (hz:InK .i8 za):(w.getD j 0*px H V C l za y x c).natAbs≤32640:=by
 have h1:=uj (H:=H) (V:=V) (C:=C) (y:=y) (x:=x) (c:=c) hl hz
 have h2:=hw j
 rw [aT] at h2
 have:=natAbs_mul_le (a:=w.getD j 0) (b:=px H V C l za y x c) (m:=128) (n:=255) oM h1
 omega
theorem kV (H V C:Nat) (A:QA) (n cap:Nat) (l:List Int) (d:af) (W:QA) (nw cw:Nat) (B:QA) (nb cb:Nat) (K S P y x c:Nat) (w:World)
  (hl:xA w A n cap l) (hwl:xA w W nw cw d.w) (hbl:xB w B nb cb d.bias) (hn:n=H*V*C) (hn2:n≤1024) (h1:1≤H∧H≤16) (v1:1≤V∧V≤16) (c1:1≤C∧C≤1024) (he:decide (0 < ab H V C)=true)
  (hk:d.k=K) (hs:d.s=S) (hp:d.p=P) (k1:1≤K∧K≤5) (s1:1≤S∧S≤4) (p1:P≤4) (hz:InK .i8 d.za) (hy:y≤1000) (hx:x≤1000) (hc:c < C) (hcb:c < nb) (hnw:nw=C*K*K) :
  Calls prog 102 #[.agg (tN H V C A n cap),.agg (nN d.kind d.a d.b d.k d.s d.p d.out d.za d.zb W nw cw B nb cb d.qm d.qs d.qz d.rm d.rs d.rz d.lo d.hi),.int .i64 y,.int .i64 x,.int .i64 c] w fun e w' =>
   e=.returned (.int .i64 (d.bias.getD c 0+eG H V C l d.za d.w K S P c y x))∧Below w w w':=by
 obtain ⟨bb,ob,rfl,-,-,-,-⟩:=hbl.int_at c hcb
 have FR:=zW w
 have OL:=zH (Old.now hl)
 have OW:=zH (Old.now hwl)
 have OB:=zH (Old.now hbl)
 obtain ⟨w1,w2,yw1,yw2,_,_,BT,BN,yk2⟩:=bk2 w (tN H V C A n cap) 27 (nN d.kind d.a d.b d.k d.s d.p d.out d.za d.zb W nw cw (some ⟨bb,ob,none⟩) nb cb d.qm d.qs d.qz d.rm d.rs d.rz d.lo d.hi) 42
 obtain ⟨FR,OL,OW,OB⟩:=uz4 yk2 FR OL OW OB
 clear yk2
 have IX:=zH (fun (yy xx:Int) (wq:World)=>dt H V C yy xx c wq h1 v1 c1 he hc)
 obtain ⟨b0,o0,e0,-,-,cB,iB⟩:=OB.o.out.int_at c hcb
 simp only [Option.some.injEq,Addr.mk.injEq,and_true] at e0
 obtain ⟨rfl,rfl⟩:=e0
 obtain ⟨bo,hbo⟩:∃ m,d.bias.getD c 0=m:=⟨_,rfl⟩
 rw [hbo] at cB iB ⊢
 have HN:=zH hn
 have HW:=zH hnw
 have HL:=zH hl
 have HWL:=zH hwl
 have HK:=zH hk
 have HS:=zH hs
 have HP:=zH hp
 have HZ:=zH hz
 obtain ⟨n3,n10⟩:=uc2 BN 3 10
 simp only [gX] at n3 n10
 rw [hk] at n3
 obtain ⟨KK,hKK⟩:∃ m,K*K=m:=⟨_,rfl⟩
 have hKi:(K:Int)*(K:Int)=(KK:Int):=by rw [← hKK];simp
 have KK1:KK≤25:=by rw [← hKK];exact Nat.mul_le_mul k1.2 k1.2
 unfold eG
 rw [hKK]
 rw [bE] at iB
 have BB:=zH (show ∀ m,m≤KK → -2000000≤az m (bG H V C l d.za d.w K S P c y x)∧az m (bG H V C l d.za d.w K S P c y x)≤2000000 from fun m hm=>by
  have:=jT (n:=m) (f:=bG H V C l d.za d.w K S P c y x) (b:=32640) (fun i _=>rV (fun i=>hl.allK i) (fun i=>hwl.allK i) hz)
  have:=Nat.mul_le_mul_right 32640 hm
  omega)
 have hk0:=k1
 obtain ⟨k1a,k1b⟩:=k1
 have HKK:=zH hKK
 clear hl hwl hbl hn hnw hk hs hp hz he hbo hKK
 go_in
 go_wp2_with fail
 clear yw1 yw2 n3 n10 cB
 go_loopw [11,12] (fun u ii wr=>∃ i:Nat,i≤K∧ii=.int .i64 i∧Far w wr∧Blk wr w.heap.size 27 (tN H V C A n cap)∧Blk wr w1.heap.size 42 (nN d.kind d.a d.b d.k d.s d.p d.out d.za d.zb W nw cw (some ⟨bb,ob,none⟩) nb cb d.qm d.qs d.qz d.rm d.rs d.rz d.lo d.hi)∧u=.int .i64 (bo+az (i*K) (bG H V C l d.za d.w K S P c y x))) (fun _ ii _=>K - (intOf ii).toNat)
 case atStart=>exact ⟨0,zl _,rfl,FR.o,BT.o,BN.o,by rw [Nat.zero_mul];simp [az]⟩
 case round =>
  obtain ⟨i,hi,rfl,hf,hbt,hbn,rfl⟩:=hrel
  clear FR BT BN
  have FR:=zH hf
  have BT:=zH hbt
  have BN:=zH hbn
  clear hf hbt hbn
  have n3:=BN.o.cell 3
  simp only [gX] at n3
  rw [HK.o] at n3
  by_cases hlt:i < K
  ·have p1':(i:Int) < (K:Int):=oM
   go_wp2_with fail
   clear n3
   go_loopw [11,13] (fun u ii wr=>∃ j:Nat,j≤K∧ii=.int .i64 j∧Far w wr∧Blk wr w.heap.size 27 (tN H V C A n cap)∧Blk wr w1.heap.size 42 (nN d.kind d.a d.b d.k d.s d.p d.out d.za d.zb W nw cw (some ⟨bb,ob,none⟩) nb cb d.qm d.qs d.qz d.rm d.rs d.rz d.lo d.hi)∧u=.int .i64 (bo+az (i*K+j) (bG H V C l d.za d.w K S P c y x))) (fun _ ii _=>K - (intOf ii).toNat)
   case atStart=>exact ⟨0,zl _,rfl,FR.o,BT.o,BN.o,by rw [Nat.add_zero]⟩
   case round =>
    obtain ⟨j,hj,rfl,hf,hbt,hbn,rfl⟩:=hrel
    clear FR BT BN
    have FR:=zH hf
    have BT:=zH hbt
    have BN:=zH hbn
    clear hf hbt hbn
    have n3:=BN.o.cell 3
    simp only [gX] at n3
    rw [HK.o] at n3
    by_cases hlj:j < K
    ·have p2':(j:Int) < (K:Int):=oM
     have hkk:i*K+j < KK:=by
      rw [← HKK.o]
      have:(i+1)*K≤K*K:=Nat.mul_le_mul_right _ hlt
      rw [Nat.succ_mul] at this
      omega
     have hki:(i*K+j) / K=i:=by rw [Nat.mul_comm,Nat.mul_add_div oM,Nat.div_eq_of_lt hlj,Nat.add_zero]
     have hkj:(i*K+j) % K=j:=by rw [Nat.mul_comm,Nat.mul_add_mod,Nat.mod_eq_of_lt hlj]
     obtain ⟨ys,hys⟩:∃ m,y*S=m:=⟨_,rfl⟩
     have ysi:(y:Int)*(S:Int)=(ys:Int):=by rw [← hys];simp
     have ysb:ys≤4000:=by rw [← hys];exact Nat.mul_le_mul hy s1.2
     obtain ⟨xs,hxs⟩:∃ m,x*S=m:=⟨_,rfl⟩
     have xsi:(x:Int)*(S:Int)=(xs:Int):=by rw [← hxs];simp
     have xsb:xs≤4000:=by rw [← hxs];exact Nat.mul_le_mul hx s1.2
     obtain ⟨yy,hyy⟩:∃ m:Int,((y*S+i:Nat):Int) - P=m:=⟨_,rfl⟩
     obtain ⟨xx,hxx⟩:∃ m:Int,((x*S+j:Nat):Int) - P=m:=⟨_,rfl⟩
     have hyy2:(ys:Int)+(i:Int) - (P:Int)=yy:=by rw [← hyy,hys];simp
     have hxx2:(xs:Int)+(j:Int) - (P:Int)=xx:=by rw [← hxx,hxs];simp
     have byy:-10≤yy∧yy≤5000:=oM
     have bxx:-10≤xx∧xx≤5000:=oM
     have g1:IntKind.i64.wrap ((y:Int)*(S:Int))=(ys:Int):=by rw [ysi];exact wJ
     have g2:IntKind.i64.wrap ((x:Int)*(S:Int))=(xs:Int):=by rw [xsi];exact wJ
     have g3:IntKind.i64.wrap ((ys:Int)+(i:Int))=(ys:Int)+(i:Int):=wJ
     have g4:IntKind.i64.wrap ((xs:Int)+(j:Int))=(xs:Int)+(j:Int):=wJ
     have g5:IntKind.i64.wrap ((ys:Int)+(i:Int) - (P:Int))=yy:=by rw [hyy2];exact wJ
     have g6:IntKind.i64.wrap ((xs:Int)+(j:Int) - (P:Int))=xx:=by rw [hxx2];exact wJ
     have hq:az (i*K+j+1) (bG H V C l d.za d.w K S P c y x)=az (i*K+j) (bG H V C l d.za d.w K S P c y x)+bG H V C l d.za d.w K S P c y x (i*K+j):=rfl
     have hq2:bG H V C l d.za d.w K S P c y x (i*K+j)=d.w.getD (c*K*K+(i*K+j)) 0*px H V C l d.za yy xx c:=by unfold bG;rw [hki,hkj,hyy,hxx]
     obtain ⟨D,hD⟩:∃ m,az (i*K+j) (bG H V C l d.za d.w K S P c y x)=m:=⟨_,rfl⟩
     have bD:=BB.o (i*K+j) oM
     have bD1:=BB.o (i*K+j+1) oM
     rw [hD] at hq bD ⊢
     obtain ⟨D1,hD1⟩:∃ m,az (i*K+j+1) (bG H V C l d.za d.w K S P c y x)=m:=⟨_,rfl⟩
     rw [hD1] at hq bD1
     have HD:=zH (show az (i*K+(j+1)) (bG H V C l d.za d.w K S P c y x)=D1 from hD1)
     obtain ⟨n4,n5⟩:=uc2 BN 4 5
     obtain ⟨t0,t1⟩:=uc2 BT 0 1
     simp only [gX] at n4 n5 t0 t1
     rw [HS.o] at n4
     rw [HP.o] at n5
     clear hD hD1 hyy hxx hys hxs ysi xsi hyy2 hxx2
     go_wp2_with fail
     go_quiet (fail)
     clear g1 g2 g3 g4 g5 g6
     by_cases a1:0≤yy
     ·by_cases a2:yy < (H:Int)
      ·by_cases a3:0≤xx
       ·by_cases a4:xx < (V:Int)
        ·go_wp2_with fail
         have hpx:px H V C l d.za yy xx c=l.getD ((yy.toNat*V+xx.toNat)*C+c) 0 - d.za:=by unfold px;rw [if_pos ⟨a1,a2,a3,a4⟩]
         obtain ⟨yn,hyn⟩:∃ m:Nat,yy=m:=⟨yy.toNat,by omega⟩
         subst hyn
         obtain ⟨xn,hxn⟩:∃ m:Nat,xx=m:=⟨xx.toNat,by omega⟩
         subst hxn
         simp only [Int.toNat_natCast] at hpx
         rw [hq2,hpx] at hq
         obtain ⟨wq,hwq⟩:∃ m,wr.drewN nq=m:=⟨_,rfl⟩
         have kd:Below wr wr wq:=by rw [← hwq];exact am (qB _ _) _
         obtain ⟨FR,BT,BN⟩:=uz3 kd FR BT BN
         rw [hwq]
         clear n3 n4 n5 t0 t1 kd hpx hq2 hwq
         have E1:=zH (fun q:Ext wq=>aR q (gQ H V C A n cap l yn xn c q.1 ((Old.now HL.o).fut (FR.o.fut q.2).out).all HN.o hn2 c1.2 oM oM hc))
         have hix:c*K*K+(i*K+j) < nw:=by
          rw [HW.o]
          have:(c+1)*(K*K)≤C*(K*K):=Nat.mul_le_mul_right _ hc
          rw [HKK.o] at this
          rw [Nat.mul_assoc,Nat.mul_assoc,HKK.o]
          rw [Nat.succ_mul] at this
          omega
         obtain ⟨r1,hr1⟩:∃ m,c*K=m:=⟨_,rfl⟩
         have j1:(c:Int)*(K:Int)=(r1:Int):=by rw [← hr1];simp
         have r1b:r1≤5120:=by rw [← hr1];exact Nat.mul_le_mul (show c≤1024 by omega) k1b
         obtain ⟨r3,hr3⟩:∃ m,(r1+i)*K=m:=⟨_,rfl⟩
         have j3:((r1+i:Nat):Int)*(K:Int)=(r3:Int):=by rw [← hr3];simp
         have r3b:r3≤5125*5:=by rw [← hr3];exact Nat.mul_le_mul oM k1b
         have hidx:c*K*K+(i*K+j)=r3+j:=by rw [← hr3,← hr1,Nat.add_mul];omega
         rw [hidx] at hix hq
         obtain ⟨bW,oW,rfl,-,-,cW,iW⟩:=(zO HWL FR).int_at (r3+j) hix
         obtain ⟨dv,hdv⟩:∃ m,l.getD ((yn*V+xn)*C+c) 0=m:=⟨_,rfl⟩
         obtain ⟨wv,hwv⟩:∃ m,d.w.getD (r3+j) 0=m:=⟨_,rfl⟩
         obtain ⟨zv,hzv⟩:∃ m,d.za=m:=⟨_,rfl⟩
         have hzz:=HZ.o
         have ia:=HL.o.allK ((yn*V+xn)*C+c)
         rw [hdv] at ia hq E1
         rw [hwv] at cW iW hq
         rw [hzv] at hq hzz
         rw [aT] at ia iW hzz
         obtain ⟨i1,i2⟩:=ia
         obtain ⟨i3,i4⟩:=iW
         obtain ⟨i5,i6⟩:=hzz
         have hm:=eL wv (dv - zv) i3 i4 oM oM
         obtain ⟨pr,hpr⟩:∃ m,wv*(dv - zv)=m:=⟨_,rfl⟩
         rw [hpr] at hm hq
         have g1:IntKind.i64.wrap ((c:Int)*(K:Int))=(r1:Int):=by rw [j1];exact wJ
         have g2:IntKind.i64.wrap ((r1:Int)+(i:Int))=((r1+i:Nat):Int):=(wJ).trans oM
         have g3:IntKind.i64.wrap (((r1+i:Nat):Int)*(K:Int))=(r3:Int):=by rw [j3];exact wJ
         have g3':IntKind.i64.wrap (((r1:Int)+(i:Int))*(K:Int))=(r3:Int):=by rw [← Int.natCast_add];exact g3
         have g4:IntKind.i64.wrap ((r3:Int)+(j:Int))=((r3+j:Nat):Int):=(wJ).trans oM
         have g5:IntKind.i64.wrap dv=dv:=wJ
         have g6:IntKind.i64.wrap wv=wv:=wJ
         have g7:IntKind.i64.wrap zv=zv:=wJ
         have g8:IntKind.i64.wrap (dv - zv)=dv - zv:=wJ
         have g9:IntKind.i64.wrap (wv*(dv - zv))=pr:=by rw [hpr];exact wJ
         have g10:IntKind.i64.wrap (bo+D+pr)=bo+D1:=(wJ).trans oM
         have x0:∀ q:Ext wq,q.1.cell? ⟨w.heap.size,0,none⟩=some (.int .i64 H):=fun q=>(BT.o.ext q).cell 0
         have x1:∀ q:Ext wq,q.1.cell? ⟨w.heap.size,1,none⟩=some (.int .i64 V):=fun q=>(BT.o.ext q).cell 1
         have x2:∀ q:Ext wq,q.1.cell? ⟨w.heap.size,2,none⟩=some (.int .i64 C):=fun q=>(BT.o.ext q).cell 2
         have x3:∀ q:Ext wq,q.1.cell? ⟨w.heap.size,3,none⟩=some (.slice A n cap):=fun q=>(BT.o.ext q).cell 3
         have y3:∀ q:Ext wq,q.1.cell? ⟨w1.heap.size,3,none⟩=some (.int .i64 K):=fun q=>by rw [← HK.o];exact (BN.o.ext q).cell 3
         have y7:∀ q:Ext wq,q.1.cell? ⟨w1.heap.size,7,none⟩=some (.int .i8 zv):=fun q=>by rw [← hzv];exact (BN.o.ext q).cell 7
         have y9:∀ q:Ext wq,q.1.cell? ⟨w1.heap.size,9,none⟩=some (.slice (some ⟨bW,oW,none⟩) nw cw):=fun q=>(BN.o.ext q).cell 9
         have yW:∀ q:Ext wq,q.1.cell? ⟨bW,oW+(r3+j),none⟩=some (.int .i8 wv):=fun q=>lU cW q
         have HQ:=zH hq
         clear hidx hr1 hr3 j1 j3 hdv hwv hpr hq cW
         refine aB wq kM kM (qB _ _) ?_
         repeat (go_big_quiet_step ((exact E1.o _)))
         refine wpQuiet_nil ?_
         rintro _ ⟨⟨w3,hB⟩,rfl⟩
         go_wp2
         exact ⟨⟨j+1,by omega,by go_num,FR.o.fut hB,BT.o.fut hB,BN.o.fut hB,by rw [HD.o]⟩,by simp [intOf];omega⟩
        ·have a4':(V:Int)≤xx:=oM
         have hpx:px H V C l d.za yy xx c=0:=by unfold px;exact if_neg (fun h=>a4 h.2.2.2)
         rw [hq2,hpx,Int.mul_zero,Int.add_zero] at hq
         subst hq
         clear hq2 hpx
         go_wp2
         exact ⟨⟨j+1,by omega,by go_num,FR.o.drewN _,⟨BT.o.heap⟩,⟨BN.o.heap⟩,by rw [HD.o]⟩,by simp [intOf];omega⟩
       ·have a3':xx < 0:=oM
        have hpx:px H V C l d.za yy xx c=0:=by unfold px;exact if_neg (fun h=>a3 h.2.2.1)
        rw [hq2,hpx,Int.mul_zero,Int.add_zero] at hq
        subst hq
        clear hq2 hpx
        go_wp2
        exact ⟨⟨j+1,by omega,by go_num,FR.o.drewN _,⟨BT.o.heap⟩,⟨BN.o.heap⟩,by rw [HD.o]⟩,by simp [intOf];omega⟩
      ·have a2':(H:Int)≤yy:=oM
       have hpx:px H V C l d.za yy xx c=0:=by unfold px;exact if_neg (fun h=>a2 h.2.1)
       rw [hq2,hpx,Int.mul_zero,Int.add_zero] at hq
       subst hq
       clear hq2 hpx
       go_wp2
       exact ⟨⟨j+1,by omega,by go_num,FR.o.drewN _,⟨BT.o.heap⟩,⟨BN.o.heap⟩,by rw [HD.o]⟩,by simp [intOf];omega⟩
     ·have a1':yy < 0:=oM
      have hpx:px H V C l d.za yy xx c=0:=by unfold px;exact if_neg (fun h=>a1 h.1)
      rw [hq2,hpx,Int.mul_zero,Int.add_zero] at hq
      subst hq
      clear hq2 hpx
      go_wp2
      exact ⟨⟨j+1,by omega,by go_num,FR.o.drewN _,⟨BT.o.heap⟩,⟨BN.o.heap⟩,by rw [HD.o]⟩,by simp [intOf];omega⟩
    ·obtain rfl:j=K:=oM
     go_wp2
     exact ⟨⟨i+1,by omega,by go_num,FR.o,BT.o,BN.o,by rw [Nat.succ_mul]⟩,by simp [intOf];omega⟩
  ·obtain rfl:i=K:=oM
   go_wp2
   go_ret
   have e:=HKK.o
   subst e
   exact ⟨rfl,FR.u⟩
end Go.Proofs.YtmihnoagagbgaaaGreat
