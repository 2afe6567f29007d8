/-
  The numbers in a window of one channel (layer 19, the document's Window).
  The middle of numbers (layer 19): pool.Near, pool.mean, the document's Near, Mean; a tensor laid flat (layer 5).
  Room around a tensor (layer 9): pad.may, the document's May, Pixel, of a tensor that is right.
-/
import Derived.Test.YtlbkekabmpienaaGreatKA02
import Derived.Test.YtlbkekabmpienaaGreatJ19
import Derived.Test.YtlbkekabmpienaaGreatJ00
import Derived.Test.YtlbkekabmpienaaGreatJ16
import Derived.Test.YtlbkekabmpienaaGreatKA05
import Derived.Test.YtlbkekabmpienaaGreatKA00
import Derived.Test.YtlbkekabmpienaaGreatJ03
import Derived.Test.YtlbkekabmpienaaGreatJ15
import Derived.Test.YtlbkekabmpienaaGreatJ08
import Derived.Test.YtlbkekabmpienaaGreatJ01
import Derived.Test.YtlbkekabmpienaaGreatJ07
import Derived.Test.YtlbkekabmpienaaGreatJ05
import Derived.Test.YtlbkekabmpienaaGreatJ06
import Derived.Test.YtlbkekabmpienaaGreatJ04
import Derived.Test.YtlbkekabmpienaaGreatJ02
import Derived.Test.YtlbkekabmpienaaGreatJ20
import Derived.Test.YtlbkekabmpienaaGreatJ26
import Derived.Test.YtlbkekabmpienaaGreatJ28
namespace Go.Proofs.YtlbkekabmpienaaGreat
set_option linter.unusedVariables false
set_option linter.unusedSimpArgs false
open Go.RowKit Go.ChangeShapes Go.WideShapes Fx
set_option maxRecDepth 100000
set_option maxHeartbeats 4000000
theorem rwindow_any (H V C:Nat) (A:Option Addr) (n cap:Nat) (l:List Int) (d:Node) (W:Option Addr) (nw cw:Nat) (B:Option Addr) (nb cb:Nat) (K S P y x c:Nat) (w:World)
  (hl:Sl (tInt .i8) w (blo w.heap.size) A n cap l) (hn:n=H*V*C) (hn2:n≤1024) (h1:1≤H∧H≤16) (v1:1≤V∧V≤16) (c1:1≤C∧C≤1024)
  (hk:d.k=K) (hs:d.s=S) (hp:d.p=P) (k1:1≤K∧K≤5) (s1:1≤S∧S≤4) (p1:P≤4) (hy:y≤1000) (hx:x≤1000) (hc:c < C) :
  Calls Tryz.prog 68 #[.agg #[.int .i64 H,.int .i64 V,.int .i64 C,.slice A n cap],.agg #[.int .i64 d.kind,.int .i64 d.a,.int .i64 d.b,.int .i64 d.k,.int .i64 d.s,.int .i64 d.p,.int .i64 d.out,.int .i8 d.za,.int .i8 d.zb,.slice W nw cw,.slice B nb cb,.int .i32 d.qm,.int .i64 d.qs,.int .i8 d.qz,.int .i32 d.rm,.int .i64 d.rs,.int .i8 d.rz,.int .i8 d.lo,.int .i8 d.hi],.int .i64 y,.int .i64 x,.int .i64 c] w (RetSl (tInt .i8) w (winL H V C l K S P c y x (K*K))):=by
 have FR:=zH (Far.refl w)
 obtain ⟨w1,hw_w1,BT,k_w1⟩:=nB w #[.int .i64 H,.int .i64 V,.int .i64 C,.slice A n cap] 32
 replace FR:=zH (FR.out.fut k_w1)
 clear k_w1
 obtain ⟨w2,hw_w2,BN,k_w2⟩:=nB w1 #[.int .i64 d.kind,.int .i64 d.a,.int .i64 d.b,.int .i64 d.k,.int .i64 d.s,.int .i64 d.p,.int .i64 d.out,.int .i8 d.za,.int .i8 d.zb,.slice W nw cw,.slice B nb cb,.int .i32 d.qm,.int .i64 d.qs,.int .i8 d.qz,.int .i32 d.rm,.int .i64 d.rs,.int .i8 d.rz,.int .i8 d.lo,.int .i8 d.hi] 28
 replace FR:=zH (FR.out.fut k_w2)
 replace BT:=zH (BT.out.fut k_w2)
 clear k_w2
 have l1:w.heap.size < w1.heap.size:=by rw [← hw_w1];simp
 have l2:w1.heap.size < w2.heap.size:=by rw [← hw_w2];simp
 have HL:=zH hl
 have HN:=zH hn
 have HK:=zH hk
 have HS:=zH hs
 have HP:=zH hp
 obtain ⟨KK,hKK⟩:∃ m,K*K=m:=⟨_,rfl⟩
 have KK1:KK≤25:=by rw [← hKK];exact Nat.mul_le_mul k1.2 k1.2
 rw [hKK]
 obtain ⟨k1a,k1b⟩:=k1
 have HKK:=zH hKK
 have L12:w2.heap.size=w1.heap.size+1:=by rw [← hw_w2];simp
 have LW2:=zH (fun (wx:World) (h:Blk wx w1.heap.size 28 #[.int .i64 d.kind,.int .i64 d.a,.int .i64 d.b,.int .i64 d.k,.int .i64 d.s,.int .i64 d.p,.int .i64 d.out,.int .i8 d.za,.int .i8 d.zb,.slice W nw cw,.slice B nb cb,.int .i32 d.qm,.int .i64 d.qs,.int .i8 d.qz,.int .i32 d.rm,.int .i64 d.rs,.int .i8 d.rz,.int .i8 d.lo,.int .i8 d.hi])=>show w2.heap.size≤wx.heap.size by have:=h.lt;omega)
 have LN:=zH (fun q=>winL_len H V C l K S P c y x q)
 clear hl hn hk hs hp hKK
 go_enter Tryz.func68,Tryz.ntmps68
 go_wp2_with fail
 clear hw_w1 hw_w2
 have ON:=zH (show Own (tInt .i8) w2 (fun _=>False) w2.heap.size 22 (.slice none 0 0) (winL H V C l K S P c y x (0*K)).length (winL H V C l K S P c y x (0*K)) by rw [Nat.zero_mul];exact Own.nil _ _ _ _ _)
 go_loopw [11,12] (fun u ii wr=>∃ i:Nat,i≤K∧ii=.int .i64 i∧Far w wr∧Blk wr w.heap.size 32 #[.int .i64 H,.int .i64 V,.int .i64 C,.slice A n cap]∧Blk wr w1.heap.size 28 #[.int .i64 d.kind,.int .i64 d.a,.int .i64 d.b,.int .i64 d.k,.int .i64 d.s,.int .i64 d.p,.int .i64 d.out,.int .i8 d.za,.int .i8 d.zb,.slice W nw cw,.slice B nb cb,.int .i32 d.qm,.int .i64 d.qs,.int .i8 d.qz,.int .i32 d.rm,.int .i64 d.rs,.int .i8 d.rz,.int .i8 d.lo,.int .i8 d.hi]∧Own (tInt .i8) wr (fun _=>False) w2.heap.size 22 u (winL H V C l K S P c y x (i*K)).length (winL H V C l K S P c y x (i*K))) (fun _ ii _=>K - (intOf ii).toNat)
 case atStart=>exact ⟨0,Nat.zero_le _,rfl,FR.out,BT.out,BN.out,ON.out⟩
 case round =>
  obtain ⟨i,hi,rfl,hf,hbt,hbn,hon⟩:=hrel
  clear FR BT BN ON
  have FR:=zH hf
  have BT:=zH hbt
  have BN:=zH hbn
  have ON:=zH hon
  clear hf hbt hbn hon
  have n3:=BN.out.cell 3
  simp only [gX] at n3
  rw [HK.out] at n3
  by_cases hlt:i < K
  ·have p1':(i:Int) < (K:Int):=by omega
   go_wp2_with fail
   clear n3
   go_loopw [11,13] (fun u ii wr=>∃ j:Nat,j≤K∧ii=.int .i64 j∧Far w wr∧Blk wr w.heap.size 32 #[.int .i64 H,.int .i64 V,.int .i64 C,.slice A n cap]∧Blk wr w1.heap.size 28 #[.int .i64 d.kind,.int .i64 d.a,.int .i64 d.b,.int .i64 d.k,.int .i64 d.s,.int .i64 d.p,.int .i64 d.out,.int .i8 d.za,.int .i8 d.zb,.slice W nw cw,.slice B nb cb,.int .i32 d.qm,.int .i64 d.qs,.int .i8 d.qz,.int .i32 d.rm,.int .i64 d.rs,.int .i8 d.rz,.int .i8 d.lo,.int .i8 d.hi]∧Own (tInt .i8) wr (fun _=>False) w2.heap.size 22 u (winL H V C l K S P c y x (i*K+j)).length (winL H V C l K S P c y x (i*K+j))) (fun _ ii _=>K - (intOf ii).toNat)
   case atStart=>exact ⟨0,Nat.zero_le _,rfl,FR.out,BT.out,BN.out,by rw [Nat.add_zero];exact ON.out⟩
   case round =>
    obtain ⟨j,hj,rfl,hf,hbt,hbn,hon⟩:=hrel
    clear FR BT BN ON
    have FR:=zH hf
    have BT:=zH hbt
    have BN:=zH hbn
    have ON:=zH hon
    clear hf hbt hbn hon
    have n3:=BN.out.cell 3
    simp only [gX] at n3
    rw [HK.out] at n3
    by_cases hlj:j < K
    ·have p2':(j:Int) < (K:Int):=by omega
     have hkk:i*K+j < KK:=by
      rw [← HKK.out]
      have:(i+1)*K≤K*K:=Nat.mul_le_mul_right _ hlt
      rw [Nat.succ_mul] at this
      omega
     have hki:(i*K+j) / K=i:=by rw [Nat.mul_comm,Nat.mul_add_div (by omega),Nat.div_eq_of_lt hlj,Nat.add_zero]
     have hkj:(i*K+j) % K=j:=by rw [Nat.mul_comm,Nat.mul_add_mod,Nat.mod_eq_of_lt hlj]
     obtain ⟨ys,hys⟩:∃ m,y*S=m:=⟨_,rfl⟩
     have ysi:(y:Int)*(S:Int)=(ys:Int):=by rw [← hys];simp
     have ysb:ys≤4000:=by rw [← hys];exact Nat.mul_le_mul hy s1.2
     obtain ⟨xs,hxs⟩:∃ m,x*S=m:=⟨_,rfl⟩
     have xsi:(x:Int)*(S:Int)=(xs:Int):=by rw [← hxs];simp
     have xsb:xs≤4000:=by rw [← hxs];exact Nat.mul_le_mul hx s1.2
     obtain ⟨yy,hyy⟩:∃ m:Int,((y*S+i:Nat):Int) - P=m:=⟨_,rfl⟩
     obtain ⟨xx,hxx⟩:∃ m:Int,((x*S+j:Nat):Int) - P=m:=⟨_,rfl⟩
     have hyy2:(ys:Int)+(i:Int) - (P:Int)=yy:=by rw [← hyy,hys];simp
     have hxx2:(xs:Int)+(j:Int) - (P:Int)=xx:=by rw [← hxx,hxs];simp
     have byy:-10≤yy∧yy≤5000:=by omega
     have bxx:-10≤xx∧xx≤5000:=by omega
     have g1:IntKind.i64.wrap ((y:Int)*(S:Int))=(ys:Int):=by rw [ysi];exact IntWalk.i64_in _ (by omega)
     have g2:IntKind.i64.wrap ((x:Int)*(S:Int))=(xs:Int):=by rw [xsi];exact IntWalk.i64_in _ (by omega)
     have g3:IntKind.i64.wrap ((ys:Int)+(i:Int))=(ys:Int)+(i:Int):=IntWalk.i64_in _ (by omega)
     have g4:IntKind.i64.wrap ((xs:Int)+(j:Int))=(xs:Int)+(j:Int):=IntWalk.i64_in _ (by omega)
     have g5:IntKind.i64.wrap ((ys:Int)+(i:Int) - (P:Int))=yy:=by rw [hyy2];exact IntWalk.i64_in _ (by omega)
     have g6:IntKind.i64.wrap ((xs:Int)+(j:Int) - (P:Int))=xx:=by rw [hxx2];exact IntWalk.i64_in _ (by omega)
     have hq:winL H V C l K S P c y x (i*K+j+1)=if inside H V yy xx then winL H V C l K S P c y x (i*K+j) ++ [l.getD (placeV V C yy xx c) 0] else winL H V C l K S P c y x (i*K+j):=by
      show (if inside H V ((y*S+(i*K+j) / K:Nat) - (P:Int)) ((x*S+(i*K+j) % K:Nat) - (P:Int)) then _ else _)=_
      rw [hki,hkj,hyy,hxx]
     have n4:=BN.out.cell 4
     have n5:=BN.out.cell 5
     have t0:=BT.out.cell 0
     have t1:=BT.out.cell 1
     simp only [gX] at n4 n5 t0 t1
     rw [HS.out] at n4
     rw [HP.out] at n5
     clear hyy hxx hys hxs ysi xsi hyy2 hxx2 hki hkj
     go_wp2_with fail
     go_quiet (fail)
     clear g1 g2 g3 g4 g5 g6
     by_cases a1:0≤yy
     ·by_cases a2:yy < (H:Int)
      ·by_cases a3:0≤xx
       ·by_cases a4:xx < (V:Int)
        ·have hq3:=hq.trans (if_pos (show inside H V yy xx from ⟨a1,a2,a3,a4⟩))
         obtain ⟨yn,hyn⟩:∃ m:Nat,yy=m:=⟨yy.toNat,by omega⟩
         subst hyn
         obtain ⟨xn,hxn⟩:∃ m:Nat,xx=m:=⟨xx.toNat,by omega⟩
         subst hxn
         unfold placeV at hq3
         simp only [Int.toNat_natCast] at hq3
         have ia:=HL.out.allK ((yn*V+xn)*C+c)
         have GE:=zH (fun wq (h:Sl (tInt .i8) wq (blo wq.heap.size) A n cap l)=>rget_any H V C A n cap l yn xn c wq h HN.out hn2 c1.2 (by omega) (by omega) hc)
         obtain ⟨v,hv⟩:∃ v,l.getD ((yn*V+xn)*C+c) 0=v:=⟨_,rfl⟩
         rw [hv] at hq3 ia GE
         have IA:=zH ia
         have HQ:=zH hq3
         have LE:=LN.out (i*K+j)
         clear hq hq3 hv ia
         obtain ⟨wq,hwq⟩:∃ m,wr.drewN nq=m:=⟨_,rfl⟩
         have kd:Below wr.heap.size wr wq:=by rw [← hwq];exact below_drewN (Below.refl _ _) _
         have ON2:=ON.out.below kd (Nat.le_refl _) (fun _ h=>h.elim)
         have F2:=FR.out.fut kd
         have T2:=BT.out.fut kd
         have N2:=BN.out.fut kd
         have q0:=cell_later kd t0
         have q1:=cell_later kd t1
         rw [hwq]
         clear n3 n4 n5 t0 t1 kd hwq
         replace ON:=zH ON2
         replace FR:=zH F2
         replace BT:=zH T2
         replace BN:=zH N2
         clear ON2 F2 T2 N2
         go_wp2_with (refine lB 32 (.tmp 5) w.heap.size BT.out Tryz.underlying32 ?_)
         refine (GE.out _ ((Old.now HL.out).fut FR.out.out).all).mono ?_
         rintro e w5 ⟨rfl,hb⟩
         have O5:=zH (ON.out.below hb (Nat.le_refl _) (fun _ h=>h.elim))
         have lw5:w2.heap.size≤w5.heap.size:=by have:=hb.size;have:=BN.out.lt;have:=FR.out.size;exact Nat.le_trans (LW2.out _ BN.out) hb.size
         replace FR:=zH (FR.out.fut hb)
         replace BT:=zH (BT.out.fut hb)
         replace BN:=zH (BN.out.fut hb)
         clear hb q0 q1
         go_wp2_with (at_builtin;refine wpList_push (W:=w5) (cs:=#[.int .i8 v]) (E:=22) (t:=tInt .i8) (S:=fun _=>False) (base:=w2.heap.size) rfl (.tmp 66) (.tmp 72) rfl ei_b8 rfl O5.out 1 rfl v ⟨rfl,IA.out⟩ (by unfold maxLen;omega) (by omega) lw5 (fun _ h=>h.elim) ?_;intro v' wz ownz gz atz)
         have oz:=ownz
         have e9:(winL H V C l K S P c y x (i*K+j) ++ [v]).length=(winL H V C l K S P c y x (i*K+j)).length+1:=by simp
         refine ⟨⟨j+1,by omega,by go_num,⟨FR.out.out.grown gz FR.out.size (fun k h=>Nat.le_trans (by omega) (O5.out.lt k h).1)⟩,BT.out.rowR gz (fun e=>by have:=(O5.out.lt _ e.symm).1;omega),BN.out.rowR gz (fun e=>by have:=(O5.out.lt _ e.symm).1;omega),?_⟩,by simp [intOf];omega⟩
         rw [show i*K+(j+1)=i*K+j+1 from rfl,HQ.out,e9]
         exact ownz
        ·have a4':(V:Int)≤xx:=by omega
         have hq3:=hq.trans (if_neg (fun h:inside H V yy xx=>a4 h.2.2.2))
         have HQ:=zH hq3
         clear hq hq3
         go_wp2_with fail
         exact ⟨⟨j+1,by omega,by go_num,FR.out.drewN _,⟨BT.out.heap⟩,⟨BN.out.heap⟩,by rw [show i*K+(j+1)=i*K+j+1 from rfl,HQ.out];exact ON.out.heap rfl⟩,by simp [intOf];omega⟩
       ·have a3':xx < 0:=by omega
        have hq3:=hq.trans (if_neg (fun h:inside H V yy xx=>a3 h.2.2.1))
        have HQ:=zH hq3
        clear hq hq3
        go_wp2_with fail
        exact ⟨⟨j+1,by omega,by go_num,FR.out.drewN _,⟨BT.out.heap⟩,⟨BN.out.heap⟩,by rw [show i*K+(j+1)=i*K+j+1 from rfl,HQ.out];exact ON.out.heap rfl⟩,by simp [intOf];omega⟩
      ·have a2':(H:Int)≤yy:=by omega
       have hq3:=hq.trans (if_neg (fun h:inside H V yy xx=>a2 h.2.1))
       have HQ:=zH hq3
       clear hq hq3
       go_wp2_with fail
       exact ⟨⟨j+1,by omega,by go_num,FR.out.drewN _,⟨BT.out.heap⟩,⟨BN.out.heap⟩,by rw [show i*K+(j+1)=i*K+j+1 from rfl,HQ.out];exact ON.out.heap rfl⟩,by simp [intOf];omega⟩
     ·have a1':yy < 0:=by omega
      have hq3:=hq.trans (if_neg (fun h:inside H V yy xx=>a1 h.1))
      have HQ:=zH hq3
      clear hq hq3
      go_wp2_with fail
      exact ⟨⟨j+1,by omega,by go_num,FR.out.drewN _,⟨BT.out.heap⟩,⟨BN.out.heap⟩,by rw [show i*K+(j+1)=i*K+j+1 from rfl,HQ.out];exact ON.out.heap rfl⟩,by simp [intOf];omega⟩
    ·obtain rfl:j=K:=by omega
     go_wp2_with fail
     exact ⟨⟨i+1,by omega,by go_num,FR.out,BT.out,BN.out,by rw [Nat.succ_mul];exact ON.out⟩,by simp [intOf];omega⟩
  ·obtain rfl:i=K:=by omega
   go_wp2_with fail
   go_ret
   have e:=HKK.out
   subst e
   obtain ⟨A2,c2,rfl,sl⟩:=ON.out.sl (S':=bin w.heap.size _) (by decide) (fun b h1 h2=>⟨by omega,h2⟩) (fun b h=>h.elim)
   exact ⟨_,_,_,rfl,sl,FR.out.out⟩
end Go.Proofs.YtlbkekabmpienaaGreat
namespace Go.Proofs.YtlbkekabmpienaaGreat
set_option linter.unusedVariables false
set_option linter.unusedSimpArgs false
open Go.RowKit Go.ChangeShapes Go.WideShapes Fx
set_option maxRecDepth 100000
set_option maxHeartbeats 4000000
theorem rpoolNear_any (s:Int) (m:Nat) (w:World) (h1:m≤1024) (h2:-131072≤s) (h3:s≤131072) :
  Calls Tryz.prog 107 #[.int .i64 s,.int .i64 m] w fun e w'=>e=.returned (.int .i64 (nearV s m))∧Below w.heap.size w w':=by
 unfold nearV
 by_cases m0:m=0
 ·rw [if_pos m0]
  subst m0
  go_enter Tryz.func107,Tryz.ntmps107
  go_wp2_with fail
  go_ret
  exact ⟨rfl,Below.refl _ _⟩
 rw [if_neg m0]
 have mp:¬ (m:Int) < 1:=by omega
 have mz:¬ (m:Int)=0:=by omega
 obtain ⟨res,hres⟩:∃ r:Int,(if s < 0 then -(nearN s.natAbs m:Int) else (nearN s.natAbs m:Int))=r:=⟨_,rfl⟩
 rw [hres]
 unfold nearN at hres
 by_cases b1:s < 0
 ·rw [if_pos b1] at hres
  obtain ⟨k,rfl⟩:∃ k:Nat,s=-(k:Int):=⟨s.natAbs,by omega⟩
  rw [show (-(k:Int)).natAbs=k by omega] at hres
  obtain ⟨a,ha⟩:∃ a,k / m=a:=⟨_,rfl⟩
  obtain ⟨b,hb⟩:∃ b,k % m=b:=⟨_,rfl⟩
  have ha2:a≤k:=by rw [← ha];exact Nat.div_le_self _ _
  have hb2:b < m:=by rw [← hb];exact Nat.mod_lt _ (by omega)
  have d1:(-(k:Int)).tdiv (m:Int)=-(a:Int):=by rw [Int.neg_tdiv,Int.tdiv_eq_ediv_of_nonneg (by omega),← ha];simp
  have d2:(-(k:Int)).tmod (m:Int)=-(b:Int):=by rw [Int.neg_tmod,Int.tmod_eq_emod_of_nonneg (by omega),← hb];simp
  have d3:(k:Int).tdiv (m:Int)=(a:Int):=by rw [Int.tdiv_eq_ediv_of_nonneg (by omega),← ha];simp
  have d4:(k:Int).tmod (m:Int)=(b:Int):=by rw [Int.tmod_eq_emod_of_nonneg (by omega),← hb];simp
  have d5:(k:Int) / (m:Int)=(a:Int):=by rw [← ha];simp
  have d6:(k:Int) % (m:Int)=(b:Int):=by rw [← hb];simp
  have e1:IntKind.i64.wrap (-(a:Int))=-(a:Int):=IntWalk.i64_in _ (by omega)
  have e2:IntKind.i64.wrap (-(b:Int))=-(b:Int):=IntWalk.i64_in _ (by omega)
  have e3:IntKind.i64.wrap (a:Int)=(a:Int):=IntWalk.i64_in _ (by omega)
  have e4:IntKind.i64.wrap (b:Int)=(b:Int):=IntWalk.i64_in _ (by omega)
  have e5:IntKind.i64.wrap ((m:Int) - (b:Int))=(m:Int) - (b:Int):=IntWalk.i64_in _ (by omega)
  rw [ha,hb] at hres
  clear ha hb
  by_cases c1:m - b≤b
  ·rw [if_pos c1] at hres
   subst hres
   have t1:(m:Int)+-(b:Int)≤(b:Int):=by omega
   have t2:(m:Int) - (b:Int)≤(b:Int):=by omega
   have t3:¬ (0:Int) < -(b:Int):=by omega
   have t4:-(b:Int) < 0:=by omega
   have t5:0 < b:=by omega
   go_enter Tryz.func107,Tryz.ntmps107
   go_wp2_with fail
   go_quiet (fail)
   go_wp2_with fail
   go_ret
   exact ⟨by show Ending.returned (.int .i64 _)=_;go_num,below_drewN (Below.refl _ _) _⟩
  ·rw [if_neg c1,Nat.add_zero] at hres
   subst hres
   by_cases c2:b=0
   ·subst c2
    have t1:¬ (m:Int)≤0:=by omega
    have t2:¬ m≤0:=by omega
    simp only [Int.natCast_zero,Int.neg_zero,Int.sub_zero,Int.ofNat_zero] at d2 d4 d6 e2 e4 e5
    go_enter Tryz.func107,Tryz.ntmps107
    go_wp2_with fail
    go_quiet (fail)
    go_wp2_with fail
    go_ret
    exact ⟨rfl,below_drewN (Below.refl _ _) _⟩
   ·have t1:¬ (m:Int)+-(b:Int)≤(b:Int):=by omega
    have t2:¬ (m:Int) - (b:Int)≤(b:Int):=by omega
    have t3:¬ (0:Int) < -(b:Int):=by omega
    have t4:-(b:Int) < 0:=by omega
    have t5:0 < b:=by omega
    go_enter Tryz.func107,Tryz.ntmps107
    go_wp2_with fail
    go_quiet (fail)
    go_wp2_with fail
    go_ret
    exact ⟨rfl,below_drewN (Below.refl _ _) _⟩
 ·rw [if_neg b1] at hres
  obtain ⟨k,rfl⟩:∃ k:Nat,s=(k:Int):=⟨s.natAbs,by omega⟩
  rw [show ((k:Int)).natAbs=k by omega] at hres
  obtain ⟨a,ha⟩:∃ a,k / m=a:=⟨_,rfl⟩
  obtain ⟨b,hb⟩:∃ b,k % m=b:=⟨_,rfl⟩
  have ha2:a≤k:=by rw [← ha];exact Nat.div_le_self _ _
  have hb2:b < m:=by rw [← hb];exact Nat.mod_lt _ (by omega)
  have d3:(k:Int).tdiv (m:Int)=(a:Int):=by rw [Int.tdiv_eq_ediv_of_nonneg (by omega),← ha];simp
  have d4:(k:Int).tmod (m:Int)=(b:Int):=by rw [Int.tmod_eq_emod_of_nonneg (by omega),← hb];simp
  have d5:(k:Int) / (m:Int)=(a:Int):=by rw [← ha];simp
  have d6:(k:Int) % (m:Int)=(b:Int):=by rw [← hb];simp
  have e3:IntKind.i64.wrap (a:Int)=(a:Int):=IntWalk.i64_in _ (by omega)
  have e4:IntKind.i64.wrap (b:Int)=(b:Int):=IntWalk.i64_in _ (by omega)
  have e5:IntKind.i64.wrap ((m:Int) - (b:Int))=(m:Int) - (b:Int):=IntWalk.i64_in _ (by omega)
  rw [ha,hb] at hres
  clear ha hb
  by_cases c1:m - b≤b
  ·rw [if_pos c1] at hres
   subst hres
   have t2:(m:Int) - (b:Int)≤(b:Int):=by omega
   have t5:0 < b:=by omega
   go_enter Tryz.func107,Tryz.ntmps107
   go_wp2_with fail
   go_quiet (fail)
   go_wp2_with fail
   go_ret
   exact ⟨by show Ending.returned (.int .i64 _)=_;go_num,below_drewN (Below.refl _ _) _⟩
  ·rw [if_neg c1,Nat.add_zero] at hres
   subst hres
   by_cases c2:b=0
   ·subst c2
    have t1:¬ (m:Int)≤0:=by omega
    have t2:¬ m≤0:=by omega
    simp only [Int.natCast_zero,Int.neg_zero,Int.sub_zero,Int.ofNat_zero] at d4 d6 e4 e5
    go_enter Tryz.func107,Tryz.ntmps107
    go_wp2_with fail
    go_quiet (fail)
    go_wp2_with fail
    go_ret
    exact ⟨rfl,below_drewN (Below.refl _ _) _⟩
   ·have t2:¬ (m:Int) - (b:Int)≤(b:Int):=by omega
    have t5:0 < b:=by omega
    have t6:¬ (b:Int) < 0:=by omega
    go_enter Tryz.func107,Tryz.ntmps107
    go_wp2_with fail
    go_quiet (fail)
    go_wp2_with fail
    go_ret
    exact ⟨rfl,below_drewN (Below.refl _ _) _⟩
end Go.Proofs.YtlbkekabmpienaaGreat
namespace Go.Proofs.YtlbkekabmpienaaGreat
set_option linter.unusedVariables false
set_option linter.unusedSimpArgs false
open Go.RowKit Go.ChangeShapes Go.WideShapes Fx
set_option maxRecDepth 100000
set_option maxHeartbeats 4000000
theorem rpadMay_any (t:Tensor) (A:Option Addr) (n cap:Nat) (p:Int) (w:World) (ht:TensorIn t) (ha:Sl (tInt .i8) w (blo w.heap.size) A n cap t.data) (c1:t.ok=true) :
  Calls Tryz.prog 29 #[.agg #[.int .i64 t.h,.int .i64 t.v,.int .i64 t.c,.slice A n cap],.int .i64 p] w fun e w'=>e=.returned (.int .i64 (if p < 0 ∨ 4 < p then 2 else 0))∧Below w.heap.size w w':=by
 have c1':decide (0 < elems t.h t.v t.c∧elems t.h t.v t.c=n)=true:=by rw [← ha.n_eq];simpa [Tensor.ok] using c1
 have RI:=zH (fun w=>rtensorRight_any t.h t.v t.c A n cap w ht.h ht.v ht.c (Nat.le_trans ha.cap_le ha.max_le))
 rw [c1'] at RI
 have FR:=zH (Far.refl w)
 obtain ⟨w1,hw_w1,BA,k_w1⟩:=nB w #[.int .i64 t.h,.int .i64 t.v,.int .i64 t.c,.slice A n cap] 32
 replace FR:=zH (FR.out.fut k_w1)
 clear k_w1
 clear ht ha c1 c1'
 by_cases a1:p < 0
 ·rw [if_pos (.inl a1)]
  go_enter Tryz.func29,Tryz.ntmps29
  go_wp2_with (first|(refine lB 32 (.tmp 2) w.heap.size BA.out Tryz.underlying32 ?_)|(go_at_call 15;refine (RI.out _).mono ?_;rintro e w4 ⟨rfl,hb⟩;replace FR:=zH (FR.out.fut hb);clear hb hw_w1))
  go_ret
  exact ⟨rfl,FR.out.out⟩
 ·by_cases a2:4 < p
  ·rw [if_pos (.inr a2)]
   go_enter Tryz.func29,Tryz.ntmps29
   go_wp2_with (first|(refine lB 32 (.tmp 2) w.heap.size BA.out Tryz.underlying32 ?_)|(go_at_call 15;refine (RI.out _).mono ?_;rintro e w4 ⟨rfl,hb⟩;replace FR:=zH (FR.out.fut hb);clear hb hw_w1))
   go_ret
   exact ⟨rfl,FR.out.out⟩
  ·rw [if_neg (by omega)]
   go_enter Tryz.func29,Tryz.ntmps29
   go_wp2_with (first|(refine lB 32 (.tmp 2) w.heap.size BA.out Tryz.underlying32 ?_)|(go_at_call 15;refine (RI.out _).mono ?_;rintro e w4 ⟨rfl,hb⟩;replace FR:=zH (FR.out.fut hb);clear hb hw_w1))
   go_ret
   exact ⟨rfl,FR.out.out⟩
theorem pixel_any (H V C:Nat) (A:Option Addr) (n cap:Nat) (l:List Int) (y x:Int) (c:Nat) (z:Int) (w:World) (ha:Sl (tInt .i8) w (blo w.heap.size) A n cap l) (hn:n=H*V*C) (hn2:n≤1024) (hH:H≤16) (hV:V≤16) (hC:C≤1024) (hc:c < C) :
  Calls Tryz.prog 111 #[.agg #[.int .i64 H,.int .i64 V,.int .i64 C,.slice A n cap],.int .i64 y,.int .i64 x,.int .i64 c,.int .i8 z] w fun e w'=>e=.returned (.int .i8 (if inside H V y x then l.getD (placeV V C y x c) 0 else z))∧Below w.heap.size w w':=by
 have HA:=zH ha
 have HN:=zH hn
 have FR:=zH (Far.refl w)
 obtain ⟨w1,hw_w1,BA,k_w1⟩:=nB w #[.int .i64 H,.int .i64 V,.int .i64 C,.slice A n cap] 32
 replace FR:=zH (FR.out.fut k_w1)
 clear k_w1
 have d0:=BA.out.cell 0
 have d1:=BA.out.cell 1
 clear ha hn
 by_cases a1:0≤y
 ·by_cases a2:y < (H:Int)
  ·by_cases a3:0≤x
   ·by_cases a4:x < (V:Int)
    ·rw [if_pos (show inside H V y x from ⟨a1,a2,a3,a4⟩)]
     obtain ⟨yn,rfl⟩:∃ m:Nat,y=m:=⟨y.toNat,by omega⟩
     obtain ⟨xn,rfl⟩:∃ m:Nat,x=m:=⟨x.toNat,by omega⟩
     unfold placeV
     simp only [Int.toNat_natCast]
     have GE:=zH (fun wq (h:Sl (tInt .i8) wq (blo wq.heap.size) A n cap l)=>rget_any H V C A n cap l yn xn c wq h HN.out hn2 hC (by omega) (by omega) hc)
     have t1:¬ (H:Int)≤(yn:Int):=by omega
     have t2:¬ (V:Int)≤(xn:Int):=by omega
     have t3:¬ H≤yn:=by omega
     have t4:¬ V≤xn:=by omega
     go_enter Tryz.func111,Tryz.ntmps111
     go_wp2_with (first|(refine lB 32 (.tmp 5) w.heap.size BA.out Tryz.underlying32 ?_)|(go_at_call 106;refine (GE.out _ ((Old.now HA.out).fut FR.out.out).all).mono ?_;rintro e w4 ⟨rfl,hb⟩;replace FR:=zH (FR.out.fut hb);clear hb))
     go_ret
     exact ⟨rfl,FR.out.out⟩
    ·have ni:¬ inside H V y x:=fun h=>a4 h.2.2.2
     rw [if_neg ni]
     have t2:(V:Int)≤x:=by omega
     clear ni
     go_enter Tryz.func111,Tryz.ntmps111
     go_wp2_with fail
     go_ret
     exact ⟨rfl,FR.out.out⟩
   ·have ni:¬ inside H V y x:=fun h=>a3 h.2.2.1
    rw [if_neg ni]
    have t2:x < 0:=by omega
    clear ni
    go_enter Tryz.func111,Tryz.ntmps111
    go_wp2_with fail
    go_ret
    exact ⟨rfl,FR.out.out⟩
  ·have ni:¬ inside H V y x:=fun h=>a2 h.2.1
   rw [if_neg ni]
   have t2:(H:Int)≤y:=by omega
   clear ni
   go_enter Tryz.func111,Tryz.ntmps111
   go_wp2_with fail
   go_ret
   exact ⟨rfl,FR.out.out⟩
 ·have ni:¬ inside H V y x:=fun h=>a1 h.1
  rw [if_neg ni]
  have t2:y < 0:=by omega
  clear ni
  go_enter Tryz.func111,Tryz.ntmps111
  go_wp2_with fail
  go_ret
  exact ⟨rfl,FR.out.out⟩
end Go.Proofs.YtlbkekabmpienaaGreat
