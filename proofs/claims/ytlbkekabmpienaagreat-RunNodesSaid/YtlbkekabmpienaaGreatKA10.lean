/-
  Sums by kind (layer 26): the document's Sum.
  Room around a tensor (layer 9): the document's Move, by the same number of rows and columns.
  Room around a tensor (layer 9): the document's Resize, of a tensor that is right.
-/
import Derived.Test.YtlbkekabmpienaaGreatJ28
import Derived.Test.YtlbkekabmpienaaGreatKA07
import Derived.Test.YtlbkekabmpienaaGreatJ00
import Derived.Test.YtlbkekabmpienaaGreatKA06
import Derived.Test.YtlbkekabmpienaaGreatJ08
import Derived.Test.YtlbkekabmpienaaGreatJ01
import Derived.Test.YtlbkekabmpienaaGreatJ07
import Derived.Test.YtlbkekabmpienaaGreatJ05
import Derived.Test.YtlbkekabmpienaaGreatKA00
import Derived.Test.YtlbkekabmpienaaGreatJ06
import Derived.Test.YtlbkekabmpienaaGreatJ03
import Derived.Test.YtlbkekabmpienaaGreatJ04
import Derived.Test.YtlbkekabmpienaaGreatJ02
namespace Go.Proofs.YtlbkekabmpienaaGreat
set_option linter.unusedVariables false
set_option linter.unusedSimpArgs false
open Go.RowKit Go.ChangeShapes Go.WideShapes
set_option maxRecDepth 100000
set_option maxHeartbeats 4000000
theorem rrunSum_any (t:Tensor) (A:Option Addr) (n cap:Nat) (d:Node) (W:Option Addr) (nw cw:Nat) (B:Option Addr) (nb cb:Nat) (w:World) (ht:TensorIn t) (hd:NodeIn d)
  (ha:Sl (tInt .i8) w (blo w.heap.size) A n cap t.data) (hw:Sl (tInt .i8) w (blo w.heap.size) W nw cw d.w) (hb:Sl (tInt .i32) w (blo w.heap.size) B nb cb d.bias) (mw:nw≤2000∧nb≤200) :
  Calls Tryz.prog 11 #[.agg #[.int .i64 d.kind,.int .i64 d.a,.int .i64 d.b,.int .i64 d.k,.int .i64 d.s,.int .i64 d.p,.int .i64 d.out,.int .i8 d.za,.int .i8 d.zb,.slice W nw cw,.slice B nb cb,.int .i32 d.qm,.int .i64 d.qs,.int .i8 d.qz,.int .i32 d.rm,.int .i64 d.rs,.int .i8 d.rz,.int .i8 d.lo,.int .i8 d.hi],.agg #[.int .i64 t.h,.int .i64 t.v,.int .i64 t.c,.slice A n cap]] w (RetT .i32 (sumOf t d).1 (sumOf t d).2 w):=by
 have HA:=zH ha
 have HW:=zH hw
 have HB:=zH hb
 have S1:=zH (fun w (ha:Sl (tInt .i8) w (blo w.heap.size) A n cap t.data) (hw:Sl (tInt .i8) w (blo w.heap.size) W nw cw d.w) (hb:Sl (tInt .i32) w (blo w.heap.size) B nb cb d.bias)=>rconvOf_any t A n cap d W nw cw B nb cb w ht hd ha hw hb mw)
 have S2:=zH (fun w (ha:Sl (tInt .i8) w (blo w.heap.size) A n cap t.data) (hw:Sl (tInt .i8) w (blo w.heap.size) W nw cw d.w) (hb:Sl (tInt .i32) w (blo w.heap.size) B nb cb d.bias)=>rdepthOf_any t A n cap d W nw cw B nb cb w ht hd ha hw hb mw)
 have S3:=zH (fun w (ha:Sl (tInt .i8) w (blo w.heap.size) A n cap t.data) (hw:Sl (tInt .i8) w (blo w.heap.size) W nw cw d.w) (hb:Sl (tInt .i32) w (blo w.heap.size) B nb cb d.bias)=>rdenseOf_any t A n cap d W nw cw B nb cb w ht hd ha hw hb)
 have FR:=zH (Far.refl w)
 obtain ⟨w1,hw_w1,BN,k_w1⟩:=nB w #[.int .i64 d.kind,.int .i64 d.a,.int .i64 d.b,.int .i64 d.k,.int .i64 d.s,.int .i64 d.p,.int .i64 d.out,.int .i8 d.za,.int .i8 d.zb,.slice W nw cw,.slice B nb cb,.int .i32 d.qm,.int .i64 d.qs,.int .i8 d.qz,.int .i32 d.rm,.int .i64 d.rs,.int .i8 d.rz,.int .i8 d.lo,.int .i8 d.hi] 28
 replace FR:=zH (FR.out.fut k_w1)
 clear k_w1
 obtain ⟨w2,hw_w2,BA,k_w2⟩:=nB w1 #[.int .i64 t.h,.int .i64 t.v,.int .i64 t.c,.slice A n cap] 32
 replace FR:=zH (FR.out.fut k_w2)
 replace BN:=zH (BN.out.fut k_w2)
 clear k_w2
 obtain ⟨w3,hw_w3,BR,k_w3⟩:=nB w2 #[.int .i64 0,.int .i64 0,.int .i64 0,.slice none 0 0] 41
 replace FR:=zH (FR.out.fut k_w3)
 replace BN:=zH (BN.out.fut k_w3)
 replace BA:=zH (BA.out.fut k_w3)
 clear k_w3
 have l1:w.heap.size < w1.heap.size:=by rw [← hw_w1];simp
 have l2:w1.heap.size < w2.heap.size:=by rw [← hw_w2];simp
 have c0:=BN.out.cell 0
 simp only [gX] at c0
 have SO:=zH (show sumOf t d=if d.kind=1 then convOf t d else if d.kind=2 then depthOf t d else if d.kind=3 then denseOf t d else (noTensor,6) from rfl)
 obtain ⟨x,hx⟩:∃ x,sumOf t d=x:=⟨_,rfl⟩
 rw [hx] at SO ⊢
 have HM:=zH mw
 clear ht hd ha hw hb hx mw
 by_cases k1:d.kind=1
 ·rw [if_pos k1] at SO
  rw [SO.out]
  have c0':w3.cell? ⟨w.heap.size,0,none⟩=some (.int .i64 1):=by rw [← k1];exact c0
  replace c0:=c0'
  clear c0' k1  SO
  obtain ⟨y,hy⟩:∃ y,convOf t d=y:=⟨_,rfl⟩
  rw [hy] at S1 ⊢
  clear hy
  go_enter Tryz.func11,Tryz.ntmps11
  go_wp2_with (first|(refine lB 32 (.tmp 3) w1.heap.size BA.out Tryz.underlying32 ?_)|(refine lB 28 (.tmp 2) w.heap.size BN.out Tryz.underlying28 ?_))
  refine (S1.out _ ((Old.now HA.out).fut FR.out.out).all ((Old.now HW.out).fut FR.out.out).all ((Old.now HB.out).fut FR.out.out).all).mono ?_
  rintro e wm ⟨RA,rn,rc,rfl,rs,hb⟩
  have RS:=zH (show New w3 (tInt .i32) wm RA rn rc y.1.data from ⟨rs⟩)
  have lbr:=BR.out.lt
  have lfr:=FR.out.size
  replace BR:=zH (BR.out.fut hb)
  replace FR:=zH (FR.out.fut hb)
  clear hb rs c0 hw_w1 hw_w2 hw_w3
  go_wp2_with (refine sB 41 (.tmp 4) (.tmp 12) w2.heap.size #[.int .i64 y.1.h,.int .i64 y.1.v,.int .i64 y.1.c,.slice RA rn rc] BR.out ?_;intro w9 B9 g9)
  refine ret_cell_tmp rfl B9 rfl Tryz.underlying41 (by kernel_rfl) rfl ?_
  exact ⟨RA,rn,rc,rfl,(RS.out.away g9 lbr).out.more (bin_more lfr (Nat.le_refl _)),(FR.out.away g9 (by omega)).out⟩
 rw [if_neg k1] at SO
 have t1:(d.kind == 1)=false:=by simpa using k1
 by_cases k2:d.kind=2
 ·rw [if_pos k2] at SO
  rw [SO.out]
  have c0':w3.cell? ⟨w.heap.size,0,none⟩=some (.int .i64 2):=by rw [← k2];exact c0
  replace c0:=c0'
  clear c0' k2 t1 SO
  obtain ⟨y,hy⟩:∃ y,depthOf t d=y:=⟨_,rfl⟩
  rw [hy] at S2 ⊢
  clear hy
  go_enter Tryz.func11,Tryz.ntmps11
  go_wp2_with (first|(refine lB 32 (.tmp 3) w1.heap.size BA.out Tryz.underlying32 ?_)|(refine lB 28 (.tmp 2) w.heap.size BN.out Tryz.underlying28 ?_))
  refine (S2.out _ ((Old.now HA.out).fut FR.out.out).all ((Old.now HW.out).fut FR.out.out).all ((Old.now HB.out).fut FR.out.out).all).mono ?_
  rintro e wm ⟨RA,rn,rc,rfl,rs,hb⟩
  have RS:=zH (show New w3 (tInt .i32) wm RA rn rc y.1.data from ⟨rs⟩)
  have lbr:=BR.out.lt
  have lfr:=FR.out.size
  replace BR:=zH (BR.out.fut hb)
  replace FR:=zH (FR.out.fut hb)
  clear hb rs c0 hw_w1 hw_w2 hw_w3
  go_wp2_with (refine sB 41 (.tmp 4) (.tmp 20) w2.heap.size #[.int .i64 y.1.h,.int .i64 y.1.v,.int .i64 y.1.c,.slice RA rn rc] BR.out ?_;intro w9 B9 g9)
  refine ret_cell_tmp rfl B9 rfl Tryz.underlying41 (by kernel_rfl) rfl ?_
  exact ⟨RA,rn,rc,rfl,(RS.out.away g9 lbr).out.more (bin_more lfr (Nat.le_refl _)),(FR.out.away g9 (by omega)).out⟩
 rw [if_neg k2] at SO
 have t2:(d.kind == 2)=false:=by simpa using k2
 by_cases k3:d.kind=3
 ·rw [if_pos k3] at SO
  rw [SO.out]
  have c0':w3.cell? ⟨w.heap.size,0,none⟩=some (.int .i64 3):=by rw [← k3];exact c0
  replace c0:=c0'
  clear c0' k3 t1 t2 SO
  obtain ⟨y,hy⟩:∃ y,denseOf t d=y:=⟨_,rfl⟩
  rw [hy] at S3 ⊢
  clear hy
  go_enter Tryz.func11,Tryz.ntmps11
  go_wp2_with (first|(refine lB 32 (.tmp 3) w1.heap.size BA.out Tryz.underlying32 ?_)|(refine lB 28 (.tmp 2) w.heap.size BN.out Tryz.underlying28 ?_))
  refine (S3.out _ ((Old.now HA.out).fut FR.out.out).all ((Old.now HW.out).fut FR.out.out).all ((Old.now HB.out).fut FR.out.out).all).mono ?_
  rintro e wm ⟨RA,rn,rc,rfl,rs,hb⟩
  have RS:=zH (show New w3 (tInt .i32) wm RA rn rc y.1.data from ⟨rs⟩)
  have lbr:=BR.out.lt
  have lfr:=FR.out.size
  replace BR:=zH (BR.out.fut hb)
  replace FR:=zH (FR.out.fut hb)
  clear hb rs c0 hw_w1 hw_w2 hw_w3
  go_wp2_with (refine sB 41 (.tmp 4) (.tmp 28) w2.heap.size #[.int .i64 y.1.h,.int .i64 y.1.v,.int .i64 y.1.c,.slice RA rn rc] BR.out ?_;intro w9 B9 g9)
  refine ret_cell_tmp rfl B9 rfl Tryz.underlying41 (by kernel_rfl) rfl ?_
  exact ⟨RA,rn,rc,rfl,(RS.out.away g9 lbr).out.more (bin_more lfr (Nat.le_refl _)),(FR.out.away g9 (by omega)).out⟩
 rw [if_neg k3] at SO
 have t3:(d.kind == 3)=false:=by simpa using k3
 rw [SO.out]
 clear k1 k2 k3
 go_enter Tryz.func11,Tryz.ntmps11
 go_wp2_with (refine sB 41 (.tmp 4) (.tmp 30) w2.heap.size #[.int .i64 0,.int .i64 0,.int .i64 0,.slice none 0 0] BR.out ?_;intro w9 B9 g9)
 refine ret_cell_tmp rfl B9 rfl Tryz.underlying41 (by kernel_rfl) rfl ?_
 exact RetT.none (FR.out.away g9 (by omega)).out
end Go.Proofs.YtlbkekabmpienaaGreat
namespace Go.Proofs.YtlbkekabmpienaaGreat
set_option linter.unusedVariables false
set_option linter.unusedSimpArgs false
open Go.RowKit Go.ChangeShapes Go.WideShapes Fx
set_option maxRecDepth 100000
set_option maxHeartbeats 8000000
theorem rmove_any (H V C Ho Wo p:Nat) (A:Option Addr) (n cap:Nat) (l:List Int) (z:Int) (N:Nat) (w:World) (ha:Sl (tInt .i8) w (blo w.heap.size) A n cap l) (hn:n=H*V*C) (hn2:n≤1024) (hH:H≤16) (hV:V≤16) (hC:1≤C∧C≤1024) (hHo:Ho≤16) (hWo:1≤Wo∧Wo≤16) (hp:p≤4) (hz:InK .i8 z) (hN:Ho*Wo*C=N) (hN2:N≤1024) :
  Calls Tryz.prog 73 #[.agg #[.int .i64 Ho,.int .i64 Wo,.int .i64 C],.agg #[.int .i64 H,.int .i64 V,.int .i64 C,.slice A n cap],.int .i64 p,.int .i64 p,.int .i8 z] w fun e w'=>∃ Q c,e=.returned (.agg #[.int .i64 Ho,.int .i64 Wo,.int .i64 C,.slice Q N c])∧Sl (tInt .i8) w' (bin w.heap.size w'.heap.size) Q N c ((List.range N).map (padF H V C l p z Wo))∧Below w.heap.size w w':=by
 have HA:=zH ha
 have HZ:=zH hz
 have NE:=zH hN
 have PX:=zH (fun (y x:Int) (c:Nat) (hc:c < C) wq (h:Sl (tInt .i8) wq (blo wq.heap.size) A n cap l)=>pixel_any H V C A n cap l y x c z wq h hn hn2 hH hV hC.2 hc)
 have FR:=zH (Far.refl w)
 obtain ⟨w1,hw_w1,BS,k_w1⟩:=nB w #[.int .i64 Ho,.int .i64 Wo,.int .i64 C] 30
 replace FR:=zH (FR.out.fut k_w1)
 clear k_w1
 obtain ⟨w2,hw_w2,BT,k_w2⟩:=nB w1 #[.int .i64 H,.int .i64 V,.int .i64 C,.slice A n cap] 32
 replace FR:=zH (FR.out.fut k_w2)
 replace BS:=zH (BS.out.fut k_w2)
 clear k_w2
 obtain ⟨w3,hw_w3,BC,k_w3⟩:=nB w2 #[.int .i64 0,.int .i64 0,.int .i64 0,.slice none 0 0] 32
 replace FR:=zH (FR.out.fut k_w3)
 replace BS:=zH (BS.out.fut k_w3)
 replace BT:=zH (BT.out.fut k_w3)
 clear k_w3
 have l1:w.heap.size < w1.heap.size:=by rw [← hw_w1];simp
 have l2:w1.heap.size < w2.heap.size:=by rw [← hw_w2];simp
 have l3:w2.heap.size < w3.heap.size:=by rw [← hw_w3];simp
 have BS3:=zH BS.out
 obtain ⟨w4,hw_w4,BG,k_w4⟩:=nB w3 #[.int .i64 0,.int .i64 0,.int .i64 0,.slice none 0 0] 32
 replace FR:=zH (FR.out.fut k_w4)
 replace BS:=zH (BS.out.fut k_w4)
 replace BT:=zH (BT.out.fut k_w4)
 replace BC:=zH (BC.out.fut k_w4)
 clear k_w4
 have l4:w4.heap.size=w3.heap.size+1:=by rw [← hw_w4];simp
 have ub1:(Ho:Int)≤16:=by omega
 have ub2:(Wo:Int)≤16:=by omega
 have ub3:(C:Int)≤1024:=by omega
 clear ha hz hn hN
 go_enter Tryz.func73,Tryz.ntmps73
 go_wp2_with (first|(refine lB 30 (.tmp 5) w.heap.size BS3.out Tryz.underlying30 ?_)|(refine sB 32 (.tmp 11) (.tmp 16) w3.heap.size #[.int .i64 Ho,.int .i64 Wo,.int .i64 C,.slice none 0 0] BG.out ?_;intro w5 B5 g5))
 clear hw_w1 hw_w2 hw_w3 hw_w4 BS3
 replace FR:=zH (FR.out.away g5 (by omega))
 replace BS:=zH (BS.out.away g5 (.inl (by omega)))
 replace BT:=zH (BT.out.away g5 (.inl (by omega)))
 replace BC:=zH (BC.out.away g5 (.inl (by omega)))
 replace BG:=zH B5
 clear B5 g5
 have ON:=zH (show Own (tInt .i8) w5 (fun _=>False) w4.heap.size 22 (.slice none 0 0) ((0*Wo+0)*C+0) ((List.range ((0*Wo+0)*C+0)).map (padF H V C l p z Wo)) by rw [Nat.zero_mul,Nat.zero_add,Nat.zero_mul];exact Own.nil _ _ _ _ _)
 go_loopw [12] (fun ii wr=>∃ h:Nat,h≤Ho∧ii=.int .i64 h∧Far w wr∧Blk wr w.heap.size 30 #[.int .i64 Ho,.int .i64 Wo,.int .i64 C]∧Blk wr w1.heap.size 32 #[.int .i64 H,.int .i64 V,.int .i64 C,.slice A n cap]∧Blk wr w2.heap.size 32 #[.int .i64 0,.int .i64 0,.int .i64 0,.slice none 0 0]∧∃ u,Blk wr w3.heap.size 32 #[.int .i64 Ho,.int .i64 Wo,.int .i64 C,u]∧Own (tInt .i8) wr (fun _=>False) w4.heap.size 22 u ((h*Wo+0)*C+0) ((List.range ((h*Wo+0)*C+0)).map (padF H V C l p z Wo))) (fun ii _=>Ho - (intOf ii).toNat)
 case atStart=>exact ⟨0,Nat.zero_le _,rfl,FR.out,BS.out,BT.out,BC.out,_,BG.out,ON.out⟩
 case round =>
  obtain ⟨h,hh,rfl,f0,f1,f2,f3,u,f4,f5⟩:=hrel
  clear FR BS BT BC BG ON
  have FR:=zH f0
  have BS:=zH f1
  have BT:=zH f2
  have BC:=zH f3
  have BG:=zH f4
  have ON:=zH f5
  clear f0 f1 f2 f3 f4 f5
  have d0:=BS.out.cell 0
  by_cases hlt:h < Ho
  ·have p1:(h:Int) < (Ho:Int):=by omega
   go_wp2_with fail
   clear d0
   go_loopw [13] (fun ii wr=>∃ x:Nat,x≤Wo∧ii=.int .i64 x∧Far w wr∧Blk wr w.heap.size 30 #[.int .i64 Ho,.int .i64 Wo,.int .i64 C]∧Blk wr w1.heap.size 32 #[.int .i64 H,.int .i64 V,.int .i64 C,.slice A n cap]∧Blk wr w2.heap.size 32 #[.int .i64 0,.int .i64 0,.int .i64 0,.slice none 0 0]∧∃ u,Blk wr w3.heap.size 32 #[.int .i64 Ho,.int .i64 Wo,.int .i64 C,u]∧Own (tInt .i8) wr (fun _=>False) w4.heap.size 22 u ((h*Wo+x)*C+0) ((List.range ((h*Wo+x)*C+0)).map (padF H V C l p z Wo))) (fun ii _=>Wo - (intOf ii).toNat)
   case atStart=>exact ⟨0,Nat.zero_le _,rfl,FR.out,BS.out,BT.out,BC.out,_,BG.out,ON.out⟩
   case round =>
    obtain ⟨x,hx,rfl,f0,f1,f2,f3,u,f4,f5⟩:=hrel
    clear FR BS BT BC BG ON
    have FR:=zH f0
    have BS:=zH f1
    have BT:=zH f2
    have BC:=zH f3
    have BG:=zH f4
    have ON:=zH f5
    clear f0 f1 f2 f3 f4 f5
    have d1:=BS.out.cell 1
    by_cases hlx:x < Wo
    ·have p2:(x:Int) < (Wo:Int):=by omega
     go_wp2_with fail
     clear d1
     go_loopw [14] (fun ii wr=>∃ o:Nat,o≤C∧ii=.int .i64 o∧Far w wr∧Blk wr w.heap.size 30 #[.int .i64 Ho,.int .i64 Wo,.int .i64 C]∧Blk wr w1.heap.size 32 #[.int .i64 H,.int .i64 V,.int .i64 C,.slice A n cap]∧Blk wr w2.heap.size 32 #[.int .i64 0,.int .i64 0,.int .i64 0,.slice none 0 0]∧∃ u,Blk wr w3.heap.size 32 #[.int .i64 Ho,.int .i64 Wo,.int .i64 C,u]∧Own (tInt .i8) wr (fun _=>False) w4.heap.size 22 u ((h*Wo+x)*C+o) ((List.range ((h*Wo+x)*C+o)).map (padF H V C l p z Wo))) (fun ii _=>C - (intOf ii).toNat)
     case atStart=>exact ⟨0,Nat.zero_le _,rfl,FR.out,BS.out,BT.out,BC.out,_,BG.out,ON.out⟩
     case round =>
      obtain ⟨o,ho,rfl,f0,f1,f2,f3,u,f4,f5⟩:=hrel
      clear FR BS BT BC BG ON
      have FR:=zH f0
      have BS:=zH f1
      have BT:=zH f2
      have BC:=zH f3
      have BG:=zH f4
      have ON:=zH f5
      clear f0 f1 f2 f3 f4 f5
      have d2:=BS.out.cell 2
      by_cases hlo:o < C
      ·have p3:(o:Int) < (C:Int):=by omega
       go_wp2_with fail
       clear d2
       have hlk:(h*Wo+x)*C+o < N:=by rw [← NE.out];exact idx_lt h x o Ho Wo C hlt hlx hlo
       have FK:=zH (show padF H V C l p z Wo ((h*Wo+x)*C+o)=pixV H V C l ((h:Int) - (p:Int)) ((x:Int) - (p:Int)) o z by
        obtain ⟨n1,n2,n3⟩:=nest_div h x Wo C o hlx hlo
        unfold padF
        rw [n1,n2,n3])
       have CALL:=zH (PX.out ((h:Int) - (p:Int)) ((x:Int) - (p:Int)) o hlo)
       obtain ⟨res,hres⟩:∃ m,pixV H V C l ((h:Int) - (p:Int)) ((x:Int) - (p:Int)) o z=m:=⟨_,rfl⟩
       have CALL:=zH (show ∀ wq (hs:Sl (tInt .i8) wq (blo wq.heap.size) A n cap l),Calls Tryz.prog 111 #[.agg #[.int .i64 H,.int .i64 V,.int .i64 C,.slice A n cap],.int .i64 ((h:Int) - (p:Int)),.int .i64 ((x:Int) - (p:Int)),.int .i64 o,.int .i8 z] wq fun e w'=>e=.returned (.int .i8 res)∧Below wq.heap.size wq w' from fun wq hs=>by rw [← hres];exact CALL.out wq hs)
       have RE:=zH (show InK .i8 res by rw [← hres];exact pixV_in (fun i=>HA.out.allK i) HZ.out)
       rw [hres] at FK
       obtain ⟨yy,hyy⟩:∃ m:Int,(h:Int) - (p:Int)=m:=⟨_,rfl⟩
       obtain ⟨xx,hxx⟩:∃ m:Int,(x:Int) - (p:Int)=m:=⟨_,rfl⟩
       rw [hyy,hxx] at CALL
       have e1:IntKind.i64.wrap ((h:Int) - (p:Int))=yy:=by rw [hyy];exact IntWalk.i64_in _ (by omega)
       have e2:IntKind.i64.wrap ((x:Int) - (p:Int))=xx:=by rw [hxx];exact IntWalk.i64_in _ (by omega)
       have fd:Below w.heap.size w wr.drew:=FR.out.out.drew
       obtain ⟨k,hk⟩:∃ m,(h*Wo+x)*C+o=m:=⟨_,rfl⟩
       have HK:=zH hk
       rw [hk] at hlk FK ON
       have OD:=zH (show Own (tInt .i8) wr.drew (fun _=>False) w4.heap.size 22 u k ((List.range k).map (padF H V C l p z Wo)) from ON.out.heap rfl)
       have nu:=zH (show ∀ b,b < w4.heap.size → some b ≠ u.ownBlock from fun b hb e=>absurd (ON.out.lt b e.symm).1 (by omega))
       have z0:w4.heap.size≤wr.drew.heap.size:=by have:=BG.out.lt;show w4.heap.size≤wr.heap.size;omega
       clear hres hk hyy hxx
       refine wp_region_T (fun w'=>w'.cell? ⟨w3.heap.size,3,none⟩=some u∧Blk w' w1.heap.size 32 #[.int .i64 H,.int .i64 V,.int .i64 C,.slice A n cap]∧Below w.heap.size w w') 14 (by kernel_rfl) ?_ (fun hS=>?_)
       ·exact ⟨BG.out.drew.cell 3,BT.out.drew,fd⟩
       refine tkT 0 rfl (v:=?_) (Or.inl ⟨by rfl,?_⟩) hS ?_
       rotate_left
       ·intro w hSw;(try dsimp only at hSw);go_simp;try with_reducible rfl
       try simp only [pX]
       refine tkT 1 rfl (v:=?_) (Or.inl ⟨by rfl,?_⟩) hS ?_
       rotate_left
       ·intro w hSw;(try dsimp only at hSw);go_simp;try with_reducible rfl
       try simp only [pX]
       refine tkT 2 rfl (yieldsIf_load_blk (by rfl) 32 (.tmp 6) rfl w1.heap.size 0 rfl _ _ #[.int .i64 H,.int .i64 V,.int .i64 C,.slice A n cap] _ (fun w hs=>hs.2.1) Tryz.underlying32 rfl (by kernel_rfl) rfl) hS ?_
       try simp only [pX]
       refine tkT 3 rfl (v:=?_) (Or.inl ⟨by rfl,?_⟩) hS ?_
       rotate_left
       ·intro w hSw;(try dsimp only at hSw);go_simp;try with_reducible rfl
       try simp only [pX]
       refine tkT 4 rfl (v:=?_) (Or.inl ⟨by rfl,?_⟩) hS ?_
       rotate_left
       ·intro w hSw;(try dsimp only at hSw);go_simp;try with_reducible rfl
       try simp only [pX]
       refine tkT 5 rfl (v:=?_) (Or.inl ⟨by rfl,?_⟩) hS ?_
       rotate_left
       ·intro w hSw;(try dsimp only at hSw);go_simp;try with_reducible rfl
       try simp only [pX]
       refine tkT 6 rfl (v:=?_) (Or.inl ⟨by rfl,?_⟩) hS ?_
       rotate_left
       ·intro w hSw;(try dsimp only at hSw);go_simp;try with_reducible rfl
       try simp only [pX]
       refine tkT 7 rfl (v:=?_) (Or.inl ⟨by rfl,?_⟩) hS ?_
       rotate_left
       ·intro w hSw;(try dsimp only at hSw);go_simp;try with_reducible rfl
       try simp only [pX]
       refine tkT 8 rfl (v:=?_) (Or.inl ⟨by rfl,?_⟩) hS ?_
       rotate_left
       ·intro w hSw;(try dsimp only at hSw);go_simp;try with_reducible rfl
       try simp only [pX]
       refine tkT 9 rfl (v:=?_) (Or.inl ⟨by rfl,?_⟩) hS ?_
       rotate_left
       ·intro w hSw;(try dsimp only at hSw);go_simp;try with_reducible rfl
       try simp only [pX]
       refine tkT 10 rfl (v:=?_) (Or.inl ⟨by rfl,?_⟩) hS ?_
       rotate_left
       ·intro w hSw;(try dsimp only at hSw);go_simp;try with_reducible rfl
       try simp only [pX]
       refine wpAnyT_one (i:=11) (by kernel_rfl) rfl rfl (fun K hK=>?_)
       go_simp
       refine (CALL.out _ ((Old.now HA.out).fut fd).all).mono ?_;rintro e wa ⟨rfl,hb⟩;have OA:=zH (OD.out.below hb (Nat.le_refl _) (fun _ h=>h.elim));have za:w4.heap.size≤wa.heap.size:=Nat.le_trans z0 hb.size;have XX:=zH (And.intro (BC.out.drew.later hb) (And.intro (BS.out.drew.later hb) (BG.out.drew.later hb)));have YY:=zH (BT.out.drew.later hb);have FA:=zH (below_call fd hb fd.size)
       refine hK.out _ _ ?_ (fun hS=>?_)
       ·exact ⟨(by first|exact cell_later hb hS.1|exact Blk.later hS.1 hb),(by first|exact cell_later hb hS.2.1|exact Blk.later hS.2.1 hb),(by first|exact below_later hb hS.2.2|exact grown_below hS.2.2 hb)⟩
       clear hK K
       try simp only [pX]
       refine wpAnyT_one (i:=12) (by kernel_rfl) rfl rfl (fun K hK=>?_)
       go_simp
       have hb:Below wa.heap.size wa (wa.alloc (.cells #[.int .i8 res] 22)):=(Below.refl _ _).alloc (Nat.le_refl _) _
       refine hK.out _ _ ?_ (fun hS=>?_)
       ·exact ⟨(by first|exact cell_later hb hS.1|exact Blk.later hS.1 hb),(by first|exact cell_later hb hS.2.1|exact Blk.later hS.2.1 hb),(by first|exact below_later hb hS.2.2|exact grown_below hS.2.2 hb)⟩
       clear hK K
       try simp only [pX]
       refine wpAnyT_one (i:=13) (by kernel_rfl) rfl rfl (fun K hK=>?_)
       (rw [if_pos (by rfl)];refine oper_push (W:=wa) (cs:=#[.int .i8 res]) (E:=22) (t:=tInt .i8) (.tmp 36) (.tmp 47) rfl ei_b8 rfl OA.out 1 rfl res ⟨rfl,RE.out⟩ (by unfold maxLen;omega) (by omega) za (fun _ h=>h.elim) ?_;intro u' w7 own7 g7 at7;have B7:=zH (XX.out.2.2.rowR g7 (nu.out _ (by omega)));refine hK.out _ _ ⟨B7.out.cell 3,YY.out.rowR g7 (nu.out _ (by omega)),FA.out.grown g7 FA.out.size (fun j hj=>Nat.le_trans (by omega) (OA.out.lt j hj).1)⟩ (fun hS=>?_))
       clear hK K
       try simp only [pX]
       refine wpAnyT_tail _ _ rfl rfl (by kernel_rfl) ?_
       have FZ:=hS.2.2
       have XC:=zH (XX.out.1.rowR g7 (nu.out _ (by omega)))
       have XD:=zH (XX.out.2.1.rowR g7 (nu.out _ (by omega)))
       have XA:=zH hS.2.1
       have NU:=zH (show u'.ownBlock=none ∨ u'.ownBlock ≠ some w3.heap.size by
        cases hu:u'.ownBlock with
        | none=>exact .inl rfl
        | some m=>right;intro e;have:=(own7.lt m hu).1;have:=Option.some.inj e;omega)
       obtain ⟨A7,c7,rfl,-⟩:=own7.sl (S':=fun _=>True) (by decide) (fun _ _ _=>trivial) (fun _ _=>trivial)
       clear hS hb nu at7
       go_wp2_with (refine wpList_store_one rfl 23 (.tmp 49) (.tmp 48) rfl w3.heap.size 3 (.slice A7 (k+1) c7) rfl rfl rfl rfl _ #[.int .i64 Ho,.int .i64 Wo,.int .i64 C,u] #[.int .i64 Ho,.int .i64 Wo,.int .i64 C,.slice A7 (k+1) c7] B7.out (by simp) (by kernel_rfl) rfl ?_;intro w8 B8 g8)
       have F8:=(show Far w w7 from ⟨FZ⟩).away g8 (by omega)
       have O8:=own7.flat g8 (by rcases NU.out with e|e;exact .inl e;exact .inr e) (fun _ h=>h)
       have e9:=range_snoc (padF H V C l p z Wo) k
       rw [FK.out] at e9
       rw [e9] at O8
       exact ⟨⟨o+1,by omega,by go_num,F8,XD.out.away g8 (.inl (by omega)),XA.out.away g8 (.inl (by omega)),XC.out.away g8 (.inl (by omega)),_,B8,by rw [show (h*Wo+x)*C+(o+1)=k+1 by rw [← HK.out];rfl];exact O8⟩,by simp [intOf];omega⟩
      ·obtain rfl:o=C:=by omega
       go_wp2_with fail
       exact ⟨⟨x+1,by omega,by go_num,FR.out,BS.out,BT.out,BC.out,_,BG.out,by rw [show (h*Wo+(x+1))*o+0=(h*Wo+x)*o+o by rw [Nat.add_zero,show h*Wo+(x+1)=(h*Wo+x)+1 from rfl,Nat.succ_mul]];exact ON.out⟩,by simp [intOf];omega⟩
    ·obtain rfl:x=Wo:=by omega
     go_wp2_with fail
     exact ⟨⟨h+1,by omega,by go_num,FR.out,BS.out,BT.out,BC.out,_,BG.out,by rw [show ((h+1)*x+0)*C+0=(h*x+x)*C+0 by rw [Nat.add_zero ((h+1)*x),Nat.succ_mul]];exact ON.out⟩,by simp [intOf];omega⟩
  ·obtain rfl:h=Ho:=by omega
   obtain ⟨A9,c9,rfl,-⟩:=ON.out.sl (S':=fun _=>True) (by decide) (fun _ _ _=>trivial) (fun _ _=>trivial)
   have en:(h*Wo+0)*C+0=N:=by rw [Nat.add_zero,Nat.add_zero];exact NE.out
   rw [en] at ON BG
   clear NE
   go_wp2_with (first|(refine lB 32 (.tmp 11) w3.heap.size BG.out Tryz.underlying32 ?_)|(refine sB 32 (.tmp 10) (.tmp 50) w2.heap.size #[.int .i64 h,.int .i64 Wo,.int .i64 C,.slice A9 N c9] BC.out ?_;intro w9 B9 g9))
   have e2:=ON.out.flat g9 (by
    cases hu:(Value.slice A9 N c9).ownBlock with
    | none=>exact .inl rfl
    | some m=>right;intro e;have:=(ON.out.lt m hu).1;have:=Option.some.inj e;omega) (fun _ h=>h)
   refine ret_cell rfl B9 rfl Tryz.underlying32 (by kernel_rfl) rfl ?_
   obtain ⟨A2,c2,hv,s⟩:=e2.sl (S':=bin w.heap.size _) (by decide) (fun b h1 h2=>⟨by omega,h2⟩) (fun b h=>h.elim)
   injection hv with hv1 hv2 hv3
   subst hv1 hv3
   exact ⟨_,_,rfl,s,(FR.out.away g9 (by omega)).out⟩
end Go.Proofs.YtlbkekabmpienaaGreat
namespace Go.Proofs.YtlbkekabmpienaaGreat
set_option linter.unusedVariables false
set_option linter.unusedSimpArgs false
open Go.RowKit Go.ChangeShapes Go.WideShapes Fx
set_option maxRecDepth 100000
set_option maxHeartbeats 4000000
theorem rresize_any (t:Tensor) (H V C p:Nat) (A:Option Addr) (n cap:Nat) (z:Int) (w:World) (ha:Sl (tInt .i8) w (blo w.heap.size) A n cap t.data) (TK:TOk t n H V C) (hp:p≤4) (hz:InK .i8 z) :
  Calls Tryz.prog 30 #[.agg #[.int .i64 H,.int .i64 V,.int .i64 C,.slice A n cap],.int .i64 p,.int .i8 z] w (RetT .i8 (padQ t p z).1 (padQ t p z).2 w):=by
 have HA:=zH ha
 have k1:=TK.h1
 have k2:=TK.v1
 have k3:=TK.c1
 unfold padQ
 rw [TK.h,TK.v,TK.c]
 simp only [Int.toNat_natCast]
 obtain ⟨Ho,hHo⟩:∃ m,H+2*p=m:=⟨_,rfl⟩
 obtain ⟨Wo,hWo⟩:∃ m,V+2*p=m:=⟨_,rfl⟩
 have i1:(H:Int)+2*(p:Int)=(Ho:Int):=by omega
 have i2:(V:Int)+2*(p:Int)=(Wo:Int):=by omega
 rw [i1,i2,hWo]
 have EL:=zH (fun w=>relems_any (Ho:Int) (C:Int) (Wo:Int) w (by rw [inK_i64];omega) (by rw [inK_i64];omega) (by rw [inK_i64];omega))
 have FR:=zH (Far.refl w)
 obtain ⟨w1,hw_w1,BT,k_w1⟩:=nB w #[.int .i64 H,.int .i64 V,.int .i64 C,.slice A n cap] 32
 replace FR:=zH (FR.out.fut k_w1)
 clear k_w1
 obtain ⟨w2,hw_w2,BR,k_w2⟩:=nB w1 #[.int .i64 0,.int .i64 0,.int .i64 0,.slice none 0 0] 32
 replace FR:=zH (FR.out.fut k_w2)
 replace BT:=zH (BT.out.fut k_w2)
 clear k_w2
 obtain ⟨w3,hw_w3,BS,k_w3⟩:=nB w2 #[.int .i64 Ho,.int .i64 Wo,.int .i64 C] 30
 replace FR:=zH (FR.out.fut k_w3)
 replace BT:=zH (BT.out.fut k_w3)
 replace BR:=zH (BR.out.fut k_w3)
 clear k_w3
 have l1:w.heap.size < w1.heap.size:=by rw [← hw_w1];simp
 have l2:w1.heap.size < w2.heap.size:=by rw [← hw_w2];simp
 have d0:w2.cell? ⟨w.heap.size,0,none⟩=some (.int .i64 H):=by rw [← hw_w2];exact ((show Blk w1 w.heap.size 32 #[.int .i64 H,.int .i64 V,.int .i64 C,.slice A n cap] by rw [← hw_w1];exact Blk.now _ _ _ _ rfl).past _).cell 0
 have d1:w2.cell? ⟨w.heap.size,1,none⟩=some (.int .i64 V):=by rw [← hw_w2];exact ((show Blk w1 w.heap.size 32 #[.int .i64 H,.int .i64 V,.int .i64 C,.slice A n cap] by rw [← hw_w1];exact Blk.now _ _ _ _ rfl).past _).cell 1
 have d2:w2.cell? ⟨w.heap.size,2,none⟩=some (.int .i64 C):=by rw [← hw_w2];exact ((show Blk w1 w.heap.size 32 #[.int .i64 H,.int .i64 V,.int .i64 C,.slice A n cap] by rw [← hw_w1];exact Blk.now _ _ _ _ rfl).past _).cell 2
 by_cases e0:elems (Ho:Int) (Wo:Int) (C:Int)=0
 ·rw [if_pos e0]
  rw [e0] at EL
  clear e0 ha TK hz
  go_enter Tryz.func30,Tryz.ntmps30
  go_wp2_with (first|(refine lB 30 (.tmp 8) w2.heap.size BS.out Tryz.underlying30 ?_)|(go_at_call 45;refine (EL.out _).mono ?_;rintro e w4 ⟨rfl,hb⟩;replace FR:=zH (FR.out.fut hb);replace BT:=zH (BT.out.fut hb);replace BR:=zH (BR.out.fut hb);replace BS:=zH (BS.out.fut hb);clear hb hw_w1 hw_w2 hw_w3 d0 d1 d2)|(refine sB 32 (.tmp 6) (.tmp 28) w1.heap.size #[.int .i64 0,.int .i64 0,.int .i64 0,.slice none 0 0] BR.out ?_;intro w9 B9 g9))
  refine ret_cell_tmp rfl B9 rfl Tryz.underlying32 (by kernel_rfl) rfl ?_
  exact RetT.none (FR.out.away g9 (by omega)).out
 ·rw [if_neg e0]
  obtain ⟨H',V',C',q1,q2,q3,b1,b2,b3,q4,q5⟩:=elems_nat e0
  obtain rfl:Ho=H':=by omega
  obtain rfl:Wo=V':=by omega
  obtain rfl:C=C':=by omega
  obtain ⟨N,hN⟩:∃ N,Ho*Wo*C=N:=⟨_,rfl⟩
  rw [hN] at q4 q5
  rw [q4] at EL ⊢
  rw [Int.toNat_natCast]
  have hN0:¬ N=0:=by intro e;rw [e] at q4;exact e0 q4
  have hN1:((N:Int) == 0)=false:=by simp;omega
  have MV:=zH (fun wq (h:Sl (tInt .i8) wq (blo wq.heap.size) A n cap t.data)=>rmove_any H V C Ho Wo p A n cap t.data z N wq h TK.n_eq TK.n_le k1.2 k2.2 k3 b1.2 b2 hp hz hN q5)
  clear e0 ha TK hz q1 q2 q3 q4 hN
  go_enter Tryz.func30,Tryz.ntmps30
  go_wp2_with (first|(refine lB 30 (.tmp 8) w2.heap.size BS.out Tryz.underlying30 ?_)|(go_at_call 45;refine (EL.out _).mono ?_;rintro e w4 ⟨rfl,hb⟩;replace FR:=zH (FR.out.fut hb);replace BT:=zH (BT.out.fut hb);replace BR:=zH (BR.out.fut hb);replace BS:=zH (BS.out.fut hb);clear hb hw_w1 hw_w2 hw_w3 d0 d1 d2)|(refine lB 32 (.tmp 3) w.heap.size BT.out Tryz.underlying32 ?_))
  refine (MV.out _ ((Old.now HA.out).fut FR.out.out).all).mono ?_
  rintro e wm ⟨RA,rc,rfl,rs,hb⟩
  have RS:=zH (show New w4 (tInt .i8) wm RA N rc _ from ⟨rs⟩)
  have lbr:=BR.out.lt
  have lfr:=FR.out.size
  replace BR:=zH (BR.out.fut hb)
  replace FR:=zH (FR.out.fut hb)
  clear hb rs
  go_wp2_with (refine sB 32 (.tmp 6) (.tmp 34) w1.heap.size #[.int .i64 Ho,.int .i64 Wo,.int .i64 C,.slice RA N rc] BR.out ?_;intro w9 B9 g9)
  refine ret_cell_tmp rfl B9 rfl Tryz.underlying32 (by kernel_rfl) rfl ?_
  exact ⟨RA,N,rc,rfl,(RS.out.away g9 lbr).out.more (bin_more lfr (Nat.le_refl _)),(FR.out.away g9 (by omega)).out⟩
end Go.Proofs.YtlbkekabmpienaaGreat
