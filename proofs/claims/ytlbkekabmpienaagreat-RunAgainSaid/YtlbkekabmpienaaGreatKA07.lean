/-
  resized_any, around_any, told with cells that may be written (for the law RunAgain).
-/
import Derived.Test.YtlbkekabmpienaaGreatJ34
import Derived.Test.YtlbkekabmpienaaGreatKA00
import Derived.Test.YtlbkekabmpienaaGreatKA06
import Derived.Test.YtlbkekabmpienaaGreatJ00
import Derived.Test.YtlbkekabmpienaaGreatJ29
import Derived.Test.YtlbkekabmpienaaGreatJ01
import Derived.Test.YtlbkekabmpienaaGreatJ33
import Derived.Test.YtlbkekabmpienaaGreatJ27
import Derived.Test.YtlbkekabmpienaaGreatJ24
import Derived.Test.YtlbkekabmpienaaGreatJ06
import Derived.Test.YtlbkekabmpienaaGreatJ15
import Derived.Test.YtlbkekabmpienaaGreatJ03
import Derived.Test.YtlbkekabmpienaaGreatJ18
import Derived.Test.YtlbkekabmpienaaGreatJ17
import Derived.Test.YtlbkekabmpienaaGreatJ22
import Derived.Test.YtlbkekabmpienaaGreatJ23
import Derived.Test.YtlbkekabmpienaaGreatJ19
import Derived.Test.YtlbkekabmpienaaGreatJ02
import Derived.Test.YtlbkekabmpienaaGreatJ26
import Derived.Test.YtlbkekabmpienaaGreatJ14
import Derived.Test.YtlbkekabmpienaaGreatJ11
import Derived.Test.YtlbkekabmpienaaGreatJ07
import Derived.Test.YtlbkekabmpienaaGreatJ08
import Derived.Test.YtlbkekabmpienaaGreatJ09
import Derived.Test.YtlbkekabmpienaaGreatJ16
import Derived.Test.YtlbkekabmpienaaGreatJ05
import Derived.Test.YtlbkekabmpienaaGreatJ13
import Derived.Test.YtlbkekabmpienaaGreatJ04
import Derived.Test.YtlbkekabmpienaaGreatJ12
import Derived.Test.YtlbkekabmpienaaGreatJ10
namespace Go.Proofs.YtlbkekabmpienaaGreat
set_option linter.unusedVariables false
set_option linter.unusedSimpArgs false
open Go.RowKit Go.ChangeShapes Go.WideShapes Fx
set_option maxRecDepth 100000
set_option maxHeartbeats 8000000
theorem resized_anyW (t:Tensor) (H V C p:Nat) (A:Option Addr) (n cap:Nat) (z:Int) (w:World) (ha:Sl (tInt .i8) w (blo w.heap.size) A n cap t.data) (TK:TOk t n H V C) (hp:p≤4) (hz:InK .i8 z) :
  Calls Tryz.prog 61 #[.agg #[.int .i64 H,.int .i64 V,.int .i64 C,.slice A n cap],.int .i64 p,.int .i8 z] w (RetW .i8 (padQ t p z).1 (padQ t p z).2 w):=by
 have HA:=zH ha
 have k1:=TK.h1
 have k2:=TK.v1
 have k3:=TK.c1
 unfold padQ
 rw [TK.h,TK.v,TK.c]
 simp only [Int.toNat_natCast]
 obtain ⟨Ho,hHo⟩:∃ m,H+2*p=m:=⟨_,rfl⟩
 obtain ⟨Wo,hWo⟩:∃ m,V+2*p=m:=⟨_,rfl⟩
 have i1:(H:Int)+2*(p:Int)=(Ho:Int):=by omega
 have i2:(V:Int)+2*(p:Int)=(Wo:Int):=by omega
 rw [i1,i2,hWo]
 have SR:=zH (fun w=>shapeRight_any (Ho:Int) (C:Int) (Wo:Int) w (by rw [inK_i64];omega) (by rw [inK_i64];omega) (by rw [inK_i64];omega))
 have FR:=zH (Far.refl w)
 obtain ⟨w1,hw_w1,BT,k_w1⟩:=nB w #[.int .i64 H,.int .i64 V,.int .i64 C,.slice A n cap] 32
 replace FR:=zH (FR.out.fut k_w1)
 clear k_w1
 obtain ⟨w2,hw_w2,BP,k_w2⟩:=nB w1 #[.int .i64 p] 3
 replace FR:=zH (FR.out.fut k_w2)
 replace BT:=zH (BT.out.fut k_w2)
 clear k_w2
 obtain ⟨w3,hw_w3,BR,k_w3⟩:=nB w2 #[.int .i64 0,.int .i64 0,.int .i64 0,.slice none 0 0] 32
 replace FR:=zH (FR.out.fut k_w3)
 replace BT:=zH (BT.out.fut k_w3)
 replace BP:=zH (BP.out.fut k_w3)
 clear k_w3
 have t0:w3.cell? ⟨w.heap.size,0,none⟩=some (.int .i64 H):=BT.out.cell 0
 have t1:w3.cell? ⟨w.heap.size,1,none⟩=some (.int .i64 V):=BT.out.cell 1
 have t2:w3.cell? ⟨w.heap.size,2,none⟩=some (.int .i64 C):=BT.out.cell 2
 have p0:w3.cell? ⟨w1.heap.size,0,none⟩=some (.int .i64 p):=BP.out.cell 0
 obtain ⟨w4,hw_w4,BS,k_w4⟩:=nB w3 #[.int .i64 Ho,.int .i64 Wo,.int .i64 C] 30
 replace FR:=zH (FR.out.fut k_w4)
 replace BT:=zH (BT.out.fut k_w4)
 replace BP:=zH (BP.out.fut k_w4)
 replace BR:=zH (BR.out.fut k_w4)
 clear k_w4
 have l1:w.heap.size < w1.heap.size:=by rw [← hw_w1];simp
 have l2:w1.heap.size < w2.heap.size:=by rw [← hw_w2];simp
 have l3:w2.heap.size < w3.heap.size:=by rw [← hw_w3];simp
 have l4:w3.heap.size < w4.heap.size:=by rw [← hw_w4];simp
 have g1:IntKind.i64.wrap (2*(p:Int))=2*(p:Int):=IntWalk.i64_in _ (by omega)
 have g2:IntKind.i64.wrap ((H:Int)+2*(p:Int))=(Ho:Int):=by rw [i1];exact IntWalk.i64_in _ (by omega)
 have g3:IntKind.i64.wrap ((V:Int)+2*(p:Int))=(Wo:Int):=by rw [i2];exact IntWalk.i64_in _ (by omega)
 by_cases e0:elems (Ho:Int) (Wo:Int) (C:Int)=0
 ·rw [if_pos e0]
  rw [show decide (0 < elems (Ho:Int) (Wo:Int) (C:Int))=false by rw [e0];decide] at SR
  clear e0 ha TK hz i1 i2 hHo hWo
  go_enter Tryz.func61,Tryz.ntmps61
  go_wp2_with (first|(refine lB 30 (.tmp 8) w3.heap.size BS.out Tryz.underlying30 ?_)|(go_at_call 102;refine (SR.out _).mono ?_;rintro e w5 ⟨rfl,hb⟩;have l5:=hb.size;replace FR:=zH (FR.out.fut hb);replace BT:=zH (BT.out.fut hb);replace BP:=zH (BP.out.fut hb);replace BR:=zH (BR.out.fut hb);replace BS:=zH (BS.out.fut hb);clear hb t0 t1 t2 p0 hw_w1 hw_w2 hw_w3 hw_w4)|(refine sB 32 (.tmp 6) (.tmp 28) w2.heap.size #[.int .i64 0,.int .i64 0,.int .i64 0,.slice none 0 0] BR.out ?_;intro w9 B9 g9))
  refine ret_cell_tmp rfl B9 rfl Tryz.underlying32 (by kernel_rfl) rfl ?_
  exact RetW.none (FR.out.away g9 (by omega)).out
 ·rw [if_neg e0]
  obtain ⟨H',V',C',q1,q2,q3,b1,b2,b3,q4,q5⟩:=elems_nat e0
  obtain rfl:Ho=H':=by omega
  obtain rfl:Wo=V':=by omega
  obtain rfl:C=C':=by omega
  obtain ⟨N,hN⟩:∃ N,Ho*Wo*C=N:=⟨_,rfl⟩
  rw [hN] at q4 q5
  have hN0:0 < N:=by
   rcases Nat.eq_zero_or_pos N with e|e
   ·rw [e] at q4;exact absurd q4 e0
   ·exact e
  rw [show decide (0 < elems (Ho:Int) (Wo:Int) (C:Int))=true by rw [q4];simp;omega] at SR
  have MD:=zH (fun wq (h:Sl (tInt .i8) wq (blo wq.heap.size) A n cap t.data) (a:Addr) hpa hab=>padMade_anyW H V C Ho Wo p (Ho*Wo) A n cap t.data z N a wq h TK.n_eq TK.n_le k1 k2 k3 (tok_elems TK) b1 b2 hp hz rfl hN q5 q4 hpa hab)
  rw [q4,Int.toNat_natCast]
  clear e0 ha TK hz q1 q2 q3 q4 hN i1 i2 hHo hWo
  go_enter Tryz.func61,Tryz.ntmps61
  go_wp2_with (first|(refine lB 30 (.tmp 8) w3.heap.size BS.out Tryz.underlying30 ?_)|(go_at_call 102;refine (SR.out _).mono ?_;rintro e w5 ⟨rfl,hb⟩;have l5:=hb.size;replace FR:=zH (FR.out.fut hb);replace BT:=zH (BT.out.fut hb);replace BP:=zH (BP.out.fut hb);replace BR:=zH (BR.out.fut hb);replace BS:=zH (BS.out.fut hb);clear hb t0 t1 t2 p0 hw_w1 hw_w2 hw_w3 hw_w4)|(refine lB 32 (.tmp 3) w.heap.size BT.out Tryz.underlying32 ?_))
  refine (MD.out _ ((Old.now HA.out).fut FR.out.out).all ⟨w1.heap.size,0,none⟩ (BP.out.cell 0) BP.out.lt).mono ?_
  rintro e wm ⟨RA,rc,rfl,rs,hb,un⟩
  have UN:=zH un
  clear un
  have RS:=zH (show New w5 (tInt .i8) wm RA N rc _ from ⟨rs⟩)
  have lbr:=BR.out.lt
  have lfr:=FR.out.size
  replace BR:=zH (BR.out.fut hb)
  replace FR:=zH (FR.out.fut hb)
  clear hb rs
  go_wp2_with (refine sB 32 (.tmp 6) (.tmp 33) w2.heap.size #[.int .i64 Ho,.int .i64 Wo,.int .i64 C,.slice RA N rc] BR.out ?_;intro w9 B9 g9)
  refine ret_cell_tmp rfl B9 rfl Tryz.underlying32 (by kernel_rfl) rfl ?_
  exact ⟨RA,N,rc,rfl,(RS.out.away g9 lbr).out.more (bin_more lfr (Nat.le_refl _)),(FR.out.away g9 (by omega)).out,un_away RS.out UN.out g9 lbr⟩
theorem around_anyW (t:Tensor) (p:Int) (A:Option Addr) (n cap:Nat) (z:Int) (w:World) (ht:TensorIn t) (ha:Sl (tInt .i8) w (blo w.heap.size) A n cap t.data) (c1:t.ok=true) (hz:InK .i8 z) :
  Calls Tryz.prog 22 #[.agg #[.int .i64 t.h,.int .i64 t.v,.int .i64 t.c,.slice A n cap],.int .i64 p,.int .i8 z] w (RetW .i8 (padO t p z).1 (padO t p z).2 w):=by
 have HA:=zH ha
 have MA:=zH (fun w (h:Sl (tInt .i8) w (blo w.heap.size) A n cap t.data)=>padMay_any t A n cap p w ht h c1)
 have FR:=zH (Far.refl w)
 obtain ⟨w1,hw_w1,BT,k_w1⟩:=nB w #[.int .i64 t.h,.int .i64 t.v,.int .i64 t.c,.slice A n cap] 32
 replace FR:=zH (FR.out.fut k_w1)
 clear k_w1
 obtain ⟨w2,hw_w2,BR,k_w2⟩:=nB w1 #[.int .i64 0,.int .i64 0,.int .i64 0,.slice none 0 0] 32
 replace FR:=zH (FR.out.fut k_w2)
 replace BT:=zH (BT.out.fut k_w2)
 clear k_w2
 have l1:w.heap.size < w1.heap.size:=by rw [← hw_w1];simp
 have l2:w1.heap.size < w2.heap.size:=by rw [← hw_w2];simp
 have HA2:=zH ((Old.now HA.out).fut FR.out.out).all
 unfold padO
 by_cases h:p < 0 ∨ 4 < p
 ·rw [if_pos h]
  rw [if_pos h] at MA
  clear h ha c1 hz ht
  go_enter Tryz.func22,Tryz.ntmps22
  go_wp2_with (first|(refine lB 32 (.tmp 3) w.heap.size BT.out Tryz.underlying32 ?_)|(go_at_call 60;refine (MA.out _ HA2.out).mono ?_;rintro e w5 ⟨rfl,hb⟩;have l5:=hb.size;replace FR:=zH (FR.out.fut hb);replace BT:=zH (BT.out.fut hb);replace BR:=zH (BR.out.fut hb);clear hb hw_w1 hw_w2)|(refine sB 32 (.tmp 6) (.tmp 14) w1.heap.size #[.int .i64 0,.int .i64 0,.int .i64 0,.slice none 0 0] BR.out ?_;intro w9 B9 g9))
  refine ret_cell_tmp rfl B9 rfl Tryz.underlying32 (by kernel_rfl) rfl ?_
  exact RetW.none (FR.out.away g9 (by omega)).out
 ·rw [if_neg h]
  rw [if_neg h] at MA
  obtain ⟨H,V,C,TK⟩:=tok_of c1
  have en:t.data.length=n:=ha.n_eq
  rw [en] at TK
  have hpn:(p.toNat:Int)=p:=by omega
  have RZ:=zH (fun w h'=>resized_anyW t H V C p.toNat A n cap z w h' TK (by omega) hz)
  rw [← TK.h,← TK.v,← TK.c,hpn] at RZ
  obtain ⟨Q,hQ⟩:∃ q,padQ t p.toNat z=q:=⟨_,rfl⟩
  rw [hQ] at RZ ⊢
  clear h ha c1 hz ht TK hpn hQ
  go_enter Tryz.func22,Tryz.ntmps22
  go_wp2_with (first|(refine lB 32 (.tmp 3) w.heap.size BT.out Tryz.underlying32 ?_)|(go_at_call 60;refine (MA.out _ HA2.out).mono ?_;rintro e w5 ⟨rfl,hb⟩;have l5:=hb.size;replace FR:=zH (FR.out.fut hb);replace BT:=zH (BT.out.fut hb);replace BR:=zH (BR.out.fut hb);clear hb hw_w1 hw_w2))
  refine (RZ.out _ ((Old.now HA.out).fut FR.out.out).all).mono ?_
  rintro e wm ⟨RA,rn,rc,rfl,rs,hb,un⟩
  have UN:=zH un
  clear un
  have RS:=zH (show New w5 (tInt .i8) wm RA rn rc _ from ⟨rs⟩)
  have lbr:=BR.out.lt
  have lfr:=FR.out.size
  replace BR:=zH (BR.out.fut hb)
  replace FR:=zH (FR.out.fut hb)
  clear hb rs
  go_wp2_with (refine sB 32 (.tmp 6) (.tmp 20) w1.heap.size #[.int .i64 Q.1.h,.int .i64 Q.1.v,.int .i64 Q.1.c,.slice RA rn rc] BR.out ?_;intro w9 B9 g9)
  refine ret_cell_tmp rfl B9 rfl Tryz.underlying32 (by kernel_rfl) rfl ?_
  exact ⟨RA,rn,rc,rfl,(RS.out.away g9 lbr).out.more (bin_more lfr (Nat.le_refl _)),(FR.out.away g9 (by omega)).out,un_away RS.out UN.out g9 lbr⟩
end Go.Proofs.YtlbkekabmpienaaGreat
