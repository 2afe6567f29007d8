/-
  actOf_any, told with cells that may be written (for the law RunAgain).
-/
import Derived.Test.YtlbkekabmpienaaGreatJ27
import Derived.Test.YtlbkekabmpienaaGreatKA00
import Derived.Test.YtlbkekabmpienaaGreatKA04
import Derived.Test.YtlbkekabmpienaaGreatJ00
import Derived.Test.YtlbkekabmpienaaGreatJ26
import Derived.Test.YtlbkekabmpienaaGreatJ01
import Derived.Test.YtlbkekabmpienaaGreatJ18
import Derived.Test.YtlbkekabmpienaaGreatJ06
import Derived.Test.YtlbkekabmpienaaGreatJ14
import Derived.Test.YtlbkekabmpienaaGreatJ11
import Derived.Test.YtlbkekabmpienaaGreatJ04
import Derived.Test.YtlbkekabmpienaaGreatJ13
import Derived.Test.YtlbkekabmpienaaGreatJ03
import Derived.Test.YtlbkekabmpienaaGreatJ02
import Derived.Test.YtlbkekabmpienaaGreatJ05
import Derived.Test.YtlbkekabmpienaaGreatJ10
namespace Go.Proofs.YtlbkekabmpienaaGreat
set_option linter.unusedVariables false
set_option linter.unusedSimpArgs false
open Go.RowKit Go.ChangeShapes Go.WideShapes Fx
set_option maxRecDepth 100000
set_option maxHeartbeats 8000000
theorem actOf_anyW (t:Tensor) (A:Option Addr) (n cap:Nat) (d:Node) (W:Option Addr) (nw cw:Nat) (B:Option Addr) (nb cb:Nat) (w:World) (ht:TensorIn t) (hd:NodeIn d)
  (ha:Sl (tInt .i8) w (blo w.heap.size) A n cap t.data) (c1:t.ok=true) :
  Calls Tryz.prog 21 #[.agg #[.int .i64 t.h,.int .i64 t.v,.int .i64 t.c,.slice A n cap],.agg #[.int .i64 d.kind,.int .i64 d.a,.int .i64 d.b,.int .i64 d.k,.int .i64 d.s,.int .i64 d.p,.int .i64 d.out,.int .i8 d.za,.int .i8 d.zb,.slice W nw cw,.slice B nb cb,.int .i32 d.qm,.int .i64 d.qs,.int .i8 d.qz,.int .i32 d.rm,.int .i64 d.rs,.int .i8 d.rz,.int .i8 d.lo,.int .i8 d.hi]] w (RetW .i8 (actQ t d).1 (actQ t d).2 w):=by
 have HA:=zH ha
 have HT:=zH ht
 have HD:=zH hd
 have C1:=zH c1
 obtain ⟨H,V,C,TK⟩:=tok_of c1
 have hn2:n≤1024:=by have:=TK.n_le;rw [ha.n_eq] at this;exact this
 have c1':decide (0 < elems t.h t.v t.c∧elems t.h t.v t.c=n)=true:=by rw [← HA.out.n_eq];simpa [Tensor.ok] using c1
 have RI:=zH (fun w=>tensorRight_any t.h t.v t.c A n cap w ht.h ht.v ht.c (Nat.le_trans ha.cap_le ha.max_le))
 rw [c1'] at RI
 have mx:n≤9223372036854775807:=by omega
 have HQ:=zH (show actQ t d=if quantOk d.qm d.qs=true then (⟨t.h,t.v,t.c,(List.range n).map fun i=>oneV d (t.data.getD i 0)⟩,0) else (noTensor,7) by unfold actQ;rw [ha.n_eq])
 obtain ⟨x,hx⟩:∃ x,actQ t d=x:=⟨_,rfl⟩
 rw [hx] at HQ ⊢
 have FR:=zH (Far.refl w)
 obtain ⟨w1,hw_w1,BA,k_w1⟩:=nB w #[.int .i64 t.h,.int .i64 t.v,.int .i64 t.c,.slice A n cap] 32
 replace FR:=zH (FR.out.fut k_w1)
 clear k_w1
 obtain ⟨w2,hw_w2,BN,k_w2⟩:=nB w1 #[.int .i64 d.kind,.int .i64 d.a,.int .i64 d.b,.int .i64 d.k,.int .i64 d.s,.int .i64 d.p,.int .i64 d.out,.int .i8 d.za,.int .i8 d.zb,.slice W nw cw,.slice B nb cb,.int .i32 d.qm,.int .i64 d.qs,.int .i8 d.qz,.int .i32 d.rm,.int .i64 d.rs,.int .i8 d.rz,.int .i8 d.lo,.int .i8 d.hi] 28
 replace FR:=zH (FR.out.fut k_w2)
 replace BA:=zH (BA.out.fut k_w2)
 clear k_w2
 obtain ⟨w3,hw_w3,BR,k_w3⟩:=nB w2 #[.int .i64 0,.int .i64 0,.int .i64 0,.slice none 0 0] 32
 replace FR:=zH (FR.out.fut k_w3)
 replace BA:=zH (BA.out.fut k_w3)
 replace BN:=zH (BN.out.fut k_w3)
 clear k_w3
 have l1:w.heap.size < w1.heap.size:=by rw [← hw_w1];simp
 have l2:w1.heap.size < w2.heap.size:=by rw [← hw_w2];simp
 have l3:w2.heap.size < w3.heap.size:=by rw [← hw_w3];simp
 obtain ⟨qq,hq⟩:∃ q,quantOk d.qm d.qs=q:=⟨_,rfl⟩
 rw [hq] at HQ
 have QE:=zH hq
 have TA:=zH (fun w=>actTable_any d W nw cw B nb cb w hd)
 rw [hq] at TA
 clear ht hd ha c1 c1' TK hx hq
 cases qq with
 | false =>
  rw [if_neg (by decide)] at HQ
  rw [HQ.out]
  simp only [Bool.false_eq_true,if_false,false_implies,and_true] at TA
  go_enter Tryz.func21,Tryz.ntmps21
  go_wp2_with (first|(refine lB 32 (.tmp 2) w.heap.size BA.out Tryz.underlying32 ?_)|(go_at_call 17;refine (RI.out _).mono ?_;rintro e w4 ⟨rfl,hb⟩;have l4:=hb.size;replace FR:=zH (FR.out.fut hb);replace BA:=zH (BA.out.fut hb);replace BN:=zH (BN.out.fut hb);replace BR:=zH (BR.out.fut hb);clear hb hw_w1 hw_w2 hw_w3)|(refine lB 28 (.tmp 3) w1.heap.size BN.out Tryz.underlying28 ?_))
  refine (TA.out _).mono ?_
  rintro e w5 ⟨⟨k,rfl⟩,hb⟩
  have l5:=hb.size
  replace FR:=zH (FR.out.fut hb)
  replace BA:=zH (BA.out.fut hb)
  replace BN:=zH (BN.out.fut hb)
  replace BR:=zH (BR.out.fut hb)
  clear hb
  obtain ⟨w6,hw_w6⟩:∃ x,w5.alloc (.cells Tryz.zeroCells83 83)=x:=⟨_,rfl⟩
  have hb:Below w5.heap.size w5 w6:=by rw [← hw_w6];exact (Below.refl _ _).alloc (Nat.le_refl _) _
  have BT:=zH (show Blk w6 w5.heap.size 83 (tabC (actF d) 0) by rw [← hw_w6,tabC_zero (actF d)];exact Blk.now _ _ _ _ rfl)
  replace FR:=zH (FR.out.fut hb)
  replace BA:=zH (BA.out.fut hb)
  replace BN:=zH (BN.out.fut hb)
  replace BR:=zH (BR.out.fut hb)
  clear hb
  go_wp2_with (first|(refine wpList_store_all rfl 83 (.tmp 6) (.tmp 15) rfl w5.heap.size (tabC (actF d) k) rfl rfl _ (tabC (actF d) 0) BT.out (by simp [tabC_size]) (by rw [tabC_size];kernel_rfl) (tabC_one _ _) ?_;intro w7 B7 g7;replace FR:=zH (FR.out.away g7 (by omega));replace BR:=zH (BR.out.away g7 (.inl (by omega))))|(refine sB 32 (.tmp 4) (.tmp 19) w2.heap.size #[.int .i64 0,.int .i64 0,.int .i64 0,.slice none 0 0] BR.out ?_;intro w9 B9 g9))
  refine ret_cell_tmp rfl B9 rfl Tryz.underlying32 (by kernel_rfl) rfl ?_
  exact RetW.none (FR.out.away g9 (by omega)).out
 | true =>
  rw [if_pos rfl] at HQ
  rw [HQ.out]
  simp only [if_true,true_implies] at TA
  have EQ:=zH (show ((List.range n).map fun i=>actF d (t.data.getD i 0+128).toNat)=((List.range n).map fun i=>oneV d (t.data.getD i 0)) by
   apply List.map_congr_left
   intro i _
   have:=HA.out.allK i
   rw [inK_i8] at this
   unfold actF
   congr 1
   omega)
  have BY:=zH (fun wq (h:Sl (tInt .i8) wq (blo wq.heap.size) A n cap t.data)=>actBy_anyW t A n cap (actF d) wq HT.out h C1.out (fun i=>oneV_in d _))
  rw [EQ.out] at BY
  go_enter Tryz.func21,Tryz.ntmps21
  go_wp2_with (first|(refine lB 32 (.tmp 2) w.heap.size BA.out Tryz.underlying32 ?_)|(go_at_call 17;refine (RI.out _).mono ?_;rintro e w4 ⟨rfl,hb⟩;have l4:=hb.size;replace FR:=zH (FR.out.fut hb);replace BA:=zH (BA.out.fut hb);replace BN:=zH (BN.out.fut hb);replace BR:=zH (BR.out.fut hb);clear hb hw_w1 hw_w2 hw_w3)|(refine lB 28 (.tmp 3) w1.heap.size BN.out Tryz.underlying28 ?_))
  refine (TA.out _).mono ?_
  rintro e w5 ⟨⟨k,rfl,rfl⟩,hb⟩
  have l5:=hb.size
  replace FR:=zH (FR.out.fut hb)
  replace BA:=zH (BA.out.fut hb)
  replace BN:=zH (BN.out.fut hb)
  replace BR:=zH (BR.out.fut hb)
  clear hb
  obtain ⟨w6,hw_w6⟩:∃ x,w5.alloc (.cells Tryz.zeroCells83 83)=x:=⟨_,rfl⟩
  have hb:Below w5.heap.size w5 w6:=by rw [← hw_w6];exact (Below.refl _ _).alloc (Nat.le_refl _) _
  have BT:=zH (show Blk w6 w5.heap.size 83 (tabC (actF d) 0) by rw [← hw_w6,tabC_zero (actF d)];exact Blk.now _ _ _ _ rfl)
  replace FR:=zH (FR.out.fut hb)
  replace BA:=zH (BA.out.fut hb)
  replace BN:=zH (BN.out.fut hb)
  replace BR:=zH (BR.out.fut hb)
  clear hb
  go_wp2_with (first|(refine wpList_store_all rfl 83 (.tmp 6) (.tmp 15) rfl w5.heap.size (tabC (actF d) 256) rfl rfl _ (tabC (actF d) 0) BT.out (by simp [tabC_size]) (by rw [tabC_size];kernel_rfl) (tabC_one _ _) ?_;intro w7 B7 g7;replace FR:=zH (FR.out.away g7 (by omega));replace BR:=zH (BR.out.away g7 (.inl (by omega)));replace BA:=zH (BA.out.away g7 (.inl (by omega))))|(refine lB 32 (.tmp 2) w.heap.size BA.out Tryz.underlying32 ?_)|(refine wpList_load_blk rfl 83 (.tmp 6) rfl w5.heap.size 0 rfl _ (tabC (actF d) 256) (tabC (actF d) 256) _ B7 Tryz.underlying83 rfl (by rw [tabC_size];kernel_rfl) (by rw [List.drop_zero,List.take_of_length_le (by simp)]) ?_))
  refine (BY.out _ ((Old.now HA.out).fut FR.out.out).all).mono ?_
  rintro e w8 ⟨RA,rn,rc,rfl,rs,hb,un⟩
  have UN:=zH un
  clear un
  have RS:=zH (show New w7 (tInt .i8) w8 RA rn rc _ from ⟨rs⟩)
  have lbr:=BR.out.lt
  have lfr:=FR.out.size
  replace FR:=zH (FR.out.fut hb)
  replace BR:=zH (BR.out.fut hb)
  clear hb rs
  go_wp2_with (refine sB 32 (.tmp 4) (.tmp 24) w2.heap.size #[.int .i64 t.h,.int .i64 t.v,.int .i64 t.c,.slice RA rn rc] BR.out ?_;intro w9 B9 g9)
  refine ret_cell_tmp rfl B9 rfl Tryz.underlying32 (by kernel_rfl) rfl ?_
  exact ⟨RA,rn,rc,rfl,(RS.out.away g9 lbr).out.more (bin_more lfr (Nat.le_refl _)),(FR.out.away g9 (by omega)).out,un_away RS.out UN.out g9 lbr⟩
end Go.Proofs.YtlbkekabmpienaaGreat
