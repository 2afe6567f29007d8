/-
  Walks of dense (layer 18): all sums of a tensor by a node, the program's and the document's.
  Sums by rows that are slid over (layer 16): the walk of lane.line, of which lane.Of's rows are made.
-/
import Derived.Test.YtjkmjpjknmghlaaGreatJ10
import Derived.Test.YtjkmjpjknmghlaaGreatJ15
set_option linter.unusedVariables false
set_option linter.unusedSimpArgs false
namespace Go.Proofs.YtjkmjpjknmghlaaGreat
open Go.RowKit Go.ChangeShapes Go.WideShapes
set_option maxRecDepth 100000
theorem shapeEnd_bad (k out:Int) (h:¬ k=0):shapeEnd k out=.returned (.tuple #[.agg #[.int .i64 0,.int .i64 0,.int .i64 0],.int .i64 k]):=by unfold shapeEnd;rw [if_neg h]
def denseOf (t:Tensor) (d:Node):Tensor × Int :=
 if t.ok=true then (if denseCode t.h t.v t.c d=0 then (⟨1,1,d.out,denseLine t.data d.w d.bias d.za⟩,0) else (noTensor,denseCode t.h t.v t.c d)) else (noTensor,5)
theorem denseCode_sizes (t:Tensor) (d:Node) (nw nb:Nat) (k1:d.w.length=nw) (k2:d.bias.length=nb) (c2:denseCode t.h t.v t.c d=0):nw≤1048576∧nb≤1024:=by
 unfold denseCode at c2
 split at c2
 ·omega
 ·rename_i hne
  split at c2
  ·omega
  ·rename_i h3
   have o1:1≤d.out∧d.out≤1024:=by
    have:¬ elems 1 1 d.out=0:=fun h=>hne (.inr h)
    rw [elems_iff] at this
    split at this
    ·omega
    ·exact absurd rfl this
   have h4:(d.w.length:Int)=d.out*elems t.h t.v t.c:=Decidable.byContradiction fun h=>h3 (.inl h)
   have h5:d.out*elems t.h t.v t.c≤1024*1024:=Int.mul_le_mul o1.2 (elems_range _ _ _).2 (elems_range _ _ _).1 (by omega)
   omega
theorem acc_kept {w w4 w':World} {A:Option Addr} {n cap:Nat} {l:List Int} {g:Nat} {u0 u1 u2 u3:Value} (h:Sl (tInt .i32) w' (bin w4.heap.size w'.heap.size) A n cap l) (hg:g < w4.heap.size) (hs:w.heap.size≤w4.heap.size) :
  Sl (tInt .i32) ((((w'.setCell ⟨g,0,none⟩ u0).setCell ⟨g,1,none⟩ u1).setCell ⟨g,2,none⟩ u2).setCell ⟨g,3,none⟩ u3)
   (bin w.heap.size ((((w'.setCell ⟨g,0,none⟩ u0).setCell ⟨g,1,none⟩ u1).setCell ⟨g,2,none⟩ u2).setCell ⟨g,3,none⟩ u3).heap.size) A n cap l :=
 (((((h.far _ _ (fun b hb=>by have:=hb.1;simp;omega)).far _ _ (fun b hb=>by have:=hb.1;simp;omega)).far _ _ (fun b hb=>by have:=hb.1;simp;omega)).far _ _ (fun b hb=>by have:=hb.1;simp;omega)).more (bin_more hs (by simp)))
set_option maxHeartbeats 2000000 in
theorem denseOf_bad (t:Tensor) (A:Option Addr) (n cap:Nat) (d:Node) (W:Option Addr) (nw cw:Nat) (B:Option Addr) (nb cb:Nat) (w:World) (ht:TensorIn t) (hd:NodeIn d)
  (ha:Sl (tInt .i8) w (blo w.heap.size) A n cap t.data) (hw:Sl (tInt .i8) w (blo w.heap.size) W nw cw d.w) (hb:Sl (tInt .i32) w (blo w.heap.size) B nb cb d.bias) (c1:¬ t.ok=true) :
  Calls Tryz.prog 123 #[.agg #[.int .i64 t.h,.int .i64 t.v,.int .i64 t.c,.slice A n cap],.agg (nN d.kind d.a d.b d.k d.s d.p d.out d.za d.zb W nw cw B nb cb d.qm d.qs d.qz d.rm d.rs d.rz d.lo d.hi)] w (RetT .i32 noTensor 5 w):=by
 have HT:=zH ht
 have HD:=zH hd
 have HA:=zH ha
 have HW:=zH hw
 have HB:=zH hb
 have m1:n≤9223372036854775807:=Nat.le_trans ha.cap_le ha.max_le
 have m2:nw≤9223372036854775807:=Nat.le_trans hw.cap_le hw.max_le
 have m3:nb≤9223372036854775807:=Nat.le_trans hb.cap_le hb.max_le
 clear ht hd ha hw hb
 have c1':decide (0 < elems t.h t.v t.c∧elems t.h t.v t.c=n)=false:=by rw [← HA.out.n_eq];simpa [Tensor.ok] using c1
 have C1:=zH c1'
 clear c1 c1'
 go_enter Tryz.func123,Tryz.ntmps123
 go_wp2_with fail
 refine (tensorRight_any t.h t.v t.c A n cap _ HT.out.h HT.out.v HT.out.c (Nat.le_trans HA.out.cap_le HA.out.max_le)).mono ?_
 rintro e w1 ⟨rfl,hb⟩
 rw [C1.out]
 have g1:=below_call (B:=w.heap.size) (a:=w) (by go_grown) hb (by simp;omega)
 have bC:=(Blk.now _ (w.heap.size+1+1) _ _ (by simp)).later hb
 have fC:=fun i=>bC.frozen i
 have cC:=fun i=>bC.cell i
 clear hb
 go_wp2_with fail
 refine ret_cell_tmp rfl ((((bC.set_ 0 _).set_ 1 _).set_ 2 _).set_ 3 _) rfl Tryz.underlying78 (by kernel_rfl) rfl ?_
 exact RetT.none (by go_grown)
set_option maxHeartbeats 2000000 in
theorem denseOf_good (t:Tensor) (A:Option Addr) (n cap:Nat) (d:Node) (W:Option Addr) (nw cw:Nat) (B:Option Addr) (nb cb:Nat) (w:World) (ht:TensorIn t) (hd:NodeIn d)
  (ha:Sl (tInt .i8) w (blo w.heap.size) A n cap t.data) (hw:Sl (tInt .i8) w (blo w.heap.size) W nw cw d.w) (hb:Sl (tInt .i32) w (blo w.heap.size) B nb cb d.bias) (c1:t.ok=true) (c2:denseCode t.h t.v t.c d=0) :
  Calls Tryz.prog 123 #[.agg #[.int .i64 t.h,.int .i64 t.v,.int .i64 t.c,.slice A n cap],.agg (nN d.kind d.a d.b d.k d.s d.p d.out d.za d.zb W nw cw B nb cb d.qm d.qs d.qz d.rm d.rs d.rz d.lo d.hi)] w (RetT .i32 ⟨1,1,d.out,denseLine t.data d.w d.bias d.za⟩ 0 w):=by
 have HT:=zH ht
 have HD:=zH hd
 have HA:=zH ha
 have HW:=zH hw
 have HB:=zH hb
 have m1:n≤9223372036854775807:=Nat.le_trans ha.cap_le ha.max_le
 have m2:nw≤9223372036854775807:=Nat.le_trans hw.cap_le hw.max_le
 have m3:nb≤9223372036854775807:=Nat.le_trans hb.cap_le hb.max_le
 clear ht hd ha hw hb
 have hq:=denseCode_sizes t d nw nb HW.out.n_eq HB.out.n_eq c2
 have hn2:n≤1024:=by
  have h1:t.ok=true:=c1
  have h2:=HA.out.n_eq
  have h3:=elems_range t.h t.v t.c
  simp only [Tensor.ok,decide_eq_true_eq] at h1
  omega
 have c1':decide (0 < elems t.h t.v t.c∧elems t.h t.v t.c=n)=true:=by rw [← HA.out.n_eq];simpa [Tensor.ok] using c1
 have C1:=zH c1'
 have C2:=zH c2
 clear c1 c1' c2
 go_enter Tryz.func123,Tryz.ntmps123
 go_wp2_with fail
 refine (tensorRight_any t.h t.v t.c A n cap _ HT.out.h HT.out.v HT.out.c (Nat.le_trans HA.out.cap_le HA.out.max_le)).mono ?_
 rintro e w1 ⟨rfl,hb⟩
 rw [C1.out]
 have g1:=below_call (B:=w.heap.size) (a:=w) (by go_grown) hb (by simp;omega)
 have bA:=((Blk.now _ w.heap.size _ _ rfl).past _ |>.past _).later hb
 have bB:=((Blk.now _ (w.heap.size+1) _ _ (by simp)).past _).later hb
 have bC:=(Blk.now _ (w.heap.size+1+1) _ _ (by simp)).later hb
 have BA:=zH bA
 have BB:=zH bB
 have BC:=zH bC
 have cA:=fun i=>bA.cell i
 clear bA bB bC hb
 go_wp2_with (refine wpList_load_row rfl 44 (.tmp 3) rfl (w.heap.size+1) rfl _ _ (0,0) _ BB.out.heap Tryz.underlying44 rfl (by kernel_rfl) ?_)
 refine (denseShape_any t.h t.v t.c d W nw cw B nb cb _ HT.out.h HT.out.v HT.out.c HD.out.out HW.out.n_eq.symm HB.out.n_eq.symm (Nat.le_trans HW.out.cap_le HW.out.max_le) (Nat.le_trans HB.out.cap_le HB.out.max_le)).mono ?_
 rintro e w2 ⟨rfl,hb⟩
 have g2:=below_call g1 hb g1.size
 have lt1:=BC.out.lt
 have lt2:=hb.size
 have BA:=zH (BA.out.later hb)
 have BB:=zH (BB.out.later hb)
 have BC:=zH (BC.out.later hb)
 clear hb cA
 rw [C2.out]
 simp only [shapeEnd,if_true]
 go_wp2_with fail
 have BA:=zH (BA.out.past (.cells #[.int .i64 1,.int .i64 1,.int .i64 d.out] 24))
 have BB:=zH (BB.out.past (.cells #[.int .i64 1,.int .i64 1,.int .i64 d.out] 24))
 have BC:=zH (BC.out.past (.cells #[.int .i64 1,.int .i64 1,.int .i64 d.out] 24))
 have BD:=zH (Blk.now w2 w2.heap.size 24 #[.int .i64 1,.int .i64 1,.int .i64 d.out] rfl)
 have g3:Below w.heap.size w (w2.alloc (.cells #[.int .i64 1,.int .i64 1,.int .i64 d.out] 24)):=g2.alloc g2.size _
 have lt3:w2.heap.size < (w2.alloc (.cells #[.int .i64 1,.int .i64 1,.int .i64 d.out] 24)).heap.size:=by simp
 generalize hw3:w2.alloc (.cells #[.int .i64 1,.int .i64 1,.int .i64 d.out] 24)=w3 at *
 clear hw3
 refine wp_region_held_drew (S:=fun w'=>w'.cell? ⟨w2.heap.size,0,none⟩=some (.int .i64 1)∧w'.cell? ⟨w2.heap.size,1,none⟩=some (.int .i64 1)∧w'.cell? ⟨w2.heap.size,2,none⟩=some (.int .i64 d.out)∧w'.cell? ⟨w.heap.size,3,none⟩=some (.slice A n cap)∧w'.cell? ⟨w.heap.size+1,9,none⟩=some (.slice W nw cw)∧w'.cell? ⟨w.heap.size+1,10,none⟩=some (.slice B nb cb)∧w'.cell? ⟨w.heap.size+1,7,none⟩=some (.int .i8 d.za)∧Below w.heap.size w w') (by kernel_rfl) ?_ (fun hS=>?_)
 ·exact ⟨BD.out.cell 0,BD.out.cell 1,BD.out.cell 2,BA.out.cell 3,BB.out.cell 9,BB.out.cell 10,BB.out.cell 7,g3.drew⟩
 refine kH 0 rfl hS ?_
 try simp only [pX]
 refine kH 1 rfl hS ?_
 try simp only [pX]
 refine kH 2 rfl hS ?_
 try simp only [pX]
 refine kH 3 rfl hS ?_
 try simp only [pX]
 refine kH 4 rfl hS ?_
 try simp only [pX]
 refine kH 5 rfl hS ?_
 try simp only [pX]
 refine kH 6 rfl hS ?_
 try simp only [pX]
 refine kH 7 rfl hS ?_
 try simp only [pX]
 refine kH 8 rfl hS ?_
 try simp only [pX]
 refine rH 9 rfl (fun K hK=>?_)
 go_simp
 refine (line_any A W B n cap nw cw nb cb _ _ _ _ _ (HA.out.later g3.drew (Nat.le_refl _)) (HW.out.later g3.drew (Nat.le_refl _)) (HB.out.later g3.drew (Nat.le_refl _)) HD.out.za (by omega) (by omega) (by omega)).mono ?_;rintro e w' ⟨A',n',cap',rfl,hs,hb⟩;have bC:=BC.out.drew.later hb;have cC:=fun i=>bC.cell i;have fC:=fun i=>bC.frozen i;have HSL:=zH hs;clear hs
 refine hK.out _ _ ?_ (fun hS=>?_)
 ·exact ⟨(by first|exact cell_later hb hS.1|exact Blk.later hS.1 hb),(by first|exact cell_later hb hS.2.1|exact Blk.later hS.2.1 hb),(by first|exact cell_later hb hS.2.2.1|exact Blk.later hS.2.2.1 hb),(by first|exact cell_later hb hS.2.2.2.1|exact Blk.later hS.2.2.2.1 hb),(by first|exact cell_later hb hS.2.2.2.2.1|exact Blk.later hS.2.2.2.2.1 hb),(by first|exact cell_later hb hS.2.2.2.2.2.1|exact Blk.later hS.2.2.2.2.2.1 hb),(by first|exact cell_later hb hS.2.2.2.2.2.2.1|exact Blk.later hS.2.2.2.2.2.2.1 hb),below_later hb hS.2.2.2.2.2.2.2⟩
 clear hK K
 try simp only [pX]
 refine kH 10 rfl hS ?_
 try simp only [pX]
 refine rH 11 rfl (fun K hK=>?_)
 go_simp
 refine hK.out _ _ ?_ (fun hS=>?_)
 ·obtain ⟨k0,k1,k2,k3,k4,k5,k6,k7⟩:=hS
  exact ⟨(by (repeat rw [cell_far _ _ _ _ (by first|(simp;done)|(simp;omega))]);exact k0),(by (repeat rw [cell_far _ _ _ _ (by first|(simp;done)|(simp;omega))]);exact k1),(by (repeat rw [cell_far _ _ _ _ (by first|(simp;done)|(simp;omega))]);exact k2),(by (repeat rw [cell_far _ _ _ _ (by first|(simp;done)|(simp;omega))]);exact k3),(by (repeat rw [cell_far _ _ _ _ (by first|(simp;done)|(simp;omega))]);exact k4),(by (repeat rw [cell_far _ _ _ _ (by first|(simp;done)|(simp;omega))]);exact k5),(by (repeat rw [cell_far _ _ _ _ (by first|(simp;done)|(simp;omega))]);exact k6),(by go_grown)⟩
 clear hK K
 try simp only [pX]
 refine kH 12 rfl hS ?_
 try simp only [pX]
 refine wpAnyH_done (by kernel_rfl) ?_ _
 have lt5:=BC.out.lt
 have lt6:=g3.size
 have g5:=below_call g3.drew hb g3.size
 clear hS hb
 go_wp2_with fail
 refine ret_cell_tmp rfl ((((bC.set_ 0 _).set_ 1 _).set_ 2 _).set_ 3 _) rfl Tryz.underlying78 (by kernel_rfl) rfl ?_
 refine ⟨A',n',cap',rfl,?_,by go_grown⟩
 exact acc_kept (w4:=w3.drew) HSL.out lt5 lt6
set_option maxHeartbeats 2000000 in
theorem denseOf_code (t:Tensor) (A:Option Addr) (n cap:Nat) (d:Node) (W:Option Addr) (nw cw:Nat) (B:Option Addr) (nb cb:Nat) (w:World) (ht:TensorIn t) (hd:NodeIn d)
  (ha:Sl (tInt .i8) w (blo w.heap.size) A n cap t.data) (hw:Sl (tInt .i8) w (blo w.heap.size) W nw cw d.w) (hb:Sl (tInt .i32) w (blo w.heap.size) B nb cb d.bias) (c1:t.ok=true) (c2:¬ denseCode t.h t.v t.c d=0) :
  Calls Tryz.prog 123 #[.agg #[.int .i64 t.h,.int .i64 t.v,.int .i64 t.c,.slice A n cap],.agg (nN d.kind d.a d.b d.k d.s d.p d.out d.za d.zb W nw cw B nb cb d.qm d.qs d.qz d.rm d.rs d.rz d.lo d.hi)] w (RetT .i32 noTensor (denseCode t.h t.v t.c d) w):=by
 have HT:=zH ht
 have HD:=zH hd
 have HA:=zH ha
 have HW:=zH hw
 have HB:=zH hb
 have m1:n≤9223372036854775807:=Nat.le_trans ha.cap_le ha.max_le
 have m2:nw≤9223372036854775807:=Nat.le_trans hw.cap_le hw.max_le
 have m3:nb≤9223372036854775807:=Nat.le_trans hb.cap_le hb.max_le
 clear ht hd ha hw hb
 have c1':decide (0 < elems t.h t.v t.c∧elems t.h t.v t.c=n)=true:=by rw [← HA.out.n_eq];simpa [Tensor.ok] using c1
 have C1:=zH c1'
 clear c1 c1'
 generalize hk:denseCode t.h t.v t.c d=k at *
 have hk2:(k != 0)=true:=by rw [bne_iff_ne];exact c2
 have HK:=zH hk
 have HC:=zH c2
 clear hk c2
 go_enter Tryz.func123,Tryz.ntmps123
 go_wp2_with fail
 refine (tensorRight_any t.h t.v t.c A n cap _ HT.out.h HT.out.v HT.out.c (Nat.le_trans HA.out.cap_le HA.out.max_le)).mono ?_
 rintro e w1 ⟨rfl,hb⟩
 rw [C1.out]
 have g1:=below_call (B:=w.heap.size) (a:=w) (by go_grown) hb (by simp;omega)
 have bA:=((Blk.now _ w.heap.size _ _ rfl).past _ |>.past _).later hb
 have bB:=((Blk.now _ (w.heap.size+1) _ _ (by simp)).past _).later hb
 have bC:=(Blk.now _ (w.heap.size+1+1) _ _ (by simp)).later hb
 have BA:=zH bA
 have BB:=zH bB
 have BC:=zH bC
 have cA:=fun i=>bA.cell i
 clear bA bB bC hb
 go_wp2_with (refine wpList_load_row rfl 44 (.tmp 3) rfl (w.heap.size+1) rfl _ _ (0,0) _ BB.out.heap Tryz.underlying44 rfl (by kernel_rfl) ?_)
 refine (denseShape_any t.h t.v t.c d W nw cw B nb cb _ HT.out.h HT.out.v HT.out.c HD.out.out HW.out.n_eq.symm HB.out.n_eq.symm (Nat.le_trans HW.out.cap_le HW.out.max_le) (Nat.le_trans HB.out.cap_le HB.out.max_le)).mono ?_
 rintro e w2 ⟨rfl,hb⟩
 have g2:=below_call g1 hb g1.size
 have lt1:=BC.out.lt
 have lt2:=hb.size
 have BA:=zH (BA.out.later hb)
 have BB:=zH (BB.out.later hb)
 have BC:=zH (BC.out.later hb)
 clear hb cA
 rw [HK.out,shapeEnd_bad k d.out HC.out]
 have BC:=zH (BC.out.past (.cells #[.int .i64 0,.int .i64 0,.int .i64 0] 24))
 have g3:Below w.heap.size w (w2.alloc (.cells #[.int .i64 0,.int .i64 0,.int .i64 0] 24)):=g2.alloc g2.size _
 have fC:=fun i=>BC.out.frozen i
 have cC:=fun i=>BC.out.cell i
 have lt6:=g3.size
 go_wp2_with fail
 refine ret_cell_tmp rfl ((((BC.out.set_ 0 _).set_ 1 _).set_ 2 _).set_ 3 _) rfl Tryz.underlying78 (by kernel_rfl) rfl ?_
 exact RetT.none (by go_grown)
theorem denseOf_any (t:Tensor) (A:Option Addr) (n cap:Nat) (d:Node) (W:Option Addr) (nw cw:Nat) (B:Option Addr) (nb cb:Nat) (w:World) (ht:TensorIn t) (hd:NodeIn d)
  (ha:Sl (tInt .i8) w (blo w.heap.size) A n cap t.data) (hw:Sl (tInt .i8) w (blo w.heap.size) W nw cw d.w) (hb:Sl (tInt .i32) w (blo w.heap.size) B nb cb d.bias) :
  Calls Tryz.prog 123 #[.agg #[.int .i64 t.h,.int .i64 t.v,.int .i64 t.c,.slice A n cap],.agg (nN d.kind d.a d.b d.k d.s d.p d.out d.za d.zb W nw cw B nb cb d.qm d.qs d.qz d.rm d.rs d.rz d.lo d.hi)] w (RetT .i32 (denseOf t d).1 (denseOf t d).2 w):=by
 by_cases c1:t.ok=true
 ·by_cases c2:denseCode t.h t.v t.c d=0
  ·have e:denseOf t d=(⟨1,1,d.out,denseLine t.data d.w d.bias d.za⟩,0):=by unfold denseOf;rw [if_pos c1,if_pos c2]
   rw [e];exact denseOf_good t A n cap d W nw cw B nb cb w ht hd ha hw hb c1 c2
  ·have e:denseOf t d=(noTensor,denseCode t.h t.v t.c d):=by unfold denseOf;rw [if_pos c1,if_neg c2]
   rw [e];exact denseOf_code t A n cap d W nw cw B nb cb w ht hd ha hw hb c1 c2
 ·have e:denseOf t d=(noTensor,5):=by unfold denseOf;rw [if_neg c1]
  rw [e];exact denseOf_bad t A n cap d W nw cw B nb cb w ht hd ha hw hb c1
end Go.Proofs.YtjkmjpjknmghlaaGreat
namespace Go.Proofs.YtjkmjpjknmghlaaGreat
open Go.RowKit Go.ChangeShapes Go.WideShapes Fx
set_option maxRecDepth 100000
set_option maxHeartbeats 2000000
theorem lanesLine_any (H V C P:Nat) (A:Option Addr) (n cap:Nat) (l:List Int) (d:Node) (W:Option Addr) (nw cw:Nat) (B:Option Addr) (nb cb:Nat) (h o:Nat) (w:World)
  (hl:Sl (tInt .i8) w (blo w.heap.size) A n cap l) (hwl:Sl (tInt .i8) w (blo w.heap.size) W nw cw d.w) (hn:n=H*V*C) (hn2:n≤1048576) (hV:V≤1048576) (hC1:1≤C) (hC:C≤341) (hp:d.p=P) (hP:P≤4) (hz:InK .i8 d.za)
  (hh:h≤1000000) (hH:H≤1048576) (ho:o≤1024) (hnw:(o+1)*(9*C)≤nw) (hm:V+2*P≤1000000) :
  Calls Tryz.prog 134 #[.agg #[.int .i64 H,.int .i64 V,.int .i64 C,.slice A n cap,.int .i64 d.kind,.int .i64 d.a,.int .i64 d.b,.int .i64 d.k,.int .i64 d.s,.int .i64 d.p,.int .i64 d.out,.int .i8 d.za,.int .i8 d.zb,.slice W nw cw,.slice B nb cb,.int .i32 d.qm,.int .i64 d.qs,.int .i8 d.qz,.int .i32 d.rm,.int .i64 d.rs,.int .i8 d.rz,.int .i8 d.lo,.int .i8 d.hi],.int .i64 h,.int .i64 o] w (RetSl (tInt .i64) w (manyV (rowsV H V C l d.za P h) (tapsV d.w C o) (V+2*P) (3*C))):=by
 have FR:=zH (Far.refl w)
 have OL:=zH (Old.now hl)
 have OW:=zH (Old.now hwl)
 obtain ⟨w1,hw_w1,BA,k_w1⟩:=nB w #[.int .i64 H,.int .i64 V,.int .i64 C,.slice A n cap,.int .i64 d.kind,.int .i64 d.a,.int .i64 d.b,.int .i64 d.k,.int .i64 d.s,.int .i64 d.p,.int .i64 d.out,.int .i8 d.za,.int .i8 d.zb,.slice W nw cw,.slice B nb cb,.int .i32 d.qm,.int .i64 d.qs,.int .i8 d.qz,.int .i32 d.rm,.int .i64 d.rs,.int .i8 d.rz,.int .i8 d.lo,.int .i8 d.hi] 167
 replace FR:=zH (FR.out.fut k_w1)
 replace OL:=zH (OL.out.fut k_w1)
 replace OW:=zH (OW.out.fut k_w1)
 clear k_w1
 have c2:=BA.out.cell 2
 have HN:=zH hn
 have HP:=zH hp
 have HNW:=zH hnw
 have HZ:=zH hz
 have l1:w1.heap.size=w.heap.size+1:=by rw [← hw_w1];simp
 have LI:=zH (show Lists w1.heap.size ((List.range 0).map fun r:Nat=>rowV H V C l d.za P ((h+r / C:Nat) - P) (r % C)) ((List.range 0).map fun r:Nat=>tapV d.w C o (r / C) (r % C)) 0 (.slice none 0 0) (.slice none 0 0) w1 from ⟨Own.nil _ _ _ _ _,Own.nil _ _ _ _ _,.inl rfl⟩)
 clear hn hp hnw hz hl hwl
 go_enter Tryz.func134,Tryz.ntmps134
 go_wp2_with fail
 clear hw_w1 c2
 obtain ⟨g0,e0⟩:∃ m,w.heap.size=m:=⟨_,rfl⟩
 obtain ⟨g1,e1⟩:∃ m,w1.heap.size=m:=⟨_,rfl⟩
 rw [e0,e1] at l1
 rw [e0] at BA
 rw [e1] at LI
 rw [e0]
 have lwg:w.heap.size≤g1:=by omega
 go_loopw [7,8,11] (fun u v ii wr=>∃ i:Nat,i≤3∧ii=.int .i64 i∧Far w wr∧Old w (tInt .i8) wr A n cap l∧Old w (tInt .i8) wr W nw cw d.w∧Blk wr g0 167 #[.int .i64 H,.int .i64 V,.int .i64 C,.slice A n cap,.int .i64 d.kind,.int .i64 d.a,.int .i64 d.b,.int .i64 d.k,.int .i64 d.s,.int .i64 d.p,.int .i64 d.out,.int .i8 d.za,.int .i8 d.zb,.slice W nw cw,.slice B nb cb,.int .i32 d.qm,.int .i64 d.qs,.int .i8 d.qz,.int .i32 d.rm,.int .i64 d.rs,.int .i8 d.rz,.int .i8 d.lo,.int .i8 d.hi] ∧
   Lists g1 ((List.range (i*C)).map fun r:Nat=>rowV H V C l d.za P ((h+r / C:Nat) - P) (r % C)) ((List.range (i*C)).map fun r:Nat=>tapV d.w C o (r / C) (r % C)) (i*C) u v wr) (fun _ _ ii _=>3 - (intOf ii).toNat)
 case atStart=>exact ⟨0,Nat.zero_le _,rfl,FR.out,OL.out,OW.out,BA.out,by rw [Nat.zero_mul];exact LI.out⟩
 case round =>
  obtain ⟨i,hi,rfl,hf,hol,how,hba,hli⟩:=hrel
  clear FR OL OW BA LI
  have FR:=zH hf
  have OL:=zH hol
  have OW:=zH how
  have BA:=zH hba
  have LI:=zH hli
  clear hf hol how hba hli
  by_cases hlt:i < 3
  ·have p1:(i:Int) < 3:=by omega
   have c2:=BA.out.cell 2
   go_wp2_with fail
   clear c2
   go_loopw [7,8,18] (fun u v ii wr=>∃ c:Nat,c≤C∧ii=.int .i64 c∧Far w wr∧Old w (tInt .i8) wr A n cap l∧Old w (tInt .i8) wr W nw cw d.w∧Blk wr g0 167 #[.int .i64 H,.int .i64 V,.int .i64 C,.slice A n cap,.int .i64 d.kind,.int .i64 d.a,.int .i64 d.b,.int .i64 d.k,.int .i64 d.s,.int .i64 d.p,.int .i64 d.out,.int .i8 d.za,.int .i8 d.zb,.slice W nw cw,.slice B nb cb,.int .i32 d.qm,.int .i64 d.qs,.int .i8 d.qz,.int .i32 d.rm,.int .i64 d.rs,.int .i8 d.rz,.int .i8 d.lo,.int .i8 d.hi] ∧
    Lists g1 ((List.range (i*C+c)).map fun r:Nat=>rowV H V C l d.za P ((h+r / C:Nat) - P) (r % C)) ((List.range (i*C+c)).map fun r:Nat=>tapV d.w C o (r / C) (r % C)) (i*C+c) u v wr) (fun _ _ ii _=>C - (intOf ii).toNat)
   case atStart=>exact ⟨0,Nat.zero_le _,rfl,FR.out,OL.out,OW.out,BA.out,LI.out⟩
   case round =>
    obtain ⟨c,hc,rfl,hf,hol,how,hba,hli⟩:=hrel
    clear FR OL OW BA LI
    have FR:=zH hf
    have OL:=zH hol
    have OW:=zH how
    have BA:=zH hba
    have LI:=zH hli
    clear hf hol how hba hli
    by_cases hlc:c < C
    ·have p2:(c:Int) < (C:Int):=by omega
     go_wp2_with fail
     have hk2:i*C+c≤1024:=by
      have:i*C≤2*C:=Nat.mul_le_mul_right C (by omega)
      omega
     have c9:=BA.out.cell 9
     simp only [gX] at c9
     rw [HP.out] at c9
     obtain ⟨hi',hhi⟩:∃ m,h+i=m:=⟨_,rfl⟩
     have e1:IntKind.i64.wrap ((h:Int)+(i:Int))=(hi':Int):=(IntWalk.i64_in _ (by omega)).trans (by omega)
     have e2:IntKind.i64.wrap ((hi':Int) - (P:Int))=(hi':Int) - (P:Int):=IntWalk.i64_in _ (by omega)
     have kd:Below wr.heap.size wr wr.drew:=(Below.refl _ _).drew
     have FD:=zH (FR.out.fut kd)
     have OLD:=zH (OL.out.fut kd)
     have OWD:=zH (OW.out.fut kd)
     have LID:=zH (LI.out.below kd)
     have BAD:=zH (BA.out.fut kd)
     have c9d:=cell_later kd c9

     refine wp_region_held_drew (S:=fun w'=>w'.cell? ⟨g0,9,none⟩=some (.int .i64 P)∧Blk w' g0 167 #[.int .i64 H,.int .i64 V,.int .i64 C,.slice A n cap,.int .i64 d.kind,.int .i64 d.a,.int .i64 d.b,.int .i64 d.k,.int .i64 d.s,.int .i64 d.p,.int .i64 d.out,.int .i8 d.za,.int .i8 d.zb,.slice W nw cw,.slice B nb cb,.int .i32 d.qm,.int .i64 d.qs,.int .i8 d.qz,.int .i32 d.rm,.int .i64 d.rs,.int .i8 d.rz,.int .i8 d.lo,.int .i8 d.hi]∧Below w.heap.size w w') (by kernel_rfl) ?_ (fun hS=>?_)
     ·exact ⟨c9d,BAD.out,FD.out.out⟩
     refine kH 0 rfl hS ?_
     try simp only [pX]
     refine tkH 1 rfl (yieldsIf_load_blk (by rfl) 167 (.tmp 3) rfl g0 0 rfl _ _ #[.int .i64 H,.int .i64 V,.int .i64 C,.slice A n cap,.int .i64 d.kind,.int .i64 d.a,.int .i64 d.b,.int .i64 d.k,.int .i64 d.s,.int .i64 d.p,.int .i64 d.out,.int .i8 d.za,.int .i8 d.zb,.slice W nw cw,.slice B nb cb,.int .i32 d.qm,.int .i64 d.qs,.int .i8 d.qz,.int .i32 d.rm,.int .i64 d.rs,.int .i8 d.rz,.int .i8 d.lo,.int .i8 d.hi] _ (fun w hs=>hs.2.1) Tryz.underlying167 rfl (by kernel_rfl) rfl) hS ?_
     try simp only [pX]
     refine kH 2 rfl hS ?_
     try simp only [pX]
     refine kH 3 rfl hS ?_
     try simp only [pX]
     refine kH 4 rfl hS ?_
     try simp only [pX]
     refine kH 5 rfl hS ?_
     try simp only [pX]
     refine kH 6 rfl hS ?_
     try simp only [pX]
     refine kH 7 rfl hS ?_
     try simp only [pX]
     refine kH 8 rfl hS ?_
     try simp only [pX]
     refine kH 9 rfl hS ?_
     try simp only [pX]
     refine kH 13 rfl hS ?_
     try simp only [pX]
     refine tkH 14 rfl (yieldsIf_load_blk (by rfl) 167 (.tmp 3) rfl g0 0 rfl _ _ #[.int .i64 H,.int .i64 V,.int .i64 C,.slice A n cap,.int .i64 d.kind,.int .i64 d.a,.int .i64 d.b,.int .i64 d.k,.int .i64 d.s,.int .i64 d.p,.int .i64 d.out,.int .i8 d.za,.int .i8 d.zb,.slice W nw cw,.slice B nb cb,.int .i32 d.qm,.int .i64 d.qs,.int .i8 d.qz,.int .i32 d.rm,.int .i64 d.rs,.int .i8 d.rz,.int .i8 d.lo,.int .i8 d.hi] _ (fun w hs=>hs.2.1) Tryz.underlying167 rfl (by kernel_rfl) rfl) hS ?_
     try simp only [pX]
     refine kH 15 rfl hS ?_
     try simp only [pX]
     refine kH 16 rfl hS ?_
     try simp only [pX]
     refine kH 17 rfl hS ?_
     try simp only [pX]
     refine rH 10 rfl (fun K hK=>?_)
     go_simp
     (refine (row_any H V C P A n cap l d W nw cw B nb cb _ c _ OLD.out.all HN.out hn2 hV (by omega) HP.out hP HZ.out hlc (by omega) (by omega) hH).mono ?_;rintro e w3 ⟨RA,rn,rc,rfl,rs,hb⟩;have F3:=zH (FD.out.fut hb);have LI3:=zH (LID.out.below hb);have BK3:=zH (BAD.out.fut hb);have k9:=cell_later hb c9d;have OL3:=zH (OLD.out.fut hb);have OW3:=zH (OWD.out.fut hb);have lg3:g1≤w3.heap.size:=(by have:=BK3.out.lt;omega);have RS:=zH (rs.more (S':=rowsAt g1 u7 u8 w3) (fun b hb'=>⟨by have:=BAD.out.lt;have:=hb'.1;omega,hb'.2,fun e=>absurd (LID.out.rows.lt b e.symm).2 (Nat.not_lt.2 hb'.1),fun e=>absurd (LID.out.taps.lt b e.symm).2 (Nat.not_lt.2 hb'.1)⟩));have nu:=zH (show some g0 ≠ u7.ownBlock from fun e=>absurd (LI3.out.rows.lt g0 e.symm).1 (by omega));have nv:=zH (show some g0 ≠ u8.ownBlock from fun e=>absurd (LI3.out.taps.lt g0 e.symm).1 (by omega)))
     refine hK.out _ _ ?_ (fun hS=>?_)
     ·exact ⟨(by first|exact cell_later hb hS.1|exact Blk.later hS.1 hb),(by first|exact cell_later hb hS.2.1|exact Blk.later hS.2.1 hb),below_later hb hS.2.2⟩
     clear hK K
     try simp only [pX]
     refine rH 11 rfl (fun K hK=>?_)
     go_simp
     have hb2:Below w3.heap.size w3 (w3.alloc (.cells #[.slice RA rn rc] 170)):=(Below.refl _ _).alloc (Nat.le_refl _) _;have hb:Below w3.heap.size w3 (w3.alloc (.cells #[.slice RA rn rc] 170)):=hb2
     refine hK.out _ _ ?_ (fun hS=>?_)
     ·exact ⟨(by first|exact cell_later hb hS.1|exact Blk.later hS.1 hb),(by first|exact cell_later hb hS.2.1|exact Blk.later hS.2.1 hb),below_later hb hS.2.2⟩
     clear hK K
     try simp only [pX]
     refine rH 12 rfl (fun K hK=>?_)
     (rw [if_pos (by rfl)];refine oper_push (W:=w3) (cs:=#[.slice RA rn rc]) (E:=170) (t:=tSlice (tInt .i16)) (.tmp 21) (.tmp 32) rfl ei_rows16 rfl LI3.out.rows 1 rfl (rowV H V C l d.za P ((hi':Int) - P) c) RS.out.rep (by unfold maxLen;omega) (by omega) lg3 (fun b hb=>⟨hb.2.1,hb.2.2.1⟩) ?_;intro u4 w4 own1 gr1 at1;refine hK.out _ _ ⟨cell_grown gr1 k9 nu.out,BK3.out.row' gr1 nu.out,F3.out.out.grown gr1 F3.out.size (fun k h=>Nat.le_trans lwg (LI3.out.rows.lt k h).1)⟩ (fun hS=>?_);have R3:=LI3.out.row own1 gr1 at1;have O1:=zH R3.1;have O2:=zH R3.2.1;have N1:=zH R3.2.2;have F4:=zH (show Far w w4 from ⟨hS.2.2⟩);have OL4:=zH (OL3.out.row gr1 (fun k h=>Nat.le_trans lwg (LI3.out.rows.lt k h).1));have OW4:=zH (OW3.out.row gr1 (fun k h=>Nat.le_trans lwg (LI3.out.rows.lt k h).1));clear R3 own1 gr1 at1 hb hb2)
     clear hK K
     try simp only [pX]
     refine rH 18 rfl (fun K hK=>?_)
     go_simp
     (refine (tap_any H V C A n cap d W nw cw B nb cb o i c _ OW4.out.all (by omega) ho hlt hlc HNW.out).mono ?_;rintro e w5 ⟨rfl,hb⟩;have F5:=zH (F4.out.fut hb);have OL5:=zH (OL4.out.fut hb);have OW5:=zH (OW4.out.fut hb);have P1:=zH ((O1.out.below hb (Nat.le_refl _) (fun b hb=>hb.2.1)).more (S':=rowsAt g1 u4 u8 w5) fun b ⟨h1,h2,h3⟩=>⟨h1,Nat.lt_of_lt_of_le h2 hb.size,h3⟩);have P2:=zH (O2.out.below hb (Nat.le_refl _) (fun _ h=>h.elim));have lg5:g1≤w5.heap.size:=(by have:=hS.2.1.lt;have:=hb.size;omega))
     refine hK.out _ _ ?_ (fun hS=>?_)
     ·exact ⟨(by first|exact cell_later hb hS.1|exact Blk.later hS.1 hb),(by first|exact cell_later hb hS.2.1|exact Blk.later hS.2.1 hb),below_later hb hS.2.2⟩
     clear hK K
     try simp only [pX]
     refine rH 19 rfl (fun K hK=>?_)
     (rw [if_pos (by rfl)];have S5:=zH hS;refine oper_lit1 (.tmp 39) rfl ei_taps (i3 .i8 (fun j=>d.w.getD (((o*3+i)*3+j)*C+c) 0)) rfl rfl (by decide) ?_;have kb:Below w5.heap.size w5 (w5.alloc (.cells (i3 .i8 (fun j=>d.w.getD (((o*3+i)*3+j)*C+c) 0)) 183)):=(Below.refl _ _).alloc (Nat.le_refl _) _;refine hK.out _ _ ⟨cell_later kb hS.1,hS.2.1.later kb,below_later kb hS.2.2⟩ (fun hS=>?_);clear kb)
     clear hK K
     try simp only [pX]
     refine rH 20 rfl (fun K hK=>?_)
     (rw [if_pos (by rfl)];refine oper_push (W:=w5) (cs:=i3 .i8 (fun j=>d.w.getD (((o*3+i)*3+j)*C+c) 0)) (E:=183) (t:=tW3) (.tmp 34) (.tmp 40) rfl ei_taps rfl P2.out 1 rfl (tapV d.w C o i c) ⟨rfl,OW5.out.out.allK _,OW5.out.out.allK _,OW5.out.out.allK _⟩ (by unfold maxLen;omega) (by omega) lg5 (fun _ h=>h.elim) ?_;intro u6 w6 own2 gr2 at2;refine hK.out _ _ ⟨cell_grown gr2 S5.out.1 nv.out,S5.out.2.1.row' gr2 nv.out,S5.out.2.2.grown gr2 F5.out.size (fun k h=>Nat.le_trans lwg (P2.out.lt k h).1)⟩ (fun hS=>?_);have L6:=zH (Lists.tap P1.out P2.out N1.out own2 gr2 at2);have F6:=zH (show Far w w6 from ⟨hS.2.2⟩);have BK6:=zH hS.2.1;have OL6:=zH (OL5.out.row gr2 (fun k h=>Nat.le_trans lwg (P2.out.lt k h).1));have OW6:=zH (OW5.out.row gr2 (fun k h=>Nat.le_trans lwg (P2.out.lt k h).1));clear own2 gr2 at2)
     clear hK K
     try simp only [pX]
     refine kH 21 rfl hS ?_
     try simp only [pX]
     refine kH 22 rfl hS ?_
     try simp only [pX]
     refine wpAnyH_done (by kernel_rfl) ?_ _
     go_wp2_with fail
     refine ⟨⟨c+1,by omega,by go_num,F6.out,OL6.out,OW6.out,BK6.out,?_⟩,by simp [intOf];omega⟩
     have e3:=rowsV_snoc (fun r:Nat=>rowV H V C l d.za P ((h+r / C:Nat) - P) (r % C)) (i*C+c)
     have e4:=rowsV_snoc (fun r:Nat=>tapV d.w C o (r / C) (r % C)) (i*C+c)
     obtain ⟨dv,md⟩:=row_div i c C hlc
     rw [dv,md,hhi] at e3
     rw [dv,md] at e4
     have:=L6.out
     rw [e3,e4] at this
     exact this
    ·obtain rfl:c=C:=by omega
     go_wp2_with fail
     exact ⟨⟨i+1,by omega,by go_num,FR.out,OL.out,OW.out,BA.out,by rw [Nat.succ_mul];exact LI.out⟩,by simp [intOf];omega⟩
  ·obtain rfl:i=3:=by omega
   go_wp2_with fail
   have LS:=LI.out
   obtain ⟨A1,k1,rfl,s1⟩:=LS.rows.sl (S':=blo wr.heap.size) (by decide) (fun b _ h=>h) (fun b h=>h.2.1)
   obtain ⟨A2,k2,rfl,s2⟩:=LS.taps.sl (S':=blo wr.heap.size) (by decide) (fun b _ h=>h) (fun b h=>h.elim)
   refine (many_any A1 (3*C) k1 _ A2 k2 _ (V+2*P) wr s1 s2 (by omega) (by omega) (fun j hj=>?_) hm).mono ?_
   ·rw [getD_range _ _ _ _ hj];simp [rowV]
   rintro e w3 ⟨RA,rn,rc,rfl,rs,hb⟩
   go_wp2_with fail
   go_ret
   exact ⟨RA,rn,rc,rfl,rs.more (bin_more FR.out.size (Nat.le_refl _)),(FR.out.fut hb).out⟩
end Go.Proofs.YtjkmjpjknmghlaaGreat
