/-
  The sums of convolutions (layers 16, 14, 17) and the document's: the ways out with an error.
  Windows as rows (layer 12): patch.over where the places are right.
-/
import Derived.Test.YtlbkekabmpienaaGreatChecked
import Derived.Test.YtlbkekabmpienaaGreatJ07
import Derived.Test.YtlbkekabmpienaaGreatJ08
import Derived.Test.YtlbkekabmpienaaGreatJ09
import Derived.Test.YtlbkekabmpienaaGreatJ00
import Derived.Test.YtlbkekabmpienaaGreatJ06
import Derived.Test.YtlbkekabmpienaaGreatJ16
namespace Go.Proofs.YtlbkekabmpienaaGreat
set_option linter.unusedVariables false
set_option linter.unusedSimpArgs false
open Go.RowKit Go.ChangeShapes Go.WideShapes
set_option maxRecDepth 100000
set_option maxHeartbeats 2000000 in
theorem laneOf_bad (t:Tensor) (A:Option Addr) (n cap:Nat) (d:Node) (W:Option Addr) (nw cw:Nat) (B:Option Addr) (nb cb:Nat) (w:World) (ht:TensorIn t) (hd:NodeIn d)
  (ha:Sl (tInt .i8) w (blo w.heap.size) A n cap t.data) (hw:Sl (tInt .i8) w (blo w.heap.size) W nw cw d.w) (hb:Sl (tInt .i32) w (blo w.heap.size) B nb cb d.bias) (c1:¬ t.ok=true) :
  Calls Tryz.prog 33 #[.agg #[.int .i64 t.h,.int .i64 t.v,.int .i64 t.c,.slice A n cap],.agg #[.int .i64 d.kind,.int .i64 d.a,.int .i64 d.b,.int .i64 d.k,.int .i64 d.s,.int .i64 d.p,.int .i64 d.out,.int .i8 d.za,.int .i8 d.zb,.slice W nw cw,.slice B nb cb,.int .i32 d.qm,.int .i64 d.qs,.int .i8 d.qz,.int .i32 d.rm,.int .i64 d.rs,.int .i8 d.rz,.int .i8 d.lo,.int .i8 d.hi]] w (RetT .i32 noTensor 5 w):=by
 have HT:=zH ht
 have HD:=zH hd
 have HA:=zH ha
 have HW:=zH hw
 have HB:=zH hb
 have m1:n≤9223372036854775807:=Nat.le_trans ha.cap_le ha.max_le
 have m2:nw≤9223372036854775807:=Nat.le_trans hw.cap_le hw.max_le
 have m3:nb≤9223372036854775807:=Nat.le_trans hb.cap_le hb.max_le
 clear ht hd ha hw hb
 have c1':decide (0 < elems t.h t.v t.c∧elems t.h t.v t.c=n)=false:=by rw [← HA.out.n_eq];simpa [Tensor.ok] using c1
 have C1:=zH c1'
 clear c1 c1'
 go_enter Tryz.func33,Tryz.ntmps33
 go_wp2_with fail
 refine (tensorRight_any t.h t.v t.c A n cap _ HT.out.h HT.out.v HT.out.c (Nat.le_trans HA.out.cap_le HA.out.max_le)).mono ?_
 rintro e w1 ⟨rfl,hb⟩
 rw [C1.out]
 have g1:=below_call (B:=w.heap.size) (a:=w) (by go_grown) hb (by simp;omega)
 have bC:=(Blk.now _ (w.heap.size+1+1) _ _ (by simp)).later hb
 have fC:=fun i=>bC.frozen i
 have cC:=fun i=>bC.cell i
 clear hb
 go_wp2_with fail
 refine ret_cell_tmp rfl ((((bC.set_ 0 _).set_ 1 _).set_ 2 _).set_ 3 _) rfl Tryz.underlying41 (by kernel_rfl) rfl ?_
 exact RetT.none (by go_grown)
set_option maxHeartbeats 2000000 in
theorem laneOf_code (t:Tensor) (A:Option Addr) (n cap:Nat) (d:Node) (W:Option Addr) (nw cw:Nat) (B:Option Addr) (nb cb:Nat) (w:World) (ht:TensorIn t) (hd:NodeIn d)
  (ha:Sl (tInt .i8) w (blo w.heap.size) A n cap t.data) (hw:Sl (tInt .i8) w (blo w.heap.size) W nw cw d.w) (hb:Sl (tInt .i32) w (blo w.heap.size) B nb cb d.bias) (mw:nw≤1048576∧nb≤1048576) (c1:t.ok=true) (c2:¬ (convV t.h t.v t.c d).2=0) :
  Calls Tryz.prog 33 #[.agg #[.int .i64 t.h,.int .i64 t.v,.int .i64 t.c,.slice A n cap],.agg #[.int .i64 d.kind,.int .i64 d.a,.int .i64 d.b,.int .i64 d.k,.int .i64 d.s,.int .i64 d.p,.int .i64 d.out,.int .i8 d.za,.int .i8 d.zb,.slice W nw cw,.slice B nb cb,.int .i32 d.qm,.int .i64 d.qs,.int .i8 d.qz,.int .i32 d.rm,.int .i64 d.rs,.int .i8 d.rz,.int .i8 d.lo,.int .i8 d.hi]] w (RetT .i32 noTensor (convV t.h t.v t.c d).2 w):=by
 have HT:=zH ht
 have HD:=zH hd
 have HA:=zH ha
 have HW:=zH hw
 have HB:=zH hb
 have m1:n≤9223372036854775807:=Nat.le_trans ha.cap_le ha.max_le
 have m2:nw≤9223372036854775807:=Nat.le_trans hw.cap_le hw.max_le
 have m3:nb≤9223372036854775807:=Nat.le_trans hb.cap_le hb.max_le
 clear ht hd ha hw hb
 have SZ:=zH mw
 clear mw
 have c1':decide (0 < elems t.h t.v t.c∧elems t.h t.v t.c=n)=true:=by rw [← HA.out.n_eq];simpa [Tensor.ok] using c1
 have C1:=zH c1'
 clear c1 c1'
 obtain ⟨⟨⟨x1,x2,x3⟩,k⟩,hx⟩:∃ x,convV t.h t.v t.c d=x:=⟨_,rfl⟩
 rw [hx] at c2 ⊢
 have hk2:(k != 0)=true:=by rw [bne_iff_ne];exact c2
 have HX:=zH hx
 clear hx c2
 go_enter Tryz.func33,Tryz.ntmps33
 go_wp2_with fail
 refine (tensorRight_any t.h t.v t.c A n cap _ HT.out.h HT.out.v HT.out.c (Nat.le_trans HA.out.cap_le HA.out.max_le)).mono ?_
 rintro e w1 ⟨rfl,hb⟩
 rw [C1.out]
 have g1:=below_call (B:=w.heap.size) (a:=w) (by go_grown) hb (by simp;omega)
 have bA:=((Blk.now _ w.heap.size _ _ rfl).past _ |>.past _).later hb
 have bB:=((Blk.now _ (w.heap.size+1) _ _ (by simp)).past _).later hb
 have bC:=(Blk.now _ (w.heap.size+1+1) _ _ (by simp)).later hb
 have BA:=zH bA
 have BB:=zH bB
 have BC:=zH bC
 have cA:=fun i=>bA.cell i
 clear bA bB bC hb
 go_wp2_with (refine wpList_load_row rfl 28 (.tmp 3) rfl (w.heap.size+1) rfl _ _ (0,0) _ BB.out.heap Tryz.underlying28 rfl (by kernel_rfl) ?_)
 refine (convShape_any t.h t.v t.c d W nw cw B nb cb _ HT.out.h HT.out.v HT.out.c HD.out.out HW.out.n_eq.symm HB.out.n_eq.symm SZ.out.1 SZ.out.2).mono ?_
 rintro e w2 ⟨rfl,hb⟩
 have g2:=below_call g1 hb g1.size
 have lt1:=BC.out.lt
 have lt2:=hb.size
 have BA:=zH (BA.out.later hb)
 have BB:=zH (BB.out.later hb)
 have BC:=zH (BC.out.later hb)
 clear hb cA
 rw [HX.out]
 simp only [retS]
 have BC:=zH (BC.out.past (.cells #[.int .i64 x1,.int .i64 x2,.int .i64 x3] 30))
 have g3:Below w.heap.size w (w2.alloc (.cells #[.int .i64 x1,.int .i64 x2,.int .i64 x3] 30)):=g2.alloc g2.size _
 have fC:=fun i=>BC.out.frozen i
 have cC:=fun i=>BC.out.cell i
 have lt6:=g3.size
 go_wp2_with fail
 refine ret_cell_tmp rfl ((((BC.out.set_ 0 _).set_ 1 _).set_ 2 _).set_ 3 _) rfl Tryz.underlying41 (by kernel_rfl) rfl ?_
 exact RetT.none (by go_grown)
set_option maxHeartbeats 2000000 in
theorem lowerOf_bad (t:Tensor) (A:Option Addr) (n cap:Nat) (d:Node) (W:Option Addr) (nw cw:Nat) (B:Option Addr) (nb cb:Nat) (w:World) (ht:TensorIn t) (hd:NodeIn d)
  (ha:Sl (tInt .i8) w (blo w.heap.size) A n cap t.data) (hw:Sl (tInt .i8) w (blo w.heap.size) W nw cw d.w) (hb:Sl (tInt .i32) w (blo w.heap.size) B nb cb d.bias) (c1:¬ t.ok=true) :
  Calls Tryz.prog 34 #[.agg #[.int .i64 t.h,.int .i64 t.v,.int .i64 t.c,.slice A n cap],.agg #[.int .i64 d.kind,.int .i64 d.a,.int .i64 d.b,.int .i64 d.k,.int .i64 d.s,.int .i64 d.p,.int .i64 d.out,.int .i8 d.za,.int .i8 d.zb,.slice W nw cw,.slice B nb cb,.int .i32 d.qm,.int .i64 d.qs,.int .i8 d.qz,.int .i32 d.rm,.int .i64 d.rs,.int .i8 d.rz,.int .i8 d.lo,.int .i8 d.hi]] w (RetT .i32 noTensor 5 w):=by
 have HT:=zH ht
 have HD:=zH hd
 have HA:=zH ha
 have HW:=zH hw
 have HB:=zH hb
 have m1:n≤9223372036854775807:=Nat.le_trans ha.cap_le ha.max_le
 have m2:nw≤9223372036854775807:=Nat.le_trans hw.cap_le hw.max_le
 have m3:nb≤9223372036854775807:=Nat.le_trans hb.cap_le hb.max_le
 clear ht hd ha hw hb
 have c1':decide (0 < elems t.h t.v t.c∧elems t.h t.v t.c=n)=false:=by rw [← HA.out.n_eq];simpa [Tensor.ok] using c1
 have C1:=zH c1'
 clear c1 c1'
 go_enter Tryz.func34,Tryz.ntmps34
 go_wp2_with fail
 refine (tensorRight_any t.h t.v t.c A n cap _ HT.out.h HT.out.v HT.out.c (Nat.le_trans HA.out.cap_le HA.out.max_le)).mono ?_
 rintro e w1 ⟨rfl,hb⟩
 rw [C1.out]
 have g1:=below_call (B:=w.heap.size) (a:=w) (by go_grown) hb (by simp;omega)
 have bC:=(Blk.now _ (w.heap.size+1+1) _ _ (by simp)).later hb
 have fC:=fun i=>bC.frozen i
 have cC:=fun i=>bC.cell i
 clear hb
 go_wp2_with fail
 refine ret_cell_tmp rfl ((((bC.set_ 0 _).set_ 1 _).set_ 2 _).set_ 3 _) rfl Tryz.underlying41 (by kernel_rfl) rfl ?_
 exact RetT.none (by go_grown)
set_option maxHeartbeats 2000000 in
theorem lowerOf_code (t:Tensor) (A:Option Addr) (n cap:Nat) (d:Node) (W:Option Addr) (nw cw:Nat) (B:Option Addr) (nb cb:Nat) (w:World) (ht:TensorIn t) (hd:NodeIn d)
  (ha:Sl (tInt .i8) w (blo w.heap.size) A n cap t.data) (hw:Sl (tInt .i8) w (blo w.heap.size) W nw cw d.w) (hb:Sl (tInt .i32) w (blo w.heap.size) B nb cb d.bias) (mw:nw≤1048576∧nb≤1048576) (c1:t.ok=true) (c2:¬ (convV t.h t.v t.c d).2=0) :
  Calls Tryz.prog 34 #[.agg #[.int .i64 t.h,.int .i64 t.v,.int .i64 t.c,.slice A n cap],.agg #[.int .i64 d.kind,.int .i64 d.a,.int .i64 d.b,.int .i64 d.k,.int .i64 d.s,.int .i64 d.p,.int .i64 d.out,.int .i8 d.za,.int .i8 d.zb,.slice W nw cw,.slice B nb cb,.int .i32 d.qm,.int .i64 d.qs,.int .i8 d.qz,.int .i32 d.rm,.int .i64 d.rs,.int .i8 d.rz,.int .i8 d.lo,.int .i8 d.hi]] w (RetT .i32 noTensor (convV t.h t.v t.c d).2 w):=by
 have HT:=zH ht
 have HD:=zH hd
 have HA:=zH ha
 have HW:=zH hw
 have HB:=zH hb
 have m1:n≤9223372036854775807:=Nat.le_trans ha.cap_le ha.max_le
 have m2:nw≤9223372036854775807:=Nat.le_trans hw.cap_le hw.max_le
 have m3:nb≤9223372036854775807:=Nat.le_trans hb.cap_le hb.max_le
 clear ht hd ha hw hb
 have SZ:=zH mw
 clear mw
 have c1':decide (0 < elems t.h t.v t.c∧elems t.h t.v t.c=n)=true:=by rw [← HA.out.n_eq];simpa [Tensor.ok] using c1
 have C1:=zH c1'
 clear c1 c1'
 obtain ⟨⟨⟨x1,x2,x3⟩,k⟩,hx⟩:∃ x,convV t.h t.v t.c d=x:=⟨_,rfl⟩
 rw [hx] at c2 ⊢
 have hk2:(k != 0)=true:=by rw [bne_iff_ne];exact c2
 have HX:=zH hx
 clear hx c2
 go_enter Tryz.func34,Tryz.ntmps34
 go_wp2_with fail
 refine (tensorRight_any t.h t.v t.c A n cap _ HT.out.h HT.out.v HT.out.c (Nat.le_trans HA.out.cap_le HA.out.max_le)).mono ?_
 rintro e w1 ⟨rfl,hb⟩
 rw [C1.out]
 have g1:=below_call (B:=w.heap.size) (a:=w) (by go_grown) hb (by simp;omega)
 have bA:=((Blk.now _ w.heap.size _ _ rfl).past _ |>.past _).later hb
 have bB:=((Blk.now _ (w.heap.size+1) _ _ (by simp)).past _).later hb
 have bC:=(Blk.now _ (w.heap.size+1+1) _ _ (by simp)).later hb
 have BA:=zH bA
 have BB:=zH bB
 have BC:=zH bC
 have cA:=fun i=>bA.cell i
 clear bA bB bC hb
 go_wp2_with (refine wpList_load_row rfl 28 (.tmp 3) rfl (w.heap.size+1) rfl _ _ (0,0) _ BB.out.heap Tryz.underlying28 rfl (by kernel_rfl) ?_)
 refine (convShape_any t.h t.v t.c d W nw cw B nb cb _ HT.out.h HT.out.v HT.out.c HD.out.out HW.out.n_eq.symm HB.out.n_eq.symm SZ.out.1 SZ.out.2).mono ?_
 rintro e w2 ⟨rfl,hb⟩
 have g2:=below_call g1 hb g1.size
 have lt1:=BC.out.lt
 have lt2:=hb.size
 have BA:=zH (BA.out.later hb)
 have BB:=zH (BB.out.later hb)
 have BC:=zH (BC.out.later hb)
 clear hb cA
 rw [HX.out]
 simp only [retS]
 have BC:=zH (BC.out.past (.cells #[.int .i64 x1,.int .i64 x2,.int .i64 x3] 30))
 have g3:Below w.heap.size w (w2.alloc (.cells #[.int .i64 x1,.int .i64 x2,.int .i64 x3] 30)):=g2.alloc g2.size _
 have fC:=fun i=>BC.out.frozen i
 have cC:=fun i=>BC.out.cell i
 have lt6:=g3.size
 go_wp2_with fail
 refine ret_cell_tmp rfl ((((BC.out.set_ 0 _).set_ 1 _).set_ 2 _).set_ 3 _) rfl Tryz.underlying41 (by kernel_rfl) rfl ?_
 exact RetT.none (by go_grown)
set_option maxHeartbeats 2000000 in
theorem depthOf_bad (t:Tensor) (A:Option Addr) (n cap:Nat) (d:Node) (W:Option Addr) (nw cw:Nat) (B:Option Addr) (nb cb:Nat) (w:World) (ht:TensorIn t) (hd:NodeIn d)
  (ha:Sl (tInt .i8) w (blo w.heap.size) A n cap t.data) (hw:Sl (tInt .i8) w (blo w.heap.size) W nw cw d.w) (hb:Sl (tInt .i32) w (blo w.heap.size) B nb cb d.bias) (c1:¬ t.ok=true) :
  Calls Tryz.prog 35 #[.agg #[.int .i64 t.h,.int .i64 t.v,.int .i64 t.c,.slice A n cap],.agg #[.int .i64 d.kind,.int .i64 d.a,.int .i64 d.b,.int .i64 d.k,.int .i64 d.s,.int .i64 d.p,.int .i64 d.out,.int .i8 d.za,.int .i8 d.zb,.slice W nw cw,.slice B nb cb,.int .i32 d.qm,.int .i64 d.qs,.int .i8 d.qz,.int .i32 d.rm,.int .i64 d.rs,.int .i8 d.rz,.int .i8 d.lo,.int .i8 d.hi]] w (RetT .i32 noTensor 5 w):=by
 have HT:=zH ht
 have HD:=zH hd
 have HA:=zH ha
 have HW:=zH hw
 have HB:=zH hb
 have m1:n≤9223372036854775807:=Nat.le_trans ha.cap_le ha.max_le
 have m2:nw≤9223372036854775807:=Nat.le_trans hw.cap_le hw.max_le
 have m3:nb≤9223372036854775807:=Nat.le_trans hb.cap_le hb.max_le
 clear ht hd ha hw hb
 have c1':decide (0 < elems t.h t.v t.c∧elems t.h t.v t.c=n)=false:=by rw [← HA.out.n_eq];simpa [Tensor.ok] using c1
 have C1:=zH c1'
 clear c1 c1'
 go_enter Tryz.func35,Tryz.ntmps35
 go_wp2_with fail
 refine (tensorRight_any t.h t.v t.c A n cap _ HT.out.h HT.out.v HT.out.c (Nat.le_trans HA.out.cap_le HA.out.max_le)).mono ?_
 rintro e w1 ⟨rfl,hb⟩
 rw [C1.out]
 have g1:=below_call (B:=w.heap.size) (a:=w) (by go_grown) hb (by simp;omega)
 have bC:=(Blk.now _ (w.heap.size+1+1) _ _ (by simp)).later hb
 have fC:=fun i=>bC.frozen i
 have cC:=fun i=>bC.cell i
 clear hb
 go_wp2_with fail
 refine ret_cell_tmp rfl ((((bC.set_ 0 _).set_ 1 _).set_ 2 _).set_ 3 _) rfl Tryz.underlying41 (by kernel_rfl) rfl ?_
 exact RetT.none (by go_grown)
set_option maxHeartbeats 2000000 in
theorem depthOf_code (t:Tensor) (A:Option Addr) (n cap:Nat) (d:Node) (W:Option Addr) (nw cw:Nat) (B:Option Addr) (nb cb:Nat) (w:World) (ht:TensorIn t) (hd:NodeIn d)
  (ha:Sl (tInt .i8) w (blo w.heap.size) A n cap t.data) (hw:Sl (tInt .i8) w (blo w.heap.size) W nw cw d.w) (hb:Sl (tInt .i32) w (blo w.heap.size) B nb cb d.bias) (mw:nw≤1048576∧nb≤1048576) (c1:t.ok=true) (c2:¬ (depthV t.h t.v t.c d).2=0) :
  Calls Tryz.prog 35 #[.agg #[.int .i64 t.h,.int .i64 t.v,.int .i64 t.c,.slice A n cap],.agg #[.int .i64 d.kind,.int .i64 d.a,.int .i64 d.b,.int .i64 d.k,.int .i64 d.s,.int .i64 d.p,.int .i64 d.out,.int .i8 d.za,.int .i8 d.zb,.slice W nw cw,.slice B nb cb,.int .i32 d.qm,.int .i64 d.qs,.int .i8 d.qz,.int .i32 d.rm,.int .i64 d.rs,.int .i8 d.rz,.int .i8 d.lo,.int .i8 d.hi]] w (RetT .i32 noTensor (depthV t.h t.v t.c d).2 w):=by
 have HT:=zH ht
 have HD:=zH hd
 have HA:=zH ha
 have HW:=zH hw
 have HB:=zH hb
 have m1:n≤9223372036854775807:=Nat.le_trans ha.cap_le ha.max_le
 have m2:nw≤9223372036854775807:=Nat.le_trans hw.cap_le hw.max_le
 have m3:nb≤9223372036854775807:=Nat.le_trans hb.cap_le hb.max_le
 clear ht hd ha hw hb
 have SZ:=zH mw
 clear mw
 have c1':decide (0 < elems t.h t.v t.c∧elems t.h t.v t.c=n)=true:=by rw [← HA.out.n_eq];simpa [Tensor.ok] using c1
 have C1:=zH c1'
 clear c1 c1'
 obtain ⟨⟨⟨x1,x2,x3⟩,k⟩,hx⟩:∃ x,depthV t.h t.v t.c d=x:=⟨_,rfl⟩
 rw [hx] at c2 ⊢
 have hk2:(k != 0)=true:=by rw [bne_iff_ne];exact c2
 have HX:=zH hx
 clear hx c2
 go_enter Tryz.func35,Tryz.ntmps35
 go_wp2_with fail
 refine (tensorRight_any t.h t.v t.c A n cap _ HT.out.h HT.out.v HT.out.c (Nat.le_trans HA.out.cap_le HA.out.max_le)).mono ?_
 rintro e w1 ⟨rfl,hb⟩
 rw [C1.out]
 have g1:=below_call (B:=w.heap.size) (a:=w) (by go_grown) hb (by simp;omega)
 have bA:=((Blk.now _ w.heap.size _ _ rfl).past _ |>.past _).later hb
 have bB:=((Blk.now _ (w.heap.size+1) _ _ (by simp)).past _).later hb
 have bC:=(Blk.now _ (w.heap.size+1+1) _ _ (by simp)).later hb
 have BA:=zH bA
 have BB:=zH bB
 have BC:=zH bC
 have cA:=fun i=>bA.cell i
 clear bA bB bC hb
 go_wp2_with (refine wpList_load_row rfl 28 (.tmp 3) rfl (w.heap.size+1) rfl _ _ (0,0) _ BB.out.heap Tryz.underlying28 rfl (by kernel_rfl) ?_)
 refine (depthShape_any t.h t.v t.c d W nw cw B nb cb _ HT.out.h HT.out.v HT.out.c HD.out.out HW.out.n_eq.symm HB.out.n_eq.symm SZ.out.1 SZ.out.2).mono ?_
 rintro e w2 ⟨rfl,hb⟩
 have g2:=below_call g1 hb g1.size
 have lt1:=BC.out.lt
 have lt2:=hb.size
 have BA:=zH (BA.out.later hb)
 have BB:=zH (BB.out.later hb)
 have BC:=zH (BC.out.later hb)
 clear hb cA
 rw [HX.out]
 simp only [retS]
 have BC:=zH (BC.out.past (.cells #[.int .i64 x1,.int .i64 x2,.int .i64 x3] 30))
 have g3:Below w.heap.size w (w2.alloc (.cells #[.int .i64 x1,.int .i64 x2,.int .i64 x3] 30)):=g2.alloc g2.size _
 have fC:=fun i=>BC.out.frozen i
 have cC:=fun i=>BC.out.cell i
 have lt6:=g3.size
 go_wp2_with fail
 refine ret_cell_tmp rfl ((((BC.out.set_ 0 _).set_ 1 _).set_ 2 _).set_ 3 _) rfl Tryz.underlying41 (by kernel_rfl) rfl ?_
 exact RetT.none (by go_grown)
end Go.Proofs.YtlbkekabmpienaaGreat
namespace Go.Proofs.YtlbkekabmpienaaGreat
set_option linter.unusedVariables false
set_option linter.unusedSimpArgs false
open Go.RowKit Go.ChangeShapes Go.WideShapes Fx
set_option maxRecDepth 100000
set_option maxHeartbeats 4000000
theorem slide_one {H V C:Nat} {d:Node} {o:Int} {Ho Wo Co:Nat} (h:slideV H V C d.k d.s d.p o=(((Ho:Int),(Wo:Int),(Co:Int)),0)):slideV H V C d.k d.s d.p 1=(((Ho:Int),(Wo:Int),1),0):=by
 obtain ⟨K,S,P,Ho',Wo',Co',WK,e1,e2,e3,e4,-⟩:=slide_nat h
 obtain rfl:Ho=Ho':=by omega
 obtain rfl:Wo=Wo':=by omega
 unfold slideV at h ⊢
 by_cases c1:elems H V C=0
 ·rw [if_pos c1] at h;cases (Prod.mk.inj h).2
 rw [if_neg c1] at h ⊢
 by_cases c2:(stepsV H d.k d.s d.p).2 ≠ 0
 ·rw [if_pos c2] at h;exact absurd (Prod.mk.inj h).2 c2
 rw [if_neg c2] at h ⊢
 by_cases c3:(stepsV V d.k d.s d.p).2 ≠ 0
 ·rw [if_pos c3] at h;exact absurd (Prod.mk.inj h).2 c3
 rw [if_neg c3] at h ⊢
 by_cases c4:elems (stepsV H d.k d.s d.p).1 (stepsV V d.k d.s d.p).1 o=0
 ·rw [if_pos c4] at h;cases (Prod.mk.inj h).2
 rw [if_neg c4] at h
 have h':=(Prod.mk.inj h).1
 have f1:=(Prod.mk.inj h').1
 have f2:=(Prod.mk.inj (Prod.mk.inj h').2).1
 rw [f1,f2]
 have e:elems (Ho:Int) (Wo:Int) 1=((Ho*Wo:Nat):Int):=by
  have a:=WK.ho1
  have b:=WK.wo1
  have:Ho*Wo≤256:=Nat.mul_le_mul a.2 b.2
  rw [elems_iff,if_pos ⟨by omega,by omega,by omega,by omega,by omega,by omega,by rw [Int.mul_one,← Int.natCast_mul];omega⟩,Int.mul_one,← Int.natCast_mul]
 have hp:0 < Ho*Wo:=Nat.mul_pos (by have:=WK.ho1;omega) (by have:=WK.wo1;omega)
 rw [e,if_neg (by omega)]
theorem over_any (H V C:Nat) (d:Node) (W:Option Addr) (nw cw:Nat) (B:Option Addr) (nb cb:Nat) (Ho Wo:Nat) (w:World) (h1:H≤16) (v1:V≤16) (c1:C≤1024) (hs:slideV H V C d.k d.s d.p 1=(((Ho:Int),(Wo:Int),1),0)) :
  Calls Tryz.prog 115 #[.agg #[.int .i64 H,.int .i64 V,.int .i64 C],.agg #[.int .i64 d.kind,.int .i64 d.a,.int .i64 d.b,.int .i64 d.k,.int .i64 d.s,.int .i64 d.p,.int .i64 d.out,.int .i8 d.za,.int .i8 d.zb,.slice W nw cw,.slice B nb cb,.int .i32 d.qm,.int .i64 d.qs,.int .i8 d.qz,.int .i32 d.rm,.int .i64 d.rs,.int .i8 d.rz,.int .i8 d.lo,.int .i8 d.hi]] w fun e w'=>e=.returned (.tuple #[.agg #[.int .i64 H,.int .i64 V,.int .i64 C,.int .i64 d.kind,.int .i64 d.a,.int .i64 d.b,.int .i64 d.k,.int .i64 d.s,.int .i64 d.p,.int .i64 d.out,.int .i8 d.za,.int .i8 d.zb,.slice W nw cw,.slice B nb cb,.int .i32 d.qm,.int .i64 d.qs,.int .i8 d.qz,.int .i32 d.rm,.int .i64 d.rs,.int .i8 d.rz,.int .i8 d.lo,.int .i8 d.hi,.int .i64 Ho,.int .i64 Wo,.int .i64 1],.int .i64 0])∧Below w.heap.size w w':=by
 have SD:=zH (fun w=>slide_any (H:Int) V C d.k d.s d.p 1 w (by rw [inK_i64];omega) (by rw [inK_i64];omega) (by rw [inK_i64];omega) (by decide))
 rw [hs] at SD
 simp only [retS] at SD
 have FR:=zH (Far.refl w)
 obtain ⟨w1,hw_w1,BS,k_w1⟩:=nB w #[.int .i64 H,.int .i64 V,.int .i64 C] 30
 replace FR:=zH (FR.out.fut k_w1)
 clear k_w1
 obtain ⟨w2,hw_w2,BN,k_w2⟩:=nB w1 #[.int .i64 d.kind,.int .i64 d.a,.int .i64 d.b,.int .i64 d.k,.int .i64 d.s,.int .i64 d.p,.int .i64 d.out,.int .i8 d.za,.int .i8 d.zb,.slice W nw cw,.slice B nb cb,.int .i32 d.qm,.int .i64 d.qs,.int .i8 d.qz,.int .i32 d.rm,.int .i64 d.rs,.int .i8 d.rz,.int .i8 d.lo,.int .i8 d.hi] 28
 replace FR:=zH (FR.out.fut k_w2)
 replace BS:=zH (BS.out.fut k_w2)
 clear k_w2
 obtain ⟨w3,hw_w3,BR,k_w3⟩:=nB w2 #[.int .i64 0,.int .i64 0,.int .i64 0,Value.int .i64 0,Value.int .i64 0,Value.int .i64 0,Value.int .i64 0,Value.int .i64 0,Value.int .i64 0,Value.int .i64 0,Value.int .i8 0,Value.int .i8 0,Value.slice none 0 0,Value.slice none 0 0,Value.int .i32 0,Value.int .i64 0,Value.int .i8 0,Value.int .i32 0,Value.int .i64 0,Value.int .i8 0,Value.int .i8 0,Value.int .i8 0,.int .i64 0,.int .i64 0,.int .i64 0] 147
 replace FR:=zH (FR.out.fut k_w3)
 replace BS:=zH (BS.out.fut k_w3)
 replace BN:=zH (BN.out.fut k_w3)
 clear k_w3
 have l1:w.heap.size < w1.heap.size:=by rw [← hw_w1];simp
 have l2:w1.heap.size < w2.heap.size:=by rw [← hw_w2];simp
 have n3:=BN.out.cell 3
 have n4:=BN.out.cell 4
 have n5:=BN.out.cell 5
 simp only [gX] at n3 n4 n5
 clear hs
 go_enter Tryz.func115,Tryz.ntmps115
 go_wp2_with (first|(refine lB 30 (.tmp 2) w.heap.size BS.out Tryz.underlying30 ?_)|(go_at_call 93;refine (SD.out _).mono ?_;rintro e w4 ⟨rfl,hb⟩;replace FR:=zH (FR.out.fut hb);replace BS:=zH (BS.out.fut hb);replace BN:=zH (BN.out.fut hb);replace BR:=zH (BR.out.fut hb);have l4:=hb.size;clear hb n3 n4 n5 hw_w1 hw_w2 hw_w3;obtain ⟨w5,hw_w5⟩:∃ x,w4.alloc (.cells #[.int .i64 Ho,.int .i64 Wo,.int .i64 1] 30)=x:=⟨_,rfl⟩;have hb:Below w4.heap.size w4 w5:=(by rw [← hw_w5];exact (Below.refl _ _).alloc (Nat.le_refl _) _);have BM:=zH (show Blk w5 w4.heap.size 30 #[.int .i64 Ho,.int .i64 Wo,.int .i64 1] by rw [← hw_w5];exact Blk.now _ _ _ _ rfl);replace FR:=zH (FR.out.fut hb);replace BS:=zH (BS.out.fut hb);replace BN:=zH (BN.out.fut hb);replace BR:=zH (BR.out.fut hb);clear hb)|(refine lB 28 (.tmp 3) w1.heap.size BN.out Tryz.underlying28 ?_)|(refine lB 30 (.tmp 6) w4.heap.size BM.out Tryz.underlying30 ?_)|(refine sB 147 (.tmp 4) (.tmp 22) w2.heap.size #[.int .i64 H,.int .i64 V,.int .i64 C,.int .i64 d.kind,.int .i64 d.a,.int .i64 d.b,.int .i64 d.k,.int .i64 d.s,.int .i64 d.p,.int .i64 d.out,.int .i8 d.za,.int .i8 d.zb,.slice W nw cw,.slice B nb cb,.int .i32 d.qm,.int .i64 d.qs,.int .i8 d.qz,.int .i32 d.rm,.int .i64 d.rs,.int .i8 d.rz,.int .i8 d.lo,.int .i8 d.hi,.int .i64 Ho,.int .i64 Wo,.int .i64 1] BR.out ?_;intro w9 B9 g9))
 refine ret_cell_tmp rfl B9 rfl Tryz.underlying147 (by show _=some 25;kernel_rfl) rfl ?_
 exact ⟨rfl,(FR.out.away g9 (by omega)).out⟩
end Go.Proofs.YtlbkekabmpienaaGreat
