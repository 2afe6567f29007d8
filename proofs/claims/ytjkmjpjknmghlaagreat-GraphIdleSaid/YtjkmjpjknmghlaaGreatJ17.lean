/-
  The sums of convolutions (layers 16, 14, 17) and the document's: the ways out with an error.
-/
import Derived.Test.YtjkmjpjknmghlaaGreatJ16
import Derived.Test.YtjkmjpjknmghlaaGreatJ11
import Derived.Test.YtjkmjpjknmghlaaGreatJ12
set_option linter.unusedVariables false
set_option linter.unusedSimpArgs false
namespace Go.Proofs.YtjkmjpjknmghlaaGreat
open Go.RowKit Go.ChangeShapes Go.WideShapes
set_option maxRecDepth 100000
set_option maxHeartbeats 2000000 in
theorem laneOf_bad (t:Tensor) (A:Option Addr) (n cap:Nat) (d:Node) (W:Option Addr) (nw cw:Nat) (B:Option Addr) (nb cb:Nat) (w:World) (ht:TensorIn t) (hd:NodeIn d)
  (ha:Sl (tInt .i8) w (blo w.heap.size) A n cap t.data) (hw:Sl (tInt .i8) w (blo w.heap.size) W nw cw d.w) (hb:Sl (tInt .i32) w (blo w.heap.size) B nb cb d.bias) (c1:¬ t.ok=true) :
  Calls Tryz.prog 120 #[.agg #[.int .i64 t.h,.int .i64 t.v,.int .i64 t.c,.slice A n cap],.agg (nN d.kind d.a d.b d.k d.s d.p d.out d.za d.zb W nw cw B nb cb d.qm d.qs d.qz d.rm d.rs d.rz d.lo d.hi)] w (RetT .i32 noTensor 5 w):=by
 have HT:=zH ht
 have HD:=zH hd
 have HA:=zH ha
 have HW:=zH hw
 have HB:=zH hb
 have m1:n≤9223372036854775807:=Nat.le_trans ha.cap_le ha.max_le
 have m2:nw≤9223372036854775807:=Nat.le_trans hw.cap_le hw.max_le
 have m3:nb≤9223372036854775807:=Nat.le_trans hb.cap_le hb.max_le
 clear ht hd ha hw hb
 have c1':decide (0 < elems t.h t.v t.c∧elems t.h t.v t.c=n)=false:=by rw [← HA.out.n_eq];simpa [Tensor.ok] using c1
 have C1:=zH c1'
 clear c1 c1'
 go_enter Tryz.func120,Tryz.ntmps120
 go_wp2_with fail
 refine (tensorRight_any t.h t.v t.c A n cap _ HT.out.h HT.out.v HT.out.c (Nat.le_trans HA.out.cap_le HA.out.max_le)).mono ?_
 rintro e w1 ⟨rfl,hb⟩
 rw [C1.out]
 have g1:=below_call (B:=w.heap.size) (a:=w) (by go_grown) hb (by simp;omega)
 have bC:=(Blk.now _ (w.heap.size+1+1) _ _ (by simp)).later hb
 have fC:=fun i=>bC.frozen i
 have cC:=fun i=>bC.cell i
 clear hb
 go_wp2_with fail
 refine ret_cell_tmp rfl ((((bC.set_ 0 _).set_ 1 _).set_ 2 _).set_ 3 _) rfl Tryz.underlying78 (by kernel_rfl) rfl ?_
 exact RetT.none (by go_grown)
set_option maxHeartbeats 2000000 in
theorem laneOf_code (t:Tensor) (A:Option Addr) (n cap:Nat) (d:Node) (W:Option Addr) (nw cw:Nat) (B:Option Addr) (nb cb:Nat) (w:World) (ht:TensorIn t) (hd:NodeIn d)
  (ha:Sl (tInt .i8) w (blo w.heap.size) A n cap t.data) (hw:Sl (tInt .i8) w (blo w.heap.size) W nw cw d.w) (hb:Sl (tInt .i32) w (blo w.heap.size) B nb cb d.bias) (mw:nw≤1048576∧nb≤1048576) (c1:t.ok=true) (c2:¬ (convV t.h t.v t.c d).2=0) :
  Calls Tryz.prog 120 #[.agg #[.int .i64 t.h,.int .i64 t.v,.int .i64 t.c,.slice A n cap],.agg (nN d.kind d.a d.b d.k d.s d.p d.out d.za d.zb W nw cw B nb cb d.qm d.qs d.qz d.rm d.rs d.rz d.lo d.hi)] w (RetT .i32 noTensor (convV t.h t.v t.c d).2 w):=by
 have HT:=zH ht
 have HD:=zH hd
 have HA:=zH ha
 have HW:=zH hw
 have HB:=zH hb
 have m1:n≤9223372036854775807:=Nat.le_trans ha.cap_le ha.max_le
 have m2:nw≤9223372036854775807:=Nat.le_trans hw.cap_le hw.max_le
 have m3:nb≤9223372036854775807:=Nat.le_trans hb.cap_le hb.max_le
 clear ht hd ha hw hb
 have SZ:=zH mw
 clear mw
 have c1':decide (0 < elems t.h t.v t.c∧elems t.h t.v t.c=n)=true:=by rw [← HA.out.n_eq];simpa [Tensor.ok] using c1
 have C1:=zH c1'
 clear c1 c1'
 obtain ⟨⟨⟨x1,x2,x3⟩,k⟩,hx⟩:∃ x,convV t.h t.v t.c d=x:=⟨_,rfl⟩
 rw [hx] at c2 ⊢
 have hk2:(k != 0)=true:=by rw [bne_iff_ne];exact c2
 have HX:=zH hx
 clear hx c2
 go_enter Tryz.func120,Tryz.ntmps120
 go_wp2_with fail
 refine (tensorRight_any t.h t.v t.c A n cap _ HT.out.h HT.out.v HT.out.c (Nat.le_trans HA.out.cap_le HA.out.max_le)).mono ?_
 rintro e w1 ⟨rfl,hb⟩
 rw [C1.out]
 have g1:=below_call (B:=w.heap.size) (a:=w) (by go_grown) hb (by simp;omega)
 have bA:=((Blk.now _ w.heap.size _ _ rfl).past _ |>.past _).later hb
 have bB:=((Blk.now _ (w.heap.size+1) _ _ (by simp)).past _).later hb
 have bC:=(Blk.now _ (w.heap.size+1+1) _ _ (by simp)).later hb
 have BA:=zH bA
 have BB:=zH bB
 have BC:=zH bC
 have cA:=fun i=>bA.cell i
 clear bA bB bC hb
 go_wp2_with (refine wpList_load_row rfl 44 (.tmp 3) rfl (w.heap.size+1) rfl _ _ (0,0) _ BB.out.heap Tryz.underlying44 rfl (by kernel_rfl) ?_)
 refine (convShape_any t.h t.v t.c d W nw cw B nb cb _ HT.out.h HT.out.v HT.out.c HD.out.out HW.out.n_eq.symm HB.out.n_eq.symm SZ.out.1 SZ.out.2).mono ?_
 rintro e w2 ⟨rfl,hb⟩
 have g2:=below_call g1 hb g1.size
 have lt1:=BC.out.lt
 have lt2:=hb.size
 have BA:=zH (BA.out.later hb)
 have BB:=zH (BB.out.later hb)
 have BC:=zH (BC.out.later hb)
 clear hb cA
 rw [HX.out]
 simp only [retS]
 have BC:=zH (BC.out.past (.cells #[.int .i64 x1,.int .i64 x2,.int .i64 x3] 24))
 have g3:Below w.heap.size w (w2.alloc (.cells #[.int .i64 x1,.int .i64 x2,.int .i64 x3] 24)):=g2.alloc g2.size _
 have fC:=fun i=>BC.out.frozen i
 have cC:=fun i=>BC.out.cell i
 have lt6:=g3.size
 go_wp2_with fail
 refine ret_cell_tmp rfl ((((BC.out.set_ 0 _).set_ 1 _).set_ 2 _).set_ 3 _) rfl Tryz.underlying78 (by kernel_rfl) rfl ?_
 exact RetT.none (by go_grown)
set_option maxHeartbeats 2000000 in
theorem lowerOf_bad (t:Tensor) (A:Option Addr) (n cap:Nat) (d:Node) (W:Option Addr) (nw cw:Nat) (B:Option Addr) (nb cb:Nat) (w:World) (ht:TensorIn t) (hd:NodeIn d)
  (ha:Sl (tInt .i8) w (blo w.heap.size) A n cap t.data) (hw:Sl (tInt .i8) w (blo w.heap.size) W nw cw d.w) (hb:Sl (tInt .i32) w (blo w.heap.size) B nb cb d.bias) (c1:¬ t.ok=true) :
  Calls Tryz.prog 121 #[.agg #[.int .i64 t.h,.int .i64 t.v,.int .i64 t.c,.slice A n cap],.agg (nN d.kind d.a d.b d.k d.s d.p d.out d.za d.zb W nw cw B nb cb d.qm d.qs d.qz d.rm d.rs d.rz d.lo d.hi)] w (RetT .i32 noTensor 5 w):=by
 have HT:=zH ht
 have HD:=zH hd
 have HA:=zH ha
 have HW:=zH hw
 have HB:=zH hb
 have m1:n≤9223372036854775807:=Nat.le_trans ha.cap_le ha.max_le
 have m2:nw≤9223372036854775807:=Nat.le_trans hw.cap_le hw.max_le
 have m3:nb≤9223372036854775807:=Nat.le_trans hb.cap_le hb.max_le
 clear ht hd ha hw hb
 have c1':decide (0 < elems t.h t.v t.c∧elems t.h t.v t.c=n)=false:=by rw [← HA.out.n_eq];simpa [Tensor.ok] using c1
 have C1:=zH c1'
 clear c1 c1'
 go_enter Tryz.func121,Tryz.ntmps121
 go_wp2_with fail
 refine (tensorRight_any t.h t.v t.c A n cap _ HT.out.h HT.out.v HT.out.c (Nat.le_trans HA.out.cap_le HA.out.max_le)).mono ?_
 rintro e w1 ⟨rfl,hb⟩
 rw [C1.out]
 have g1:=below_call (B:=w.heap.size) (a:=w) (by go_grown) hb (by simp;omega)
 have bC:=(Blk.now _ (w.heap.size+1+1) _ _ (by simp)).later hb
 have fC:=fun i=>bC.frozen i
 have cC:=fun i=>bC.cell i
 clear hb
 go_wp2_with fail
 refine ret_cell_tmp rfl ((((bC.set_ 0 _).set_ 1 _).set_ 2 _).set_ 3 _) rfl Tryz.underlying78 (by kernel_rfl) rfl ?_
 exact RetT.none (by go_grown)
set_option maxHeartbeats 2000000 in
theorem lowerOf_code (t:Tensor) (A:Option Addr) (n cap:Nat) (d:Node) (W:Option Addr) (nw cw:Nat) (B:Option Addr) (nb cb:Nat) (w:World) (ht:TensorIn t) (hd:NodeIn d)
  (ha:Sl (tInt .i8) w (blo w.heap.size) A n cap t.data) (hw:Sl (tInt .i8) w (blo w.heap.size) W nw cw d.w) (hb:Sl (tInt .i32) w (blo w.heap.size) B nb cb d.bias) (mw:nw≤1048576∧nb≤1048576) (c1:t.ok=true) (c2:¬ (convV t.h t.v t.c d).2=0) :
  Calls Tryz.prog 121 #[.agg #[.int .i64 t.h,.int .i64 t.v,.int .i64 t.c,.slice A n cap],.agg (nN d.kind d.a d.b d.k d.s d.p d.out d.za d.zb W nw cw B nb cb d.qm d.qs d.qz d.rm d.rs d.rz d.lo d.hi)] w (RetT .i32 noTensor (convV t.h t.v t.c d).2 w):=by
 have HT:=zH ht
 have HD:=zH hd
 have HA:=zH ha
 have HW:=zH hw
 have HB:=zH hb
 have m1:n≤9223372036854775807:=Nat.le_trans ha.cap_le ha.max_le
 have m2:nw≤9223372036854775807:=Nat.le_trans hw.cap_le hw.max_le
 have m3:nb≤9223372036854775807:=Nat.le_trans hb.cap_le hb.max_le
 clear ht hd ha hw hb
 have SZ:=zH mw
 clear mw
 have c1':decide (0 < elems t.h t.v t.c∧elems t.h t.v t.c=n)=true:=by rw [← HA.out.n_eq];simpa [Tensor.ok] using c1
 have C1:=zH c1'
 clear c1 c1'
 obtain ⟨⟨⟨x1,x2,x3⟩,k⟩,hx⟩:∃ x,convV t.h t.v t.c d=x:=⟨_,rfl⟩
 rw [hx] at c2 ⊢
 have hk2:(k != 0)=true:=by rw [bne_iff_ne];exact c2
 have HX:=zH hx
 clear hx c2
 go_enter Tryz.func121,Tryz.ntmps121
 go_wp2_with fail
 refine (tensorRight_any t.h t.v t.c A n cap _ HT.out.h HT.out.v HT.out.c (Nat.le_trans HA.out.cap_le HA.out.max_le)).mono ?_
 rintro e w1 ⟨rfl,hb⟩
 rw [C1.out]
 have g1:=below_call (B:=w.heap.size) (a:=w) (by go_grown) hb (by simp;omega)
 have bA:=((Blk.now _ w.heap.size _ _ rfl).past _ |>.past _).later hb
 have bB:=((Blk.now _ (w.heap.size+1) _ _ (by simp)).past _).later hb
 have bC:=(Blk.now _ (w.heap.size+1+1) _ _ (by simp)).later hb
 have BA:=zH bA
 have BB:=zH bB
 have BC:=zH bC
 have cA:=fun i=>bA.cell i
 clear bA bB bC hb
 go_wp2_with (refine wpList_load_row rfl 44 (.tmp 3) rfl (w.heap.size+1) rfl _ _ (0,0) _ BB.out.heap Tryz.underlying44 rfl (by kernel_rfl) ?_)
 refine (convShape_any t.h t.v t.c d W nw cw B nb cb _ HT.out.h HT.out.v HT.out.c HD.out.out HW.out.n_eq.symm HB.out.n_eq.symm SZ.out.1 SZ.out.2).mono ?_
 rintro e w2 ⟨rfl,hb⟩
 have g2:=below_call g1 hb g1.size
 have lt1:=BC.out.lt
 have lt2:=hb.size
 have BA:=zH (BA.out.later hb)
 have BB:=zH (BB.out.later hb)
 have BC:=zH (BC.out.later hb)
 clear hb cA
 rw [HX.out]
 simp only [retS]
 have BC:=zH (BC.out.past (.cells #[.int .i64 x1,.int .i64 x2,.int .i64 x3] 24))
 have g3:Below w.heap.size w (w2.alloc (.cells #[.int .i64 x1,.int .i64 x2,.int .i64 x3] 24)):=g2.alloc g2.size _
 have fC:=fun i=>BC.out.frozen i
 have cC:=fun i=>BC.out.cell i
 have lt6:=g3.size
 go_wp2_with fail
 refine ret_cell_tmp rfl ((((BC.out.set_ 0 _).set_ 1 _).set_ 2 _).set_ 3 _) rfl Tryz.underlying78 (by kernel_rfl) rfl ?_
 exact RetT.none (by go_grown)
set_option maxHeartbeats 2000000 in
theorem depthOf_bad (t:Tensor) (A:Option Addr) (n cap:Nat) (d:Node) (W:Option Addr) (nw cw:Nat) (B:Option Addr) (nb cb:Nat) (w:World) (ht:TensorIn t) (hd:NodeIn d)
  (ha:Sl (tInt .i8) w (blo w.heap.size) A n cap t.data) (hw:Sl (tInt .i8) w (blo w.heap.size) W nw cw d.w) (hb:Sl (tInt .i32) w (blo w.heap.size) B nb cb d.bias) (c1:¬ t.ok=true) :
  Calls Tryz.prog 122 #[.agg #[.int .i64 t.h,.int .i64 t.v,.int .i64 t.c,.slice A n cap],.agg (nN d.kind d.a d.b d.k d.s d.p d.out d.za d.zb W nw cw B nb cb d.qm d.qs d.qz d.rm d.rs d.rz d.lo d.hi)] w (RetT .i32 noTensor 5 w):=by
 have HT:=zH ht
 have HD:=zH hd
 have HA:=zH ha
 have HW:=zH hw
 have HB:=zH hb
 have m1:n≤9223372036854775807:=Nat.le_trans ha.cap_le ha.max_le
 have m2:nw≤9223372036854775807:=Nat.le_trans hw.cap_le hw.max_le
 have m3:nb≤9223372036854775807:=Nat.le_trans hb.cap_le hb.max_le
 clear ht hd ha hw hb
 have c1':decide (0 < elems t.h t.v t.c∧elems t.h t.v t.c=n)=false:=by rw [← HA.out.n_eq];simpa [Tensor.ok] using c1
 have C1:=zH c1'
 clear c1 c1'
 go_enter Tryz.func122,Tryz.ntmps122
 go_wp2_with fail
 refine (tensorRight_any t.h t.v t.c A n cap _ HT.out.h HT.out.v HT.out.c (Nat.le_trans HA.out.cap_le HA.out.max_le)).mono ?_
 rintro e w1 ⟨rfl,hb⟩
 rw [C1.out]
 have g1:=below_call (B:=w.heap.size) (a:=w) (by go_grown) hb (by simp;omega)
 have bC:=(Blk.now _ (w.heap.size+1+1) _ _ (by simp)).later hb
 have fC:=fun i=>bC.frozen i
 have cC:=fun i=>bC.cell i
 clear hb
 go_wp2_with fail
 refine ret_cell_tmp rfl ((((bC.set_ 0 _).set_ 1 _).set_ 2 _).set_ 3 _) rfl Tryz.underlying78 (by kernel_rfl) rfl ?_
 exact RetT.none (by go_grown)
set_option maxHeartbeats 2000000 in
theorem depthOf_code (t:Tensor) (A:Option Addr) (n cap:Nat) (d:Node) (W:Option Addr) (nw cw:Nat) (B:Option Addr) (nb cb:Nat) (w:World) (ht:TensorIn t) (hd:NodeIn d)
  (ha:Sl (tInt .i8) w (blo w.heap.size) A n cap t.data) (hw:Sl (tInt .i8) w (blo w.heap.size) W nw cw d.w) (hb:Sl (tInt .i32) w (blo w.heap.size) B nb cb d.bias) (mw:nw≤1048576∧nb≤1048576) (c1:t.ok=true) (c2:¬ (depthV t.h t.v t.c d).2=0) :
  Calls Tryz.prog 122 #[.agg #[.int .i64 t.h,.int .i64 t.v,.int .i64 t.c,.slice A n cap],.agg (nN d.kind d.a d.b d.k d.s d.p d.out d.za d.zb W nw cw B nb cb d.qm d.qs d.qz d.rm d.rs d.rz d.lo d.hi)] w (RetT .i32 noTensor (depthV t.h t.v t.c d).2 w):=by
 have HT:=zH ht
 have HD:=zH hd
 have HA:=zH ha
 have HW:=zH hw
 have HB:=zH hb
 have m1:n≤9223372036854775807:=Nat.le_trans ha.cap_le ha.max_le
 have m2:nw≤9223372036854775807:=Nat.le_trans hw.cap_le hw.max_le
 have m3:nb≤9223372036854775807:=Nat.le_trans hb.cap_le hb.max_le
 clear ht hd ha hw hb
 have SZ:=zH mw
 clear mw
 have c1':decide (0 < elems t.h t.v t.c∧elems t.h t.v t.c=n)=true:=by rw [← HA.out.n_eq];simpa [Tensor.ok] using c1
 have C1:=zH c1'
 clear c1 c1'
 obtain ⟨⟨⟨x1,x2,x3⟩,k⟩,hx⟩:∃ x,depthV t.h t.v t.c d=x:=⟨_,rfl⟩
 rw [hx] at c2 ⊢
 have hk2:(k != 0)=true:=by rw [bne_iff_ne];exact c2
 have HX:=zH hx
 clear hx c2
 go_enter Tryz.func122,Tryz.ntmps122
 go_wp2_with fail
 refine (tensorRight_any t.h t.v t.c A n cap _ HT.out.h HT.out.v HT.out.c (Nat.le_trans HA.out.cap_le HA.out.max_le)).mono ?_
 rintro e w1 ⟨rfl,hb⟩
 rw [C1.out]
 have g1:=below_call (B:=w.heap.size) (a:=w) (by go_grown) hb (by simp;omega)
 have bA:=((Blk.now _ w.heap.size _ _ rfl).past _ |>.past _).later hb
 have bB:=((Blk.now _ (w.heap.size+1) _ _ (by simp)).past _).later hb
 have bC:=(Blk.now _ (w.heap.size+1+1) _ _ (by simp)).later hb
 have BA:=zH bA
 have BB:=zH bB
 have BC:=zH bC
 have cA:=fun i=>bA.cell i
 clear bA bB bC hb
 go_wp2_with (refine wpList_load_row rfl 44 (.tmp 3) rfl (w.heap.size+1) rfl _ _ (0,0) _ BB.out.heap Tryz.underlying44 rfl (by kernel_rfl) ?_)
 refine (depthShape_any t.h t.v t.c d W nw cw B nb cb _ HT.out.h HT.out.v HT.out.c HD.out.out HW.out.n_eq.symm HB.out.n_eq.symm SZ.out.1 SZ.out.2).mono ?_
 rintro e w2 ⟨rfl,hb⟩
 have g2:=below_call g1 hb g1.size
 have lt1:=BC.out.lt
 have lt2:=hb.size
 have BA:=zH (BA.out.later hb)
 have BB:=zH (BB.out.later hb)
 have BC:=zH (BC.out.later hb)
 clear hb cA
 rw [HX.out]
 simp only [retS]
 have BC:=zH (BC.out.past (.cells #[.int .i64 x1,.int .i64 x2,.int .i64 x3] 24))
 have g3:Below w.heap.size w (w2.alloc (.cells #[.int .i64 x1,.int .i64 x2,.int .i64 x3] 24)):=g2.alloc g2.size _
 have fC:=fun i=>BC.out.frozen i
 have cC:=fun i=>BC.out.cell i
 have lt6:=g3.size
 go_wp2_with fail
 refine ret_cell_tmp rfl ((((BC.out.set_ 0 _).set_ 1 _).set_ 2 _).set_ 3 _) rfl Tryz.underlying78 (by kernel_rfl) rfl ?_
 exact RetT.none (by go_grown)
end Go.Proofs.YtjkmjpjknmghlaaGreat
