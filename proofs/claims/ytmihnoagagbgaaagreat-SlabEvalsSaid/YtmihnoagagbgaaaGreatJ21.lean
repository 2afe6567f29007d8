/-
  The sums of convolutions (layers 16, 14, 17) and the document's: the ways out with an error.
  The numbers in a window of one channel (layer 19, the document's Window).
-/
import Derived.Test.YtmihnoagagbgaaaGreatJ10
import Derived.Test.YtmihnoagagbgaaaGreatJ20
import Derived.Test.YtmihnoagagbgaaaGreatJ19
set_option linter.unusedVariables false
set_option linter.unusedSimpArgs false
set_option maxRecDepth 100000
set_option maxHeartbeats 16000000
namespace Go.Proofs.YtmihnoagagbgaaaGreat
open Go.RowKit Go.ChangeShapes Go.WideShapes Tryz
set_option maxRecDepth 100000
set_option maxHeartbeats 16000000
theorem pw (t:ae) (A:QA) (n cap:Nat) (d:af) (W:QA) (nw cw:Nat) (B:QA) (nb cb:Nat) (w:World) (ht:ak t) (hd:aE d)
  (ha:xA w A n cap t.data) (hw:xA w W nw cw d.w) (hb:xB w B nb cb d.bias) (c1:¬ t.ok=true) :
  Calls prog 129 #[.agg (tN t.h t.v t.c A n cap),.agg (nD d W nw cw B nb cb)] w (ar .i32 aj 5 w):=by
 have HT:=zH ht
 have HD:=zH hd
 have HA:=zH ha
 have HW:=zH hw
 have HB:=zH hb
 have m1:n≤9223372036854775807:=lT ha.cap_le ha.max_le
 have m2:nw≤9223372036854775807:=lT hw.cap_le hw.max_le
 have m3:nb≤9223372036854775807:=lT hb.cap_le hb.max_le
 clear ht hd ha hw hb
 have c1':decide (0 < ab t.h t.v t.c∧ab t.h t.v t.c=n)=false:=by rw [← HA.o.n_eq];simpa [ae.ok] using c1
 have C1:=zH c1'
 clear c1 c1'
 go_in
 go_wp2_with fail
 refine qM (av t.h t.v t.c A n cap _ HT.o.h HT.o.v HT.o.c (lT HA.o.cap_le HA.o.max_le)) fun w1 hb=>?_
 rw [C1.o]
 have g1:=ai (B:=w.heap.size) (a:=w) (by go_grown) hb (by simp;omega)
 have bC:=(Blk.now _ (w.heap.size+1+1) _ _ sM).later hb
 have fC:=fun i=>bC.frozen i
 have cC:=fun i=>bC.cell i
 clear hb
 go_wp2_with fail
 refine ret_cell_tmp rfl ((((bC.set_ 0 _).set_ 1 _).set_ 2 _).set_ 3 _) rfl underlying80 kM rfl ?_
 exact ar.none (by go_grown)
theorem nE (t:ae) (A:QA) (n cap:Nat) (d:af) (W:QA) (nw cw:Nat) (B:QA) (nb cb:Nat) (w:World) (ht:ak t) (hd:aE d)
  (ha:xA w A n cap t.data) (hw:xA w W nw cw d.w) (hb:xB w B nb cb d.bias) (mw:nw≤1048576∧nb≤1048576) (c1:t.ok=true) (c2:¬ (aN t.h t.v t.c d).2=0) :
  Calls prog 129 #[.agg (tN t.h t.v t.c A n cap),.agg (nD d W nw cw B nb cb)] w (ar .i32 aj (aN t.h t.v t.c d).2 w):=by
 have HT:=zH ht
 have HD:=zH hd
 have HA:=zH ha
 have HW:=zH hw
 have HB:=zH hb
 have m1:n≤9223372036854775807:=lT ha.cap_le ha.max_le
 have m2:nw≤9223372036854775807:=lT hw.cap_le hw.max_le
 have m3:nb≤9223372036854775807:=lT hb.cap_le hb.max_le
 clear ht hd ha hw hb
 have SZ:=zH mw
 clear mw
 have c1':decide (0 < ab t.h t.v t.c∧ab t.h t.v t.c=n)=true:=by rw [← HA.o.n_eq];simpa [ae.ok] using c1
 have C1:=zH c1'
 clear c1 c1'
 obtain ⟨⟨⟨x1,x2,x3⟩,k⟩,hx⟩:∃ x,aN t.h t.v t.c d=x:=⟨_,rfl⟩
 rw [hx] at c2 ⊢
 have hk2:(k != 0)=true:=by rw [bne_iff_ne];exact c2
 have HX:=zH hx
 clear hx c2
 go_in
 go_wp2_with fail
 refine qM (av t.h t.v t.c A n cap _ HT.o.h HT.o.v HT.o.c (lT HA.o.cap_le HA.o.max_le)) fun w1 hb=>?_
 rw [C1.o]
 have g1:=ai (B:=w.heap.size) (a:=w) (by go_grown) hb (by simp;omega)
 have bA:=((Blk.now _ w.heap.size _ _ rfl).past _ |>.past _).later hb
 have bB:=((Blk.now _ (w.heap.size+1) _ _ sM).past _).later hb
 have bC:=(Blk.now _ (w.heap.size+1+1) _ _ sM).later hb
 have BA:=zH bA
 have BB:=zH bB
 have BC:=zH bC
 have cA:=fun i=>bA.cell i
 clear bA bB bC hb
 go_wp2_with (refine lGJ19 BB.o ?_)
 refine qM (dB t.h t.v t.c d W nw cw B nb cb _ HT.o.h HT.o.v HT.o.c HD.o.out HW.o.n_eq.symm HB.o.n_eq.symm SZ.o.1 SZ.o.2) fun w2 hb=>?_
 have g2:=ai g1 hb g1.size
 have lt1:=BC.o.lt
 have lt2:=hb.size
 have BA:=zH (BA.o.later hb)
 have BB:=zH (BB.o.later hb)
 have BC:=zH (BC.o.later hb)
 clear hb cA
 rw [HX.o]
 simp only [aL]
 have BC:=zH (BC.o.past (.cells (sN x1 x2 x3) 24))
 have g3:Below w w (w2.alloc (.cells (sN x1 x2 x3) 24)):=g2.alloc g2.size _
 have fC:=fun i=>BC.o.frozen i
 have cC:=fun i=>BC.o.cell i
 have lt6:=g3.size
 go_wp2_with fail
 refine ret_cell_tmp rfl ((((BC.o.set_ 0 _).set_ 1 _).set_ 2 _).set_ 3 _) rfl underlying80 kM rfl ?_
 exact ar.none (by go_grown)
theorem nJ (t:ae) (A:QA) (n cap:Nat) (d:af) (W:QA) (nw cw:Nat) (B:QA) (nb cb:Nat) (w:World) (ht:ak t) (hd:aE d)
  (ha:xA w A n cap t.data) (hw:xA w W nw cw d.w) (hb:xB w B nb cb d.bias) (c1:¬ t.ok=true) :
  Calls prog 130 #[.agg (tN t.h t.v t.c A n cap),.agg (nD d W nw cw B nb cb)] w (ar .i32 aj 5 w):=by
 have HT:=zH ht
 have HD:=zH hd
 have HA:=zH ha
 have HW:=zH hw
 have HB:=zH hb
 have m1:n≤9223372036854775807:=lT ha.cap_le ha.max_le
 have m2:nw≤9223372036854775807:=lT hw.cap_le hw.max_le
 have m3:nb≤9223372036854775807:=lT hb.cap_le hb.max_le
 clear ht hd ha hw hb
 have c1':decide (0 < ab t.h t.v t.c∧ab t.h t.v t.c=n)=false:=by rw [← HA.o.n_eq];simpa [ae.ok] using c1
 have C1:=zH c1'
 clear c1 c1'
 go_in
 go_wp2_with fail
 refine qM (av t.h t.v t.c A n cap _ HT.o.h HT.o.v HT.o.c (lT HA.o.cap_le HA.o.max_le)) fun w1 hb=>?_
 rw [C1.o]
 have g1:=ai (B:=w.heap.size) (a:=w) (by go_grown) hb (by simp;omega)
 have bC:=(Blk.now _ (w.heap.size+1+1) _ _ sM).later hb
 have fC:=fun i=>bC.frozen i
 have cC:=fun i=>bC.cell i
 clear hb
 go_wp2_with fail
 refine ret_cell_tmp rfl ((((bC.set_ 0 _).set_ 1 _).set_ 2 _).set_ 3 _) rfl underlying80 kM rfl ?_
 exact ar.none (by go_grown)
theorem mg (t:ae) (A:QA) (n cap:Nat) (d:af) (W:QA) (nw cw:Nat) (B:QA) (nb cb:Nat) (w:World) (ht:ak t) (hd:aE d)
  (ha:xA w A n cap t.data) (hw:xA w W nw cw d.w) (hb:xB w B nb cb d.bias) (mw:nw≤1048576∧nb≤1048576) (c1:t.ok=true) (c2:¬ (aN t.h t.v t.c d).2=0) :
  Calls prog 130 #[.agg (tN t.h t.v t.c A n cap),.agg (nD d W nw cw B nb cb)] w (ar .i32 aj (aN t.h t.v t.c d).2 w):=by
 have HT:=zH ht
 have HD:=zH hd
 have HA:=zH ha
 have HW:=zH hw
 have HB:=zH hb
 have m1:n≤9223372036854775807:=lT ha.cap_le ha.max_le
 have m2:nw≤9223372036854775807:=lT hw.cap_le hw.max_le
 have m3:nb≤9223372036854775807:=lT hb.cap_le hb.max_le
 clear ht hd ha hw hb
 have SZ:=zH mw
 clear mw
 have c1':decide (0 < ab t.h t.v t.c∧ab t.h t.v t.c=n)=true:=by rw [← HA.o.n_eq];simpa [ae.ok] using c1
 have C1:=zH c1'
 clear c1 c1'
 obtain ⟨⟨⟨x1,x2,x3⟩,k⟩,hx⟩:∃ x,aN t.h t.v t.c d=x:=⟨_,rfl⟩
 rw [hx] at c2 ⊢
 have hk2:(k != 0)=true:=by rw [bne_iff_ne];exact c2
 have HX:=zH hx
 clear hx c2
 go_in
 go_wp2_with fail
 refine qM (av t.h t.v t.c A n cap _ HT.o.h HT.o.v HT.o.c (lT HA.o.cap_le HA.o.max_le)) fun w1 hb=>?_
 rw [C1.o]
 have g1:=ai (B:=w.heap.size) (a:=w) (by go_grown) hb (by simp;omega)
 have bA:=((Blk.now _ w.heap.size _ _ rfl).past _ |>.past _).later hb
 have bB:=((Blk.now _ (w.heap.size+1) _ _ sM).past _).later hb
 have bC:=(Blk.now _ (w.heap.size+1+1) _ _ sM).later hb
 have BA:=zH bA
 have BB:=zH bB
 have BC:=zH bC
 have cA:=fun i=>bA.cell i
 clear bA bB bC hb
 go_wp2_with (refine lGJ19 BB.o ?_)
 refine qM (dB t.h t.v t.c d W nw cw B nb cb _ HT.o.h HT.o.v HT.o.c HD.o.out HW.o.n_eq.symm HB.o.n_eq.symm SZ.o.1 SZ.o.2) fun w2 hb=>?_
 have g2:=ai g1 hb g1.size
 have lt1:=BC.o.lt
 have lt2:=hb.size
 have BA:=zH (BA.o.later hb)
 have BB:=zH (BB.o.later hb)
 have BC:=zH (BC.o.later hb)
 clear hb cA
 rw [HX.o]
 simp only [aL]
 have BC:=zH (BC.o.past (.cells (sN x1 x2 x3) 24))
 have g3:Below w w (w2.alloc (.cells (sN x1 x2 x3) 24)):=g2.alloc g2.size _
 have fC:=fun i=>BC.o.frozen i
 have cC:=fun i=>BC.o.cell i
 have lt6:=g3.size
 go_wp2_with fail
 refine ret_cell_tmp rfl ((((BC.o.set_ 0 _).set_ 1 _).set_ 2 _).set_ 3 _) rfl underlying80 kM rfl ?_
 exact ar.none (by go_grown)
theorem nl (t:ae) (A:QA) (n cap:Nat) (d:af) (W:QA) (nw cw:Nat) (B:QA) (nb cb:Nat) (w:World) (ht:ak t) (hd:aE d)
  (ha:xA w A n cap t.data) (hw:xA w W nw cw d.w) (hb:xB w B nb cb d.bias) (c1:¬ t.ok=true) :
  Calls prog 131 #[.agg (tN t.h t.v t.c A n cap),.agg (nD d W nw cw B nb cb)] w (ar .i32 aj 5 w):=by
 have HT:=zH ht
 have HD:=zH hd
 have HA:=zH ha
 have HW:=zH hw
 have HB:=zH hb
 have m1:n≤9223372036854775807:=lT ha.cap_le ha.max_le
 have m2:nw≤9223372036854775807:=lT hw.cap_le hw.max_le
 have m3:nb≤9223372036854775807:=lT hb.cap_le hb.max_le
 clear ht hd ha hw hb
 have c1':decide (0 < ab t.h t.v t.c∧ab t.h t.v t.c=n)=false:=by rw [← HA.o.n_eq];simpa [ae.ok] using c1
 have C1:=zH c1'
 clear c1 c1'
 go_in
 go_wp2_with fail
 refine qM (av t.h t.v t.c A n cap _ HT.o.h HT.o.v HT.o.c (lT HA.o.cap_le HA.o.max_le)) fun w1 hb=>?_
 rw [C1.o]
 have g1:=ai (B:=w.heap.size) (a:=w) (by go_grown) hb (by simp;omega)
 have bC:=(Blk.now _ (w.heap.size+1+1) _ _ sM).later hb
 have fC:=fun i=>bC.frozen i
 have cC:=fun i=>bC.cell i
 clear hb
 go_wp2_with fail
 refine ret_cell_tmp rfl ((((bC.set_ 0 _).set_ 1 _).set_ 2 _).set_ 3 _) rfl underlying80 kM rfl ?_
 exact ar.none (by go_grown)
theorem lN (t:ae) (A:QA) (n cap:Nat) (d:af) (W:QA) (nw cw:Nat) (B:QA) (nb cb:Nat) (w:World) (ht:ak t) (hd:aE d)
  (ha:xA w A n cap t.data) (hw:xA w W nw cw d.w) (hb:xB w B nb cb d.bias) (mw:nw≤1048576∧nb≤1048576) (c1:t.ok=true) (c2:¬ (aM t.h t.v t.c d).2=0) :
  Calls prog 131 #[.agg (tN t.h t.v t.c A n cap),.agg (nD d W nw cw B nb cb)] w (ar .i32 aj (aM t.h t.v t.c d).2 w):=by
 have HT:=zH ht
 have HD:=zH hd
 have HA:=zH ha
 have HW:=zH hw
 have HB:=zH hb
 have m1:n≤9223372036854775807:=lT ha.cap_le ha.max_le
 have m2:nw≤9223372036854775807:=lT hw.cap_le hw.max_le
 have m3:nb≤9223372036854775807:=lT hb.cap_le hb.max_le
 clear ht hd ha hw hb
 have SZ:=zH mw
 clear mw
 have c1':decide (0 < ab t.h t.v t.c∧ab t.h t.v t.c=n)=true:=by rw [← HA.o.n_eq];simpa [ae.ok] using c1
 have C1:=zH c1'
 clear c1 c1'
 obtain ⟨⟨⟨x1,x2,x3⟩,k⟩,hx⟩:∃ x,aM t.h t.v t.c d=x:=⟨_,rfl⟩
 rw [hx] at c2 ⊢
 have hk2:(k != 0)=true:=by rw [bne_iff_ne];exact c2
 have HX:=zH hx
 clear hx c2
 go_in
 go_wp2_with fail
 refine qM (av t.h t.v t.c A n cap _ HT.o.h HT.o.v HT.o.c (lT HA.o.cap_le HA.o.max_le)) fun w1 hb=>?_
 rw [C1.o]
 have g1:=ai (B:=w.heap.size) (a:=w) (by go_grown) hb (by simp;omega)
 have bA:=((Blk.now _ w.heap.size _ _ rfl).past _ |>.past _).later hb
 have bB:=((Blk.now _ (w.heap.size+1) _ _ sM).past _).later hb
 have bC:=(Blk.now _ (w.heap.size+1+1) _ _ sM).later hb
 have BA:=zH bA
 have BB:=zH bB
 have BC:=zH bC
 have cA:=fun i=>bA.cell i
 clear bA bB bC hb
 go_wp2_with (refine lGJ19 BB.o ?_)
 refine qM (eU t.h t.v t.c d W nw cw B nb cb _ HT.o.h HT.o.v HT.o.c HD.o.out HW.o.n_eq.symm HB.o.n_eq.symm SZ.o.1 SZ.o.2) fun w2 hb=>?_
 have g2:=ai g1 hb g1.size
 have lt1:=BC.o.lt
 have lt2:=hb.size
 have BA:=zH (BA.o.later hb)
 have BB:=zH (BB.o.later hb)
 have BC:=zH (BC.o.later hb)
 clear hb cA
 rw [HX.o]
 simp only [aL]
 have BC:=zH (BC.o.past (.cells (sN x1 x2 x3) 24))
 have g3:Below w w (w2.alloc (.cells (sN x1 x2 x3) 24)):=g2.alloc g2.size _
 have fC:=fun i=>BC.o.frozen i
 have cC:=fun i=>BC.o.cell i
 have lt6:=g3.size
 go_wp2_with fail
 refine ret_cell_tmp rfl ((((BC.o.set_ 0 _).set_ 1 _).set_ 2 _).set_ 3 _) rfl underlying80 kM rfl ?_
 exact ar.none (by go_grown)
theorem oc (t:ae) (A:QA) (n cap:Nat) (d:af) (W:QA) (nw cw:Nat) (B:QA) (nb cb:Nat) (w:World) (ht:ak t) (hd:aE d)
  (ha:xA w A n cap t.data) (hw:xA w W nw cw d.w) (hb:xB w B nb cb d.bias) (c1:¬ t.ok=true) :
  Calls prog 66 #[.agg (tN t.h t.v t.c A n cap),.agg (nD d W nw cw B nb cb)] w (ar .i32 aj 5 w):=by
 have HT:=zH ht
 have HD:=zH hd
 have HA:=zH ha
 have HW:=zH hw
 have HB:=zH hb
 have m1:n≤9223372036854775807:=lT ha.cap_le ha.max_le
 have m2:nw≤9223372036854775807:=lT hw.cap_le hw.max_le
 have m3:nb≤9223372036854775807:=lT hb.cap_le hb.max_le
 clear ht hd ha hw hb
 have c1':decide (0 < ab t.h t.v t.c∧ab t.h t.v t.c=n)=false:=by rw [← HA.o.n_eq];simpa [ae.ok] using c1
 have C1:=zH c1'
 clear c1 c1'
 go_in
 go_wp2_with fail
 refine qM (aF t.h t.v t.c A n cap _ HT.o.h HT.o.v HT.o.c (lT HA.o.cap_le HA.o.max_le)) fun w1 hb=>?_
 rw [C1.o]
 have g1:=ai (B:=w.heap.size) (a:=w) (by go_grown) hb (by simp;omega)
 have bC:=(Blk.now _ (w.heap.size+1+1) _ _ sM).later hb
 have fC:=fun i=>bC.frozen i
 have cC:=fun i=>bC.cell i
 clear hb
 go_wp2_with fail
 refine ret_cell_tmp rfl ((((bC.set_ 0 _).set_ 1 _).set_ 2 _).set_ 3 _) rfl underlying80 kM rfl ?_
 exact ar.none (by go_grown)
theorem mA (t:ae) (A:QA) (n cap:Nat) (d:af) (W:QA) (nw cw:Nat) (B:QA) (nb cb:Nat) (w:World) (ht:ak t) (hd:aE d)
  (ha:xA w A n cap t.data) (hw:xA w W nw cw d.w) (hb:xB w B nb cb d.bias) (mw:nw≤1048576∧nb≤1048576) (c1:t.ok=true) (c2:¬ (aN t.h t.v t.c d).2=0) :
  Calls prog 66 #[.agg (tN t.h t.v t.c A n cap),.agg (nD d W nw cw B nb cb)] w (ar .i32 aj (aN t.h t.v t.c d).2 w):=by
 have HT:=zH ht
 have HD:=zH hd
 have HA:=zH ha
 have HW:=zH hw
 have HB:=zH hb
 have m1:n≤9223372036854775807:=lT ha.cap_le ha.max_le
 have m2:nw≤9223372036854775807:=lT hw.cap_le hw.max_le
 have m3:nb≤9223372036854775807:=lT hb.cap_le hb.max_le
 clear ht hd ha hw hb
 have SZ:=zH mw
 clear mw
 have c1':decide (0 < ab t.h t.v t.c∧ab t.h t.v t.c=n)=true:=by rw [← HA.o.n_eq];simpa [ae.ok] using c1
 have C1:=zH c1'
 clear c1 c1'
 obtain ⟨⟨⟨x1,x2,x3⟩,k⟩,hx⟩:∃ x,aN t.h t.v t.c d=x:=⟨_,rfl⟩
 rw [hx] at c2 ⊢
 have hk2:(k != 0)=true:=by rw [bne_iff_ne];exact c2
 have HX:=zH hx
 clear hx c2
 go_in
 go_wp2_with fail
 refine qM (aF t.h t.v t.c A n cap _ HT.o.h HT.o.v HT.o.c (lT HA.o.cap_le HA.o.max_le)) fun w1 hb=>?_
 rw [C1.o]
 have g1:=ai (B:=w.heap.size) (a:=w) (by go_grown) hb (by simp;omega)
 have bA:=((Blk.now _ w.heap.size _ _ rfl).past _ |>.past _).later hb
 have bB:=((Blk.now _ (w.heap.size+1) _ _ sM).past _).later hb
 have bC:=(Blk.now _ (w.heap.size+1+1) _ _ sM).later hb
 have BA:=zH bA
 have BB:=zH bB
 have BC:=zH bC
 have cA:=fun i=>bA.cell i
 clear bA bB bC hb
 go_wp2_with (refine lGJ19 BB.o ?_)
 refine qM (fb t.h t.v t.c d W nw cw B nb cb _ HT.o.h HT.o.v HT.o.c HD.o.out HW.o.n_eq.symm HB.o.n_eq.symm SZ.o.1 SZ.o.2) fun w2 hb=>?_
 have g2:=ai g1 hb g1.size
 have lt1:=BC.o.lt
 have lt2:=hb.size
 have BA:=zH (BA.o.later hb)
 have BB:=zH (BB.o.later hb)
 have BC:=zH (BC.o.later hb)
 clear hb cA
 rw [HX.o]
 simp only [aL]
 have BC:=zH (BC.o.past (.cells (sN x1 x2 x3) 24))
 have g3:Below w w (w2.alloc (.cells (sN x1 x2 x3) 24)):=g2.alloc g2.size _
 have fC:=fun i=>BC.o.frozen i
 have cC:=fun i=>BC.o.cell i
 have lt6:=g3.size
 go_wp2_with fail
 refine ret_cell_tmp rfl ((((BC.o.set_ 0 _).set_ 1 _).set_ 2 _).set_ 3 _) rfl underlying80 kM rfl ?_
 exact ar.none (by go_grown)
theorem mI (t:ae) (A:QA) (n cap:Nat) (d:af) (W:QA) (nw cw:Nat) (B:QA) (nb cb:Nat) (w:World) (ht:ak t) (hd:aE d)
  (ha:xA w A n cap t.data) (hw:xA w W nw cw d.w) (hb:xB w B nb cb d.bias) (c1:¬ t.ok=true) :
  Calls prog 67 #[.agg (tN t.h t.v t.c A n cap),.agg (nD d W nw cw B nb cb)] w (ar .i32 aj 5 w):=by
 have HT:=zH ht
 have HD:=zH hd
 have HA:=zH ha
 have HW:=zH hw
 have HB:=zH hb
 have m1:n≤9223372036854775807:=lT ha.cap_le ha.max_le
 have m2:nw≤9223372036854775807:=lT hw.cap_le hw.max_le
 have m3:nb≤9223372036854775807:=lT hb.cap_le hb.max_le
 clear ht hd ha hw hb
 have c1':decide (0 < ab t.h t.v t.c∧ab t.h t.v t.c=n)=false:=by rw [← HA.o.n_eq];simpa [ae.ok] using c1
 have C1:=zH c1'
 clear c1 c1'
 go_in
 go_wp2_with fail
 refine qM (aF t.h t.v t.c A n cap _ HT.o.h HT.o.v HT.o.c (lT HA.o.cap_le HA.o.max_le)) fun w1 hb=>?_
 rw [C1.o]
 have g1:=ai (B:=w.heap.size) (a:=w) (by go_grown) hb (by simp;omega)
 have bC:=(Blk.now _ (w.heap.size+1+1) _ _ sM).later hb
 have fC:=fun i=>bC.frozen i
 have cC:=fun i=>bC.cell i
 clear hb
 go_wp2_with fail
 refine ret_cell_tmp rfl ((((bC.set_ 0 _).set_ 1 _).set_ 2 _).set_ 3 _) rfl underlying80 kM rfl ?_
 exact ar.none (by go_grown)
theorem kS (t:ae) (A:QA) (n cap:Nat) (d:af) (W:QA) (nw cw:Nat) (B:QA) (nb cb:Nat) (w:World) (ht:ak t) (hd:aE d)
  (ha:xA w A n cap t.data) (hw:xA w W nw cw d.w) (hb:xB w B nb cb d.bias) (mw:nw≤1048576∧nb≤1048576) (c1:t.ok=true) (c2:¬ (aM t.h t.v t.c d).2=0) :
  Calls prog 67 #[.agg (tN t.h t.v t.c A n cap),.agg (nD d W nw cw B nb cb)] w (ar .i32 aj (aM t.h t.v t.c d).2 w):=by
 have HT:=zH ht
 have HD:=zH hd
 have HA:=zH ha
 have HW:=zH hw
 have HB:=zH hb
 have m1:n≤9223372036854775807:=lT ha.cap_le ha.max_le
 have m2:nw≤9223372036854775807:=lT hw.cap_le hw.max_le
 have m3:nb≤9223372036854775807:=lT hb.cap_le hb.max_le
 clear ht hd ha hw hb
 have SZ:=zH mw
 clear mw
 have c1':decide (0 < ab t.h t.v t.c∧ab t.h t.v t.c=n)=true:=by rw [← HA.o.n_eq];simpa [ae.ok] using c1
 have C1:=zH c1'
 clear c1 c1'
 obtain ⟨⟨⟨x1,x2,x3⟩,k⟩,hx⟩:∃ x,aM t.h t.v t.c d=x:=⟨_,rfl⟩
 rw [hx] at c2 ⊢
 have hk2:(k != 0)=true:=by rw [bne_iff_ne];exact c2
 have HX:=zH hx
 clear hx c2
 go_in
 go_wp2_with fail
 refine qM (aF t.h t.v t.c A n cap _ HT.o.h HT.o.v HT.o.c (lT HA.o.cap_le HA.o.max_le)) fun w1 hb=>?_
 rw [C1.o]
 have g1:=ai (B:=w.heap.size) (a:=w) (by go_grown) hb (by simp;omega)
 have bA:=((Blk.now _ w.heap.size _ _ rfl).past _ |>.past _).later hb
 have bB:=((Blk.now _ (w.heap.size+1) _ _ sM).past _).later hb
 have bC:=(Blk.now _ (w.heap.size+1+1) _ _ sM).later hb
 have BA:=zH bA
 have BB:=zH bB
 have BC:=zH bC
 have cA:=fun i=>bA.cell i
 clear bA bB bC hb
 go_wp2_with (refine lGJ19 BB.o ?_)
 refine qM (eP t.h t.v t.c d W nw cw B nb cb _ HT.o.h HT.o.v HT.o.c HD.o.out HW.o.n_eq.symm HB.o.n_eq.symm SZ.o.1 SZ.o.2) fun w2 hb=>?_
 have g2:=ai g1 hb g1.size
 have lt1:=BC.o.lt
 have lt2:=hb.size
 have BA:=zH (BA.o.later hb)
 have BB:=zH (BB.o.later hb)
 have BC:=zH (BC.o.later hb)
 clear hb cA
 rw [HX.o]
 simp only [aL]
 have BC:=zH (BC.o.past (.cells (sN x1 x2 x3) 24))
 have g3:Below w w (w2.alloc (.cells (sN x1 x2 x3) 24)):=g2.alloc g2.size _
 have fC:=fun i=>BC.o.frozen i
 have cC:=fun i=>BC.o.cell i
 have lt6:=g3.size
 go_wp2_with fail
 refine ret_cell_tmp rfl ((((BC.o.set_ 0 _).set_ 1 _).set_ 2 _).set_ 3 _) rfl underlying80 kM rfl ?_
 exact ar.none (by go_grown)
end Go.Proofs.YtmihnoagagbgaaaGreat
namespace Go.Proofs.YtmihnoagagbgaaaGreat
open Go.RowKit Go.ChangeShapes Go.WideShapes Fx Tryz
set_option maxRecDepth 100000
set_option maxHeartbeats 16000000
def dc (H V C:Nat) (l:List Int) (K S P:Nat) (c y x:Nat):Nat → List Int
 | 0=>[]
 | q+1=>if aK H V ((y*S+q / K:Nat) - (P:Int)) ((x*S+q % K:Nat) - (P:Int)) then dc H V C l K S P c y x q ++ [l.getD (cH V C ((y*S+q / K:Nat) - (P:Int)) ((x*S+q % K:Nat) - (P:Int)) c) 0] else dc H V C l K S P c y x q
theorem fW (H V C:Nat) (l:List Int) (K S P:Nat) (c y x:Nat):∀ q,(dc H V C l K S P c y x q).length≤q
 | 0=>lR _
 | q+1=>by
  have ih:=fW H V C l K S P c y x q
  unfold dc
  split
  ·simp;omega
  ·omega
theorem oC (H V C:Nat) (A:QA) (n cap:Nat) (l:List Int) (d:af) (W:QA) (nw cw:Nat) (B:QA) (nb cb:Nat) (K S P y x c:Nat) (w:World)
  (hl:xA w A n cap l) (hn:n=H*V*C) (hn2:n≤1024) (h1:1≤H∧H≤16) (v1:1≤V∧V≤16) (c1:1≤C∧C≤1024)
  (hk:d.k=K) (hs:d.s=S) (hp:d.p=P) (k1:1≤K∧K≤5) (s1:1≤S∧S≤4) (p1:P≤4) (hy:y≤1000) (hx:x≤1000) (hc:c < C) :
  Calls prog 60 #[.agg (tN H V C A n cap),.agg (nD d W nw cw B nb cb),.int .i64 y,.int .i64 x,.int .i64 c] w (RetSl (aa .i8) w (dc H V C l K S P c y x (K*K))):=by
 have FR:=zW w
 obtain ⟨w1,w2,yw1,yw2,l1,l2,BT,BN,yk2⟩:=bk2 w (tN H V C A n cap) 27 (nD d W nw cw B nb cb) 42
 replace FR:=zF yk2 FR
 clear yk2
 have HL:=zH hl
 have HN:=zH hn
 have HK:=zH hk
 have HS:=zH hs
 have HP:=zH hp
 obtain ⟨KK,hKK⟩:∃ m,K*K=m:=⟨_,rfl⟩
 have KK1:KK≤25:=by rw [← hKK];exact Nat.mul_le_mul k1.2 k1.2
 rw [hKK]
 obtain ⟨k1a,k1b⟩:=k1
 have HKK:=zH hKK
 have L12:w2.heap.size=w1.heap.size+1:=by rw [← yw2];simp
 have LW2:=zH (fun (wx:World) (h:Blk wx w1.heap.size 42 (nD d W nw cw B nb cb))=>show w2.heap.size≤wx.heap.size by have:=h.lt;omega)
 have LN:=zH (fun q=>fW H V C l K S P c y x q)
 clear hl hn hk hs hp hKK
 go_in
 go_wp2_with fail
 clear yw1 yw2
 have ON:=zH (show Own (aa .i8) w2 (fun _=>False) w2.heap.size 37 (.slice none 0 0) (dc H V C l K S P c y x (0*K)).length (dc H V C l K S P c y x (0*K)) by rw [Nat.zero_mul];exact Own.nil _ _ _ _ _)
 go_loopw [11,12] (fun u ii wr=>∃ i:Nat,i≤K∧ii=.int .i64 i∧Far w wr∧Blk wr w.heap.size 27 (tN H V C A n cap)∧Blk wr w1.heap.size 42 (nD d W nw cw B nb cb)∧Own (aa .i8) wr (fun _=>False) w2.heap.size 37 u (dc H V C l K S P c y x (i*K)).length (dc H V C l K S P c y x (i*K))) (fun _ ii _=>K - (intOf ii).toNat)
 case atStart=>exact ⟨0,zl _,rfl,FR.o,BT.o,BN.o,ON.o⟩
 case round =>
  obtain ⟨i,hi,rfl,hf,hbt,hbn,hon⟩:=hrel
  clear FR BT BN ON
  have FR:=zH hf
  have BT:=zH hbt
  have BN:=zH hbn
  have ON:=zH hon
  clear hf hbt hbn hon
  have n3:=BN.o.cell 3
  simp only [gX] at n3
  rw [HK.o] at n3
  by_cases hlt:i < K
  ·have p1':(i:Int) < (K:Int):=oM
   go_wp2_with fail
   clear n3
   go_loopw [11,13] (fun u ii wr=>∃ j:Nat,j≤K∧ii=.int .i64 j∧Far w wr∧Blk wr w.heap.size 27 (tN H V C A n cap)∧Blk wr w1.heap.size 42 (nD d W nw cw B nb cb)∧Own (aa .i8) wr (fun _=>False) w2.heap.size 37 u (dc H V C l K S P c y x (i*K+j)).length (dc H V C l K S P c y x (i*K+j))) (fun _ ii _=>K - (intOf ii).toNat)
   case atStart=>exact ⟨0,zl _,rfl,FR.o,BT.o,BN.o,by rw [Nat.add_zero];exact ON.o⟩
   case round =>
    obtain ⟨j,hj,rfl,hf,hbt,hbn,hon⟩:=hrel
    clear FR BT BN ON
    have FR:=zH hf
    have BT:=zH hbt
    have BN:=zH hbn
    have ON:=zH hon
    clear hf hbt hbn hon
    have n3:=BN.o.cell 3
    simp only [gX] at n3
    rw [HK.o] at n3
    by_cases hlj:j < K
    ·have p2':(j:Int) < (K:Int):=oM
     have hkk:i*K+j < KK:=by
      rw [← HKK.o]
      have:(i+1)*K≤K*K:=Nat.mul_le_mul_right _ hlt
      rw [Nat.succ_mul] at this
      omega
     have hki:(i*K+j) / K=i:=by rw [Nat.mul_comm,Nat.mul_add_div oM,Nat.div_eq_of_lt hlj,Nat.add_zero]
     have hkj:(i*K+j) % K=j:=by rw [Nat.mul_comm,Nat.mul_add_mod,Nat.mod_eq_of_lt hlj]
     obtain ⟨ys,hys⟩:∃ m,y*S=m:=⟨_,rfl⟩
     have ysi:(y:Int)*(S:Int)=(ys:Int):=by rw [← hys];simp
     have ysb:ys≤4000:=by rw [← hys];exact Nat.mul_le_mul hy s1.2
     obtain ⟨xs,hxs⟩:∃ m,x*S=m:=⟨_,rfl⟩
     have xsi:(x:Int)*(S:Int)=(xs:Int):=by rw [← hxs];simp
     have xsb:xs≤4000:=by rw [← hxs];exact Nat.mul_le_mul hx s1.2
     obtain ⟨yy,hyy⟩:∃ m:Int,((y*S+i:Nat):Int) - P=m:=⟨_,rfl⟩
     obtain ⟨xx,hxx⟩:∃ m:Int,((x*S+j:Nat):Int) - P=m:=⟨_,rfl⟩
     have hyy2:(ys:Int)+(i:Int) - (P:Int)=yy:=by rw [← hyy,hys];simp
     have hxx2:(xs:Int)+(j:Int) - (P:Int)=xx:=by rw [← hxx,hxs];simp
     have byy:-10≤yy∧yy≤5000:=oM
     have bxx:-10≤xx∧xx≤5000:=oM
     have g1:IntKind.i64.wrap ((y:Int)*(S:Int))=(ys:Int):=by rw [ysi];exact wJ
     have g2:IntKind.i64.wrap ((x:Int)*(S:Int))=(xs:Int):=by rw [xsi];exact wJ
     have g3:IntKind.i64.wrap ((ys:Int)+(i:Int))=(ys:Int)+(i:Int):=wJ
     have g4:IntKind.i64.wrap ((xs:Int)+(j:Int))=(xs:Int)+(j:Int):=wJ
     have g5:IntKind.i64.wrap ((ys:Int)+(i:Int) - (P:Int))=yy:=by rw [hyy2];exact wJ
     have g6:IntKind.i64.wrap ((xs:Int)+(j:Int) - (P:Int))=xx:=by rw [hxx2];exact wJ
     have hq:dc H V C l K S P c y x (i*K+j+1)=if aK H V yy xx then dc H V C l K S P c y x (i*K+j) ++ [l.getD (cH V C yy xx c) 0] else dc H V C l K S P c y x (i*K+j):=by
      show (if aK H V ((y*S+(i*K+j) / K:Nat) - (P:Int)) ((x*S+(i*K+j) % K:Nat) - (P:Int)) then _ else _)=_
      rw [hki,hkj,hyy,hxx]
     obtain ⟨n4,n5⟩:=uc2 BN 4 5
     obtain ⟨t0,t1⟩:=uc2 BT 0 1
     simp only [gX] at n4 n5 t0 t1
     rw [HS.o] at n4
     rw [HP.o] at n5
     clear hyy hxx hys hxs ysi xsi hyy2 hxx2 hki hkj
     go_wp2_with fail
     go_quiet (fail)
     clear g1 g2 g3 g4 g5 g6
     by_cases a1:0≤yy
     ·by_cases a2:yy < (H:Int)
      ·by_cases a3:0≤xx
       ·by_cases a4:xx < (V:Int)
        ·have hq3:=hq.trans (if_pos (show aK H V yy xx from ⟨a1,a2,a3,a4⟩))
         obtain ⟨yn,hyn⟩:∃ m:Nat,yy=m:=⟨yy.toNat,by omega⟩
         subst hyn
         obtain ⟨xn,hxn⟩:∃ m:Nat,xx=m:=⟨xx.toNat,by omega⟩
         subst hxn
         unfold cH at hq3
         simp only [Int.toNat_natCast] at hq3
         have ia:=HL.o.allK ((yn*V+xn)*C+c)
         have GE:=zH (fun wq (h:xA wq A n cap l)=>gQ H V C A n cap l yn xn c wq h HN.o hn2 c1.2 oM oM hc)
         obtain ⟨v,hv⟩:∃ v,l.getD ((yn*V+xn)*C+c) 0=v:=⟨_,rfl⟩
         rw [hv] at hq3 ia GE
         have IA:=zH ia
         have HQ:=zH hq3
         have LE:=LN.o (i*K+j)
         clear hq hq3 hv ia
         obtain ⟨wq,hwq⟩:∃ m,wr.drewN nq=m:=⟨_,rfl⟩
         have kd:Below wr wr wq:=by rw [← hwq];exact am (qB _ _) _
         have ON2:=ON.o.below kd (lR _) (fun _ h=>h.elim)
         have F2:=FR.o.fut kd
         have T2:=BT.o.fut kd
         have N2:=BN.o.fut kd
         have q0:=ao kd t0
         have q1:=ao kd t1
         rw [hwq]
         clear n3 n4 n5 t0 t1 kd hwq
         replace ON:=zH ON2
         replace FR:=zH F2
         replace BT:=zH T2
         replace BN:=zH N2
         clear ON2 F2 T2 N2
         go_wp2_with (refine lGJ19 BT.o ?_)
         refine qM (GE.o _ (zO HL FR)) fun w5 hb=>?_
         have O5:=zH (ON.o.below hb (lR _) (fun _ h=>h.elim))
         have lw5:w2.heap.size≤w5.heap.size:=by have:=hb.size;have:=BN.o.lt;have:=FR.o.size;exact lT (LW2.o _ BN.o) hb.size
         obtain ⟨FR,BT,BN⟩:=uz3 hb FR BT BN
         clear hb q0 q1
         go_wp2_with (at_builtin;refine wpList_push (W:=w5) (cs:=#[.int .i8 v]) (E:=37) (t:=aa .i8) (S:=fun _=>False) (base:=w2.heap.size) rfl (.tmp 66) (.tmp 72) rfl dy rfl O5.o 1 rfl v ⟨rfl,IA.o⟩ (by unfold maxLen;omega) oM lw5 (fun _ h=>h.elim) ?_;intro v' wz ownz gz atz)
         have oz:=ownz
         have e9:(dc H V C l K S P c y x (i*K+j) ++ [v]).length=(dc H V C l K S P c y x (i*K+j)).length+1:=by simp
         refine ⟨⟨j+1,by omega,by go_num,⟨FR.u.grown gz FR.o.size (fun k h=>lT oM (O5.o.lt k h).1)⟩,BT.o.rowR gz (fun e=>by have:=(O5.o.lt _ e.symm).1;omega),BN.o.rowR gz (fun e=>by have:=(O5.o.lt _ e.symm).1;omega),?_⟩,by simp [intOf];omega⟩
         rw [show i*K+(j+1)=i*K+j+1 from rfl,HQ.o,e9]
         exact ownz
        ·have a4':(V:Int)≤xx:=oM
         have hq3:=hq.trans (if_neg (fun h:aK H V yy xx=>a4 h.2.2.2))
         have HQ:=zH hq3
         clear hq hq3
         go_wp2
         exact ⟨⟨j+1,by omega,by go_num,FR.o.drewN _,⟨BT.o.heap⟩,⟨BN.o.heap⟩,by rw [show i*K+(j+1)=i*K+j+1 from rfl,HQ.o];exact ON.o.heap rfl⟩,by simp [intOf];omega⟩
       ·have a3':xx < 0:=oM
        have hq3:=hq.trans (if_neg (fun h:aK H V yy xx=>a3 h.2.2.1))
        have HQ:=zH hq3
        clear hq hq3
        go_wp2
        exact ⟨⟨j+1,by omega,by go_num,FR.o.drewN _,⟨BT.o.heap⟩,⟨BN.o.heap⟩,by rw [show i*K+(j+1)=i*K+j+1 from rfl,HQ.o];exact ON.o.heap rfl⟩,by simp [intOf];omega⟩
      ·have a2':(H:Int)≤yy:=oM
       have hq3:=hq.trans (if_neg (fun h:aK H V yy xx=>a2 h.2.1))
       have HQ:=zH hq3
       clear hq hq3
       go_wp2
       exact ⟨⟨j+1,by omega,by go_num,FR.o.drewN _,⟨BT.o.heap⟩,⟨BN.o.heap⟩,by rw [show i*K+(j+1)=i*K+j+1 from rfl,HQ.o];exact ON.o.heap rfl⟩,by simp [intOf];omega⟩
     ·have a1':yy < 0:=oM
      have hq3:=hq.trans (if_neg (fun h:aK H V yy xx=>a1 h.1))
      have HQ:=zH hq3
      clear hq hq3
      go_wp2
      exact ⟨⟨j+1,by omega,by go_num,FR.o.drewN _,⟨BT.o.heap⟩,⟨BN.o.heap⟩,by rw [show i*K+(j+1)=i*K+j+1 from rfl,HQ.o];exact ON.o.heap rfl⟩,by simp [intOf];omega⟩
    ·obtain rfl:j=K:=oM
     go_wp2
     exact ⟨⟨i+1,by omega,by go_num,FR.o,BT.o,BN.o,by rw [Nat.succ_mul];exact ON.o⟩,by simp [intOf];omega⟩
  ·obtain rfl:i=K:=oM
   go_wp2
   go_ret
   have e:=HKK.o
   subst e
   obtain ⟨A2,c2,rfl,sl⟩:=ON.o.sl (S':=bin w.heap.size _) dM (fun b h1 h2=>⟨by omega,h2⟩) (fun b h=>h.elim)
   exact ⟨_,_,_,rfl,sl,FR.u⟩
end Go.Proofs.YtmihnoagagbgaaaGreat
