/-
  Walks of dense (layer 18): all sums of a tensor by a node, the program's and the document's.
  The shape that a node makes (layers 10, 17): conv.Shape, depth.Shape, the document's.
-/
import Derived.Test.YtmihnoagagbgaaaGreatJ09
set_option linter.unusedVariables false
set_option linter.unusedSimpArgs false
set_option maxRecDepth 100000
set_option maxHeartbeats 16000000
namespace Go.Proofs.YtmihnoagagbgaaaGreat
open Go.RowKit Go.ChangeShapes Go.WideShapes Tryz
set_option maxRecDepth 100000
set_option maxHeartbeats 16000000
theorem ip (k out:Int) (h:¬ k=0):fg k out=.returned (.tuple #[.agg (sN 0 0 0),.int .i64 k]):=by unfold fg;rw [if_neg h]
def bk (t:ae) (d:af):ae × Int :=
 if t.ok=true then (if ap t.h t.v t.c d=0 then (⟨1,1,d.out,cz t.data d.w d.bias d.za⟩,0) else (aj,ap t.h t.v t.c d)) else (aj,5)
theorem fZ (t:ae) (d:af) (nw nb:Nat) (k1:d.w.length=nw) (k2:d.bias.length=nb) (c2:ap t.h t.v t.c d=0):nw≤1048576∧nb≤1024:=by
 unfold ap at c2
 split at c2
 ·omega
 ·rename_i hne
  split at c2
  ·omega
  ·rename_i h3
   have o1:1≤d.out∧d.out≤1024:=by
    have:¬ ab 1 1 d.out=0:=fun h=>hne (.inr h)
    rw [bI] at this
    split at this
    ·omega
    ·exact absurd rfl this
   have h4:(d.w.length:Int)=d.out*ab t.h t.v t.c:=Decidable.byContradiction fun h=>h3 (.inl h)
   have h5:d.out*ab t.h t.v t.c≤1024*1024:=Int.mul_le_mul o1.2 (aC _ _ _).2 (aC _ _ _).1 oM
   omega
theorem lC {w w4 w':World} {A:QA} {n cap:Nat} {l:List Int} {g:Nat} {u0 u1 u2 u3:Value} (h:Sl (aa .i32) w' (bin w4 w') A n cap l) (hg:g < w4.heap.size) (hs:w.heap.size≤w4.heap.size) :
  Sl (aa .i32) ((((w'.setCell ⟨g,0,none⟩ u0).setCell ⟨g,1,none⟩ u1).setCell ⟨g,2,none⟩ u2).setCell ⟨g,3,none⟩ u3)
   (bin w.heap.size ((((w'.setCell ⟨g,0,none⟩ u0).setCell ⟨g,1,none⟩ u1).setCell ⟨g,2,none⟩ u2).setCell ⟨g,3,none⟩ u3).heap.size) A n cap l :=
 (((((h.far _ _ (fun b hb=>by have:=hb.1;simp;omega)).far _ _ (fun b hb=>by have:=hb.1;simp;omega)).far _ _ (fun b hb=>by have:=hb.1;simp;omega)).far _ _ (fun b hb=>by have:=hb.1;simp;omega)).more (aO hs sM))
theorem nh (t:ae) (A:QA) (n cap:Nat) (d:af) (W:QA) (nw cw:Nat) (B:QA) (nb cb:Nat) (w:World) (ht:ak t) (hd:aE d)
  (ha:xA w A n cap t.data) (hw:xA w W nw cw d.w) (hb:xB w B nb cb d.bias) (c1:¬ t.ok=true) :
  Calls prog 132 #[.agg (tN t.h t.v t.c A n cap),.agg (nD d W nw cw B nb cb)] w (ar .i32 aj 5 w):=by
 have HT:=zH ht
 have HD:=zH hd
 have HA:=zH ha
 have HW:=zH hw
 have HB:=zH hb
 have m1:n≤9223372036854775807:=lT ha.cap_le ha.max_le
 have m2:nw≤9223372036854775807:=lT hw.cap_le hw.max_le
 have m3:nb≤9223372036854775807:=lT hb.cap_le hb.max_le
 clear ht hd ha hw hb
 have c1':decide (0 < ab t.h t.v t.c∧ab t.h t.v t.c=n)=false:=by rw [← HA.o.n_eq];simpa [ae.ok] using c1
 have C1:=zH c1'
 clear c1 c1'
 go_in
 go_wp2_with fail
 refine qM (av t.h t.v t.c A n cap _ HT.o.h HT.o.v HT.o.c (lT HA.o.cap_le HA.o.max_le)) fun w1 hb=>?_
 rw [C1.o]
 have g1:=ai (B:=w.heap.size) (a:=w) (by go_grown) hb (by simp;omega)
 have bC:=(Blk.now _ (w.heap.size+1+1) _ _ sM).later hb
 have fC:=fun i=>bC.frozen i
 have cC:=fun i=>bC.cell i
 clear hb
 go_wp2_with fail
 refine ret_cell_tmp rfl ((((bC.set_ 0 _).set_ 1 _).set_ 2 _).set_ 3 _) rfl underlying80 kM rfl ?_
 exact ar.none (by go_grown)
theorem lL (t:ae) (A:QA) (n cap:Nat) (d:af) (W:QA) (nw cw:Nat) (B:QA) (nb cb:Nat) (w:World) (ht:ak t) (hd:aE d)
  (ha:xA w A n cap t.data) (hw:xA w W nw cw d.w) (hb:xB w B nb cb d.bias) (c1:t.ok=true) (c2:ap t.h t.v t.c d=0) :
  Calls prog 132 #[.agg (tN t.h t.v t.c A n cap),.agg (nD d W nw cw B nb cb)] w (ar .i32 ⟨1,1,d.out,cz t.data d.w d.bias d.za⟩ 0 w):=by
 have HT:=zH ht
 have HD:=zH hd
 have HA:=zH ha
 have HW:=zH hw
 have HB:=zH hb
 have m1:n≤9223372036854775807:=lT ha.cap_le ha.max_le
 have m2:nw≤9223372036854775807:=lT hw.cap_le hw.max_le
 have m3:nb≤9223372036854775807:=lT hb.cap_le hb.max_le
 clear ht hd ha hw hb
 have hq:=fZ t d nw nb HW.o.n_eq HB.o.n_eq c2
 have hn2:n≤1024:=by
  have h1:t.ok=true:=c1
  have h2:=HA.o.n_eq
  have h3:=aC t.h t.v t.c
  simp only [ae.ok,decide_eq_true_eq] at h1
  omega
 have c1':decide (0 < ab t.h t.v t.c∧ab t.h t.v t.c=n)=true:=by rw [← HA.o.n_eq];simpa [ae.ok] using c1
 have C1:=zH c1'
 have C2:=zH c2
 clear c1 c1' c2
 go_in
 go_wp2_with fail
 refine qM (av t.h t.v t.c A n cap _ HT.o.h HT.o.v HT.o.c (lT HA.o.cap_le HA.o.max_le)) fun w1 hb=>?_
 rw [C1.o]
 have g1:=ai (B:=w.heap.size) (a:=w) (by go_grown) hb (by simp;omega)
 have bA:=((Blk.now _ w.heap.size _ _ rfl).past _ |>.past _).later hb
 have bB:=((Blk.now _ (w.heap.size+1) _ _ sM).past _).later hb
 have bC:=(Blk.now _ (w.heap.size+1+1) _ _ sM).later hb
 have BA:=zH bA
 have BB:=zH bB
 have BC:=zH bC
 have cA:=fun i=>bA.cell i
 clear bA bB bC hb
 go_wp2_with (refine lG BB.o ?_)
 refine qM (gE t.h t.v t.c d W nw cw B nb cb _ HT.o.h HT.o.v HT.o.c HD.o.out HW.o.n_eq.symm HB.o.n_eq.symm (lT HW.o.cap_le HW.o.max_le) (lT HB.o.cap_le HB.o.max_le)) fun w2 hb=>?_
 have g2:=ai g1 hb g1.size
 have lt1:=BC.o.lt
 have lt2:=hb.size
 have BA:=zH (BA.o.later hb)
 have BB:=zH (BB.o.later hb)
 have BC:=zH (BC.o.later hb)
 clear hb cA
 rw [C2.o]
 simp only [fg,if_true]
 go_wp2_with fail
 have BA:=zH (BA.o.past (.cells (sN 1 1 d.out) 24))
 have BB:=zH (BB.o.past (.cells (sN 1 1 d.out) 24))
 have BC:=zH (BC.o.past (.cells (sN 1 1 d.out) 24))
 have BD:=zH (Blk.now w2 w2.heap.size 24 (sN 1 1 d.out) rfl)
 have g3:Below w w (w2.alloc (.cells (sN 1 1 d.out) 24)):=g2.alloc g2.size _
 have lt3:w2.heap.size < (w2.alloc (.cells (sN 1 1 d.out) 24)).heap.size:=by simp
 generalize hw3:w2.alloc (.cells (sN 1 1 d.out) 24)=w3 at *
 clear hw3
 refine wp_region_held_drew (S:=fun w'=>w'.cell? ⟨w2.heap.size,0,none⟩=some (.int .i64 1)∧w'.cell? ⟨w2.heap.size,1,none⟩=some (.int .i64 1)∧w'.cell? ⟨w2.heap.size,2,none⟩=some (.int .i64 d.out)∧w'.cell? ⟨w.heap.size,3,none⟩=some (.slice A n cap)∧w'.cell? ⟨w.heap.size+1,9,none⟩=some (.slice W nw cw)∧w'.cell? ⟨w.heap.size+1,10,none⟩=some (.slice B nb cb)∧w'.cell? ⟨w.heap.size+1,7,none⟩=some (.int .i8 d.za)∧Below w w w') kM ?_ (fun hS=>?_)
 ·exact ⟨BD.o.cell 0,BD.o.cell 1,BD.o.cell 2,BA.o.cell 3,BB.o.cell 9,BB.o.cell 10,BB.o.cell 7,g3.drew⟩
 refine kH' 0 hS ?_
 refine kH' 1 hS ?_
 refine kH' 2 hS ?_
 refine kH' 3 hS ?_
 refine kH' 4 hS ?_
 refine kH' 5 hS ?_
 refine kH' 6 hS ?_
 refine kH' 7 hS ?_
 refine kH' 8 hS ?_
 refine rH 9 rfl (fun K hK=>?_)
 go_simp
 refine (sr A W B n cap nw cw nb cb _ _ _ _ _ (HA.o.later g3.drew (lR _)) (HW.o.later g3.drew (lR _)) (HB.o.later g3.drew (lR _)) HD.o.za oM oM oM).mono ?_;rintro e w' ⟨A',n',cap',rfl,hs,hb⟩;have bC:=BC.o.drew.later hb;have cC:=fun i=>bC.cell i;have fC:=fun i=>bC.frozen i;have HSL:=zH hs;clear hs
 refine xK hK (zR hb hS) fun hS=>?_
 clear hK K
 refine kH' 10 hS ?_
 refine rH 11 rfl (fun K hK=>?_)
 go_simp
 refine hK.out _ _ ?_ (fun hS=>?_)
 ·obtain ⟨k0,k1,k2,k3,k4,k5,k6,k7⟩:=hS
  exact ⟨(by (repeat rw [cc _ _ _ _ (by first|(simp;done)|(simp;omega))]);exact k0),(by (repeat rw [cc _ _ _ _ (by first|(simp;done)|(simp;omega))]);exact k1),(by (repeat rw [cc _ _ _ _ (by first|(simp;done)|(simp;omega))]);exact k2),(by (repeat rw [cc _ _ _ _ (by first|(simp;done)|(simp;omega))]);exact k3),(by (repeat rw [cc _ _ _ _ (by first|(simp;done)|(simp;omega))]);exact k4),(by (repeat rw [cc _ _ _ _ (by first|(simp;done)|(simp;omega))]);exact k5),(by (repeat rw [cc _ _ _ _ (by first|(simp;done)|(simp;omega))]);exact k6),(by go_grown)⟩
 clear hK K
 try simp only [pX]
 refine kH' 12 hS ?_
 refine wpAnyH_done kM ?_ _
 have lt5:=BC.o.lt
 have lt6:=g3.size
 have g5:=ai g3.drew hb g3.size
 clear hS hb
 go_wp2_with fail
 refine ret_cell_tmp rfl ((((bC.set_ 0 _).set_ 1 _).set_ 2 _).set_ 3 _) rfl underlying80 kM rfl ?_
 refine ⟨A',n',cap',rfl,?_,by go_grown⟩
 exact lC (w4:=w3.drew) HSL.o lt5 lt6
theorem lK (t:ae) (A:QA) (n cap:Nat) (d:af) (W:QA) (nw cw:Nat) (B:QA) (nb cb:Nat) (w:World) (ht:ak t) (hd:aE d)
  (ha:xA w A n cap t.data) (hw:xA w W nw cw d.w) (hb:xB w B nb cb d.bias) (c1:t.ok=true) (c2:¬ ap t.h t.v t.c d=0) :
  Calls prog 132 #[.agg (tN t.h t.v t.c A n cap),.agg (nD d W nw cw B nb cb)] w (ar .i32 aj (ap t.h t.v t.c d) w):=by
 have HT:=zH ht
 have HD:=zH hd
 have HA:=zH ha
 have HW:=zH hw
 have HB:=zH hb
 have m1:n≤9223372036854775807:=lT ha.cap_le ha.max_le
 have m2:nw≤9223372036854775807:=lT hw.cap_le hw.max_le
 have m3:nb≤9223372036854775807:=lT hb.cap_le hb.max_le
 clear ht hd ha hw hb
 have c1':decide (0 < ab t.h t.v t.c∧ab t.h t.v t.c=n)=true:=by rw [← HA.o.n_eq];simpa [ae.ok] using c1
 have C1:=zH c1'
 clear c1 c1'
 generalize hk:ap t.h t.v t.c d=k at *
 have hk2:(k != 0)=true:=by rw [bne_iff_ne];exact c2
 have HK:=zH hk
 have HC:=zH c2
 clear hk c2
 go_in
 go_wp2_with fail
 refine qM (av t.h t.v t.c A n cap _ HT.o.h HT.o.v HT.o.c (lT HA.o.cap_le HA.o.max_le)) fun w1 hb=>?_
 rw [C1.o]
 have g1:=ai (B:=w.heap.size) (a:=w) (by go_grown) hb (by simp;omega)
 have bA:=((Blk.now _ w.heap.size _ _ rfl).past _ |>.past _).later hb
 have bB:=((Blk.now _ (w.heap.size+1) _ _ sM).past _).later hb
 have bC:=(Blk.now _ (w.heap.size+1+1) _ _ sM).later hb
 have BA:=zH bA
 have BB:=zH bB
 have BC:=zH bC
 have cA:=fun i=>bA.cell i
 clear bA bB bC hb
 go_wp2_with (refine lG BB.o ?_)
 refine qM (gE t.h t.v t.c d W nw cw B nb cb _ HT.o.h HT.o.v HT.o.c HD.o.out HW.o.n_eq.symm HB.o.n_eq.symm (lT HW.o.cap_le HW.o.max_le) (lT HB.o.cap_le HB.o.max_le)) fun w2 hb=>?_
 have g2:=ai g1 hb g1.size
 have lt1:=BC.o.lt
 have lt2:=hb.size
 have BA:=zH (BA.o.later hb)
 have BB:=zH (BB.o.later hb)
 have BC:=zH (BC.o.later hb)
 clear hb cA
 rw [HK.o,ip k d.out HC.o]
 have BC:=zH (BC.o.past (.cells (sN 0 0 0) 24))
 have g3:Below w w (w2.alloc (.cells (sN 0 0 0) 24)):=g2.alloc g2.size _
 have fC:=fun i=>BC.o.frozen i
 have cC:=fun i=>BC.o.cell i
 have lt6:=g3.size
 go_wp2_with fail
 refine ret_cell_tmp rfl ((((BC.o.set_ 0 _).set_ 1 _).set_ 2 _).set_ 3 _) rfl underlying80 kM rfl ?_
 exact ar.none (by go_grown)
theorem ng (t:ae) (A:QA) (n cap:Nat) (d:af) (W:QA) (nw cw:Nat) (B:QA) (nb cb:Nat) (w:World) (ht:ak t) (hd:aE d)
  (ha:xA w A n cap t.data) (hw:xA w W nw cw d.w) (hb:xB w B nb cb d.bias) :
  Calls prog 132 #[.agg (tN t.h t.v t.c A n cap),.agg (nD d W nw cw B nb cb)] w (ar .i32 (bk t d).1 (bk t d).2 w):=by
 by_cases c1:t.ok=true
 ·by_cases c2:ap t.h t.v t.c d=0
  ·have e:bk t d=(⟨1,1,d.out,cz t.data d.w d.bias d.za⟩,0):=by unfold bk;rw [if_pos c1,if_pos c2]
   rw [e];exact lL t A n cap d W nw cw B nb cb w ht hd ha hw hb c1 c2
  ·have e:bk t d=(aj,ap t.h t.v t.c d):=by unfold bk;rw [if_pos c1,if_neg c2]
   rw [e];exact lK t A n cap d W nw cw B nb cb w ht hd ha hw hb c1 c2
 ·have e:bk t d=(aj,5):=by unfold bk;rw [if_neg c1]
  rw [e];exact nh t A n cap d W nw cw B nb cb w ht hd ha hw hb c1
theorem mF (t:ae) (A:QA) (n cap:Nat) (d:af) (W:QA) (nw cw:Nat) (B:QA) (nb cb:Nat) (w:World) (ht:ak t) (hd:aE d)
  (ha:xA w A n cap t.data) (hw:xA w W nw cw d.w) (hb:xB w B nb cb d.bias) (c1:¬ t.ok=true) :
  Calls prog 68 #[.agg (tN t.h t.v t.c A n cap),.agg (nD d W nw cw B nb cb)] w (ar .i32 aj 5 w):=by
 have HT:=zH ht
 have HD:=zH hd
 have HA:=zH ha
 have HW:=zH hw
 have HB:=zH hb
 have m1:n≤9223372036854775807:=lT ha.cap_le ha.max_le
 have m2:nw≤9223372036854775807:=lT hw.cap_le hw.max_le
 have m3:nb≤9223372036854775807:=lT hb.cap_le hb.max_le
 clear ht hd ha hw hb
 have c1':decide (0 < ab t.h t.v t.c∧ab t.h t.v t.c=n)=false:=by rw [← HA.o.n_eq];simpa [ae.ok] using c1
 have C1:=zH c1'
 clear c1 c1'
 go_in
 go_wp2_with fail
 refine qM (aF t.h t.v t.c A n cap _ HT.o.h HT.o.v HT.o.c (lT HA.o.cap_le HA.o.max_le)) fun w1 hb=>?_
 rw [C1.o]
 have g1:=ai (B:=w.heap.size) (a:=w) (by go_grown) hb (by simp;omega)
 have bC:=(Blk.now _ (w.heap.size+1+1) _ _ sM).later hb
 have fC:=fun i=>bC.frozen i
 have cC:=fun i=>bC.cell i
 clear hb
 go_wp2_with fail
 refine ret_cell_tmp rfl ((((bC.set_ 0 _).set_ 1 _).set_ 2 _).set_ 3 _) rfl underlying80 kM rfl ?_
 exact ar.none (by go_grown)
theorem kR (t:ae) (A:QA) (n cap:Nat) (d:af) (W:QA) (nw cw:Nat) (B:QA) (nb cb:Nat) (w:World) (ht:ak t) (hd:aE d)
  (ha:xA w A n cap t.data) (hw:xA w W nw cw d.w) (hb:xB w B nb cb d.bias) (c1:t.ok=true) (c2:ap t.h t.v t.c d=0) :
  Calls prog 68 #[.agg (tN t.h t.v t.c A n cap),.agg (nD d W nw cw B nb cb)] w (ar .i32 ⟨1,1,d.out,cz t.data d.w d.bias d.za⟩ 0 w):=by
 have HT:=zH ht
 have HD:=zH hd
 have HA:=zH ha
 have HW:=zH hw
 have HB:=zH hb
 have m1:n≤9223372036854775807:=lT ha.cap_le ha.max_le
 have m2:nw≤9223372036854775807:=lT hw.cap_le hw.max_le
 have m3:nb≤9223372036854775807:=lT hb.cap_le hb.max_le
 clear ht hd ha hw hb
 have hq:=fZ t d nw nb HW.o.n_eq HB.o.n_eq c2
 have hn2:n≤1024:=by
  have h1:t.ok=true:=c1
  have h2:=HA.o.n_eq
  have h3:=aC t.h t.v t.c
  simp only [ae.ok,decide_eq_true_eq] at h1
  omega
 have c1':decide (0 < ab t.h t.v t.c∧ab t.h t.v t.c=n)=true:=by rw [← HA.o.n_eq];simpa [ae.ok] using c1
 have C1:=zH c1'
 have C2:=zH c2
 clear c1 c1' c2
 go_in
 go_wp2_with fail
 refine qM (aF t.h t.v t.c A n cap _ HT.o.h HT.o.v HT.o.c (lT HA.o.cap_le HA.o.max_le)) fun w1 hb=>?_
 rw [C1.o]
 have g1:=ai (B:=w.heap.size) (a:=w) (by go_grown) hb (by simp;omega)
 have bA:=((Blk.now _ w.heap.size _ _ rfl).past _ |>.past _).later hb
 have bB:=((Blk.now _ (w.heap.size+1) _ _ sM).past _).later hb
 have bC:=(Blk.now _ (w.heap.size+1+1) _ _ sM).later hb
 have BA:=zH bA
 have BB:=zH bB
 have BC:=zH bC
 have cA:=fun i=>bA.cell i
 clear bA bB bC hb
 go_wp2_with (refine lG BB.o ?_)
 refine qM (gd t.h t.v t.c d W nw cw B nb cb _ HT.o.h HT.o.v HT.o.c HD.o.out HW.o.n_eq.symm HB.o.n_eq.symm (lT HW.o.cap_le HW.o.max_le) (lT HB.o.cap_le HB.o.max_le)) fun w2 hb=>?_
 have g2:=ai g1 hb g1.size
 have lt1:=BC.o.lt
 have lt2:=hb.size
 have BA:=zH (BA.o.later hb)
 have BB:=zH (BB.o.later hb)
 have BC:=zH (BC.o.later hb)
 clear hb cA
 rw [C2.o]
 simp only [fg,if_true]
 go_wp2_with fail
 have BA:=zH (BA.o.past (.cells (sN 1 1 d.out) 24))
 have BB:=zH (BB.o.past (.cells (sN 1 1 d.out) 24))
 have BC:=zH (BC.o.past (.cells (sN 1 1 d.out) 24))
 have BD:=zH (Blk.now w2 w2.heap.size 24 (sN 1 1 d.out) rfl)
 have g3:Below w w (w2.alloc (.cells (sN 1 1 d.out) 24)):=g2.alloc g2.size _
 have lt3:w2.heap.size < (w2.alloc (.cells (sN 1 1 d.out) 24)).heap.size:=by simp
 generalize hw3:w2.alloc (.cells (sN 1 1 d.out) 24)=w3 at *
 clear hw3
 refine wp_region_held_drew (S:=fun w'=>w'.cell? ⟨w2.heap.size,0,none⟩=some (.int .i64 1)∧w'.cell? ⟨w2.heap.size,1,none⟩=some (.int .i64 1)∧w'.cell? ⟨w2.heap.size,2,none⟩=some (.int .i64 d.out)∧w'.cell? ⟨w.heap.size,3,none⟩=some (.slice A n cap)∧w'.cell? ⟨w.heap.size+1,9,none⟩=some (.slice W nw cw)∧w'.cell? ⟨w.heap.size+1,10,none⟩=some (.slice B nb cb)∧w'.cell? ⟨w.heap.size+1,7,none⟩=some (.int .i8 d.za)∧Below w w w') kM ?_ (fun hS=>?_)
 ·exact ⟨BD.o.cell 0,BD.o.cell 1,BD.o.cell 2,BA.o.cell 3,BB.o.cell 9,BB.o.cell 10,BB.o.cell 7,g3.drew⟩
 refine kH' 0 hS ?_
 refine kH' 1 hS ?_
 refine kH' 2 hS ?_
 refine kH' 3 hS ?_
 refine kH' 4 hS ?_
 refine kH' 5 hS ?_
 refine kH' 6 hS ?_
 refine kH' 7 hS ?_
 refine kH' 8 hS ?_
 refine rH 9 rfl (fun K hK=>?_)
 go_simp
 refine (ru A W B n cap nw cw nb cb _ _ _ _ _ (HA.o.later g3.drew (lR _)) (HW.o.later g3.drew (lR _)) (HB.o.later g3.drew (lR _)) HD.o.za oM oM oM).mono ?_;rintro e w' ⟨A',n',cap',rfl,hs,hb⟩;have bC:=BC.o.drew.later hb;have cC:=fun i=>bC.cell i;have fC:=fun i=>bC.frozen i;have HSL:=zH hs;clear hs
 refine xK hK (zR hb hS) fun hS=>?_
 clear hK K
 refine kH' 10 hS ?_
 refine rH 11 rfl (fun K hK=>?_)
 go_simp
 refine hK.out _ _ ?_ (fun hS=>?_)
 ·obtain ⟨k0,k1,k2,k3,k4,k5,k6,k7⟩:=hS
  exact ⟨(by (repeat rw [cc _ _ _ _ (by first|(simp;done)|(simp;omega))]);exact k0),(by (repeat rw [cc _ _ _ _ (by first|(simp;done)|(simp;omega))]);exact k1),(by (repeat rw [cc _ _ _ _ (by first|(simp;done)|(simp;omega))]);exact k2),(by (repeat rw [cc _ _ _ _ (by first|(simp;done)|(simp;omega))]);exact k3),(by (repeat rw [cc _ _ _ _ (by first|(simp;done)|(simp;omega))]);exact k4),(by (repeat rw [cc _ _ _ _ (by first|(simp;done)|(simp;omega))]);exact k5),(by (repeat rw [cc _ _ _ _ (by first|(simp;done)|(simp;omega))]);exact k6),(by go_grown)⟩
 clear hK K
 try simp only [pX]
 refine kH' 12 hS ?_
 refine wpAnyH_done kM ?_ _
 have lt5:=BC.o.lt
 have lt6:=g3.size
 have g5:=ai g3.drew hb g3.size
 clear hS hb
 go_wp2_with fail
 refine ret_cell_tmp rfl ((((bC.set_ 0 _).set_ 1 _).set_ 2 _).set_ 3 _) rfl underlying80 kM rfl ?_
 refine ⟨A',n',cap',rfl,?_,by go_grown⟩
 exact lC (w4:=w3.drew) HSL.o lt5 lt6
theorem kQ (t:ae) (A:QA) (n cap:Nat) (d:af) (W:QA) (nw cw:Nat) (B:QA) (nb cb:Nat) (w:World) (ht:ak t) (hd:aE d)
  (ha:xA w A n cap t.data) (hw:xA w W nw cw d.w) (hb:xB w B nb cb d.bias) (c1:t.ok=true) (c2:¬ ap t.h t.v t.c d=0) :
  Calls prog 68 #[.agg (tN t.h t.v t.c A n cap),.agg (nD d W nw cw B nb cb)] w (ar .i32 aj (ap t.h t.v t.c d) w):=by
 have HT:=zH ht
 have HD:=zH hd
 have HA:=zH ha
 have HW:=zH hw
 have HB:=zH hb
 have m1:n≤9223372036854775807:=lT ha.cap_le ha.max_le
 have m2:nw≤9223372036854775807:=lT hw.cap_le hw.max_le
 have m3:nb≤9223372036854775807:=lT hb.cap_le hb.max_le
 clear ht hd ha hw hb
 have c1':decide (0 < ab t.h t.v t.c∧ab t.h t.v t.c=n)=true:=by rw [← HA.o.n_eq];simpa [ae.ok] using c1
 have C1:=zH c1'
 clear c1 c1'
 generalize hk:ap t.h t.v t.c d=k at *
 have hk2:(k != 0)=true:=by rw [bne_iff_ne];exact c2
 have HK:=zH hk
 have HC:=zH c2
 clear hk c2
 go_in
 go_wp2_with fail
 refine qM (aF t.h t.v t.c A n cap _ HT.o.h HT.o.v HT.o.c (lT HA.o.cap_le HA.o.max_le)) fun w1 hb=>?_
 rw [C1.o]
 have g1:=ai (B:=w.heap.size) (a:=w) (by go_grown) hb (by simp;omega)
 have bA:=((Blk.now _ w.heap.size _ _ rfl).past _ |>.past _).later hb
 have bB:=((Blk.now _ (w.heap.size+1) _ _ sM).past _).later hb
 have bC:=(Blk.now _ (w.heap.size+1+1) _ _ sM).later hb
 have BA:=zH bA
 have BB:=zH bB
 have BC:=zH bC
 have cA:=fun i=>bA.cell i
 clear bA bB bC hb
 go_wp2_with (refine lG BB.o ?_)
 refine qM (gd t.h t.v t.c d W nw cw B nb cb _ HT.o.h HT.o.v HT.o.c HD.o.out HW.o.n_eq.symm HB.o.n_eq.symm (lT HW.o.cap_le HW.o.max_le) (lT HB.o.cap_le HB.o.max_le)) fun w2 hb=>?_
 have g2:=ai g1 hb g1.size
 have lt1:=BC.o.lt
 have lt2:=hb.size
 have BA:=zH (BA.o.later hb)
 have BB:=zH (BB.o.later hb)
 have BC:=zH (BC.o.later hb)
 clear hb cA
 rw [HK.o,ip k d.out HC.o]
 have BC:=zH (BC.o.past (.cells (sN 0 0 0) 24))
 have g3:Below w w (w2.alloc (.cells (sN 0 0 0) 24)):=g2.alloc g2.size _
 have fC:=fun i=>BC.o.frozen i
 have cC:=fun i=>BC.o.cell i
 have lt6:=g3.size
 go_wp2_with fail
 refine ret_cell_tmp rfl ((((BC.o.set_ 0 _).set_ 1 _).set_ 2 _).set_ 3 _) rfl underlying80 kM rfl ?_
 exact ar.none (by go_grown)
theorem mE (t:ae) (A:QA) (n cap:Nat) (d:af) (W:QA) (nw cw:Nat) (B:QA) (nb cb:Nat) (w:World) (ht:ak t) (hd:aE d)
  (ha:xA w A n cap t.data) (hw:xA w W nw cw d.w) (hb:xB w B nb cb d.bias) :
  Calls prog 68 #[.agg (tN t.h t.v t.c A n cap),.agg (nD d W nw cw B nb cb)] w (ar .i32 (bk t d).1 (bk t d).2 w):=by
 by_cases c1:t.ok=true
 ·by_cases c2:ap t.h t.v t.c d=0
  ·have e:bk t d=(⟨1,1,d.out,cz t.data d.w d.bias d.za⟩,0):=by unfold bk;rw [if_pos c1,if_pos c2]
   rw [e];exact kR t A n cap d W nw cw B nb cb w ht hd ha hw hb c1 c2
  ·have e:bk t d=(aj,ap t.h t.v t.c d):=by unfold bk;rw [if_pos c1,if_neg c2]
   rw [e];exact kQ t A n cap d W nw cw B nb cb w ht hd ha hw hb c1 c2
 ·have e:bk t d=(aj,5):=by unfold bk;rw [if_neg c1]
  rw [e];exact mF t A n cap d W nw cw B nb cb w ht hd ha hw hb c1
theorem eU (h v c:Int) (d:af) (W:QA) (nw cw:Nat) (B:QA) (nb cb:Nat) (w:World) (h0:InK .i64 h) (h1:InK .i64 v) (h2:InK .i64 c) (hout:InK .i64 d.out) (hnw:nw=d.w.length) (hnb:nb=d.bias.length) (mw:nw≤1048576) (mb:nb≤1048576) :
  Calls prog 105 #[.agg (sN h v c),.agg (nD d W nw cw B nb cb)] w fun e w'=>e=aL (aM h v c d)∧Below w w w':=by
 obtain ⟨r,hr⟩:∃ r,aM h v c d=r:=⟨_,rfl⟩
 rw [hr]
 unfold aM fR at hr
 rw [← hnw,← hnb] at hr
 have OK:=zH (gg (h:=h) (v:=v) (c:=c) (k:=d.k) (s:=d.s) (p:=d.p) (o:=c))
 have SL:=zH (fun w=>dQ h v c d.k d.s d.p c w h0 h1 h2 h2)
 obtain ⟨⟨⟨x1,x2,x3⟩,xe⟩,hx⟩:∃ x,aw h v c d.k d.s d.p c=x:=⟨_,rfl⟩
 rw [hx] at hr OK SL
 simp only [aL] at SL
 have VV:=zH hr.symm
 clear hx hr h0 h1 h2 hout hnw hnb
 have FR:=zW w
 obtain ⟨w1,w2,w3,yw1,yw2,yw3,l1,l2,_,BA,BN,BR,yk3⟩:=bk3 w (sN h v c) 24 (nD d W nw cw B nb cb) 42 (sN 0 0 0) 24
 replace FR:=zF yk3 FR
 clear yk3
 have a2:=BA.o.cell 2
 obtain ⟨n3,n4,n5,n6⟩:=uc4 BN 3 4 5 6
 go_in
 go_wp2_with (refine lG BA.o ?_)
 clear yw1 yw2 yw3 a2 n3 n4 n5 n6
 refine qM (SL.o _) fun w4 hb=>?_
 obtain ⟨FR,BA,BN,BR⟩:=uz4 hb FR BA BN BR
 clear hb
 have l3:w2.heap.size < w4.heap.size:=BR.o.lt
 obtain ⟨w5,yw5,BT,yk5⟩:=nB w4 (sN 0 0 0) 24
 obtain ⟨FR,BA,BN,BR⟩:=uz4 yk5 FR BA BN BR
 clear yk5
 clear SL
 by_cases hxe:xe=0
 rotate_left
 ·have tx:(xe != 0)=true:=by simpa using hxe
  have R:=zH (show r=noS xe by rw [VV.o,if_pos hxe])
  clear hxe VV OK
  go_wp2_with (first
   | (refine sG (sN x1 x2 x3) BT.o ?_;intro w6 BT6 g6;have a2:=(zA g6 BA).o.cell 2;obtain ⟨n3,n6,n9,n10⟩:=uc4 (zA g6 BN) 3 6 9 10;have BR6:=zA g6 BR;have FR6:=zA g6 FR)
   | (refine sG (sN 0 0 0) BR6.o ?_;intro w7 BR7 g7))
  refine rG BR7 ?_;exact ⟨by rw [R.o];rfl,(FR6.o.away g7 oM).out⟩
 subst hxe
 have tx:((0:Int) != 0)=false:=rfl
 have ok:=OK.o rfl
 obtain ⟨m1,hm1⟩:∃ m,c*d.k=m:=⟨_,rfl⟩
 have b1:=dd (a:=c) (b:=d.k) (m:=1024) (n:=5) oM oM oM oM oM
 rw [hm1] at b1
 obtain ⟨m2,hm2⟩:∃ m,m1*d.k=m:=⟨_,rfl⟩
 have b2:=dd (a:=m1) (b:=d.k) (m:=1024*5) (n:=5) oM oM oM oM oM
 rw [hm2] at b2
 have e1:IntKind.i64.wrap (c*d.k)=m1:=by rw [hm1];exact wJ
 have e2:IntKind.i64.wrap (m1*d.k)=m2:=by rw [hm2];exact wJ
 rw [hm1,hm2] at VV
 clear hm1 hm2 b1 b2 ok OK
 have V2:=zH (show r=(if ¬ (nw:Int)=m2 ∨ 16384 < nw ∨ ¬ (nb:Int)=c then noS 9 else ((x1,x2,x3),0)) from VV.o)
 clear VV
 by_cases p1:(nw:Int)=m2
 rotate_left
 ·have t1:((nw:Int) != m2)=true:=by simpa using p1
  have R:=zH (show r=noS 9 by rw [V2.o,if_pos (.inl p1)])
  clear V2 p1
  go_wp2_with (first
   | (refine sG (sN x1 x2 x3) BT.o ?_;intro w6 BT6 g6;have a2:=(zA g6 BA).o.cell 2;obtain ⟨n3,n6,n9,n10⟩:=uc4 (zA g6 BN) 3 6 9 10;have BR6:=zA g6 BR;have FR6:=zA g6 FR)
   | (refine sG (sN 0 0 0) BR6.o ?_;intro w7 BR7 g7))
  refine rG BR7 ?_;exact ⟨by rw [R.o];rfl,(FR6.o.away g7 oM).out⟩
 have t1:((nw:Int) != m2)=false:=by simpa using p1
 have P1:=zH p1
 clear p1
 by_cases p2:16384 < nw
 ·have t2:decide (16384 < (nw:Int))=true:=by simp;omega
  have R:=zH (show r=noS 9 by rw [V2.o,if_pos (.inr (.inl p2))])
  clear V2 p2
  go_wp2_with (first
   | (refine sG (sN x1 x2 x3) BT.o ?_;intro w6 BT6 g6;have a2:=(zA g6 BA).o.cell 2;obtain ⟨n3,n6,n9,n10⟩:=uc4 (zA g6 BN) 3 6 9 10;have BR6:=zA g6 BR;have FR6:=zA g6 FR)
   | (refine sG (sN 0 0 0) BR6.o ?_;intro w7 BR7 g7))
  refine rG BR7 ?_;exact ⟨by rw [R.o];rfl,(FR6.o.away g7 oM).out⟩
 have t2:decide (16384 < (nw:Int))=false:=by simp;omega
 have P2:=zH p2
 clear p2
 by_cases p3:(nb:Int)=c
 rotate_left
 ·have t3:((nb:Int) != c)=true:=by simpa using p3
  have R:=zH (show r=noS 9 by rw [V2.o,if_pos (.inr (.inr p3))])
  clear V2 p3
  go_wp2_with (first
   | (refine sG (sN x1 x2 x3) BT.o ?_;intro w6 BT6 g6;have a2:=(zA g6 BA).o.cell 2;obtain ⟨n3,n6,n9,n10⟩:=uc4 (zA g6 BN) 3 6 9 10;have BR6:=zA g6 BR;have FR6:=zA g6 FR)
   | (refine sG (sN 0 0 0) BR6.o ?_;intro w7 BR7 g7))
  refine rG BR7 ?_;exact ⟨by rw [R.o];rfl,(FR6.o.away g7 oM).out⟩
 have t3:((nb:Int) != c)=false:=by simpa using p3
 have R:=zH (show r=((x1,x2,x3),0) by rw [V2.o,if_neg (by rintro (h|h|h);exact h P1.o;exact P2.o h;exact h p3)])
 clear V2 p3
 go_wp2_with (first
  | (refine sG (sN x1 x2 x3) BT.o ?_;intro w6 BT6 g6;have a2:=(zA g6 BA).o.cell 2;obtain ⟨n3,n6,n9,n10⟩:=uc4 (zA g6 BN) 3 6 9 10;have BR6:=zA g6 BR;have FR6:=zA g6 FR)
  | (refine lG BT6 ?_)
  | (refine sG (sN x1 x2 x3) BR6.o ?_;intro w7 BR7 g7))
 refine rG BR7 ?_;exact ⟨by rw [R.o];rfl,(FR6.o.away g7 oM).out⟩
end Go.Proofs.YtmihnoagagbgaaaGreat
