/-
  Walks of dense (layer 18): the document's shape of what a node makes; all sums, the program's and the document's.
  Walks of dense (layer 18): all sums of a tensor by a node, the program's and the document's.
-/
import Derived.Test.YtjkmjpjknmghlaaGreatJ09
set_option linter.unusedVariables false
set_option linter.unusedSimpArgs false
namespace Go.Proofs.YtjkmjpjknmghlaaGreat
open Go.RowKit Go.ChangeShapes Go.WideShapes
set_option maxRecDepth 100000
set_option maxHeartbeats 2000000 in
theorem rdenseShape_any (h v c:Int) (d:Node) (W:Option Addr) (nw cw:Nat) (B:Option Addr) (nb cb:Nat) (w:World) (h0:InK .i64 h) (h1:InK .i64 v) (h2:InK .i64 c) (hout:InK .i64 d.out)
  (hnw:nw=d.w.length) (hnb:nb=d.bias.length) (mw:nw≤maxLen) (mb:nb≤maxLen) :
  Calls Tryz.prog 56 #[.agg (sN h v c),.agg (nN d.kind d.a d.b d.k d.s d.p d.out d.za d.zb W nw cw B nb cb d.qm d.qs d.qz d.rm d.rs d.rz d.lo d.hi)] w fun e w'=>e=shapeEnd (denseCode h v c d) d.out∧Below w.heap.size w w':=by
 have H0:=zH h0
 have H1:=zH h1
 have H2:=zH h2
 have HO:=zH hout
 have HNW:=zH hnw
 have HNB:=zH hnb
 clear h0 h1 h2 hout hnw hnb
 unfold maxLen at mw mb
 have r1:=elems_range h v c
 have r2:=elems_range 1 1 d.out
 by_cases c1:elems h v c=0
 ·have t1:=c1
  have e:denseCode h v c d=5:=by unfold denseCode;rw [if_pos (.inl c1)]
  have E:=zH e
  have T1:=zH t1
  clear e c1 t1
  go_enter Tryz.func56,Tryz.ntmps56
  go_wp2_with fail
  refine (relems_any h c v _ H0.out H1.out H2.out).mono ?_
  rintro e w1 ⟨rfl,hb⟩
  rw [T1.out]
  have g1:=below_call (B:=w.heap.size) (a:=w) (by go_grown) hb (by simp;omega)
  have bC:=(((Blk.now _ (w.heap.size+1+1) _ _ (by simp)).past _).later hb)
  have fC:=fun i=>bC.frozen i
  have cC:=fun i=>bC.cell i
  clear hb
  go_wp2_with fail
  refine ret_cell_tmp rfl (((bC.set_ 0 _).set_ 1 _).set_ 2 _) rfl Tryz.underlying24 (by kernel_rfl) rfl ⟨?_,by go_grown⟩
  rw [E.out];rfl
 have t1:(elems h v c == 0)=false:=by simpa using c1
 by_cases c2:elems 1 1 d.out=0
 ·have t2:=c2
  have e:denseCode h v c d=5:=by unfold denseCode;rw [if_pos (.inr c2)]
  have E:=zH e
  have T2:=zH t2
  clear e c1 c2 t2
  go_enter Tryz.func56,Tryz.ntmps56
  go_wp2_with fail
  refine (relems_any h c v _ H0.out H1.out H2.out).mono ?_
  rintro e w1 ⟨rfl,hb⟩
  have g1:=below_call (B:=w.heap.size) (a:=w) (by go_grown) hb (by simp;omega)
  have BC:=zH (((Blk.now _ (w.heap.size+1+1) _ _ (by simp)).past _).later hb)
  have bD:=((Blk.now _ (w.heap.size+1+1+1) _ _ (by simp)).later hb)
  have cD:=fun i=>bD.cell i
  clear bD hb
  go_wp2_with fail
  refine (relems_any 1 d.out 1 _ (by decide) (by decide) HO.out).mono ?_
  rintro e w2 ⟨rfl,hb⟩
  rw [T2.out]
  have g2:=below_call g1 hb g1.size
  have bC:=BC.out.later hb
  have lt2:=g2.size
  have fC:=fun i=>bC.frozen i
  have cC:=fun i=>bC.cell i
  clear hb cD
  go_wp2_with fail
  refine ret_cell_tmp rfl (((bC.set_ 0 _).set_ 1 _).set_ 2 _) rfl Tryz.underlying24 (by kernel_rfl) rfl ⟨?_,by go_grown⟩
  rw [E.out];rfl
 have t2:(elems 1 1 d.out == 0)=false:=by simpa using c2
 have hE:denseCode h v c d=if ¬ (nw:Int)=d.out*elems h v c ∨ 16384 < nw ∨ ¬ (nb:Int)=d.out then 9 else 0:=by
  unfold denseCode;rw [if_neg (by omega),HNW.out,HNB.out]
 have o1:1≤d.out∧d.out≤1024:=by
  rw [elems_iff] at c2
  split at c2
  ·omega
  ·exact absurd rfl c2
 have E:=zH hE
 have HC1:=zH c1
 clear hE c1 c2 r2
 go_enter Tryz.func56,Tryz.ntmps56
 go_wp2_with fail
 refine (relems_any h c v _ H0.out H1.out H2.out).mono ?_
 rintro e w1 ⟨rfl,hb⟩
 have g1:=below_call (B:=w.heap.size) (a:=w) (by go_grown) hb (by simp;omega)
 have bA:=((((Blk.now _ w.heap.size _ _ rfl).past _).past _).past _).later hb
 have bB:=(((Blk.now _ (w.heap.size+1) _ _ (by simp)).past _).past _).later hb
 have bC:=((Blk.now _ (w.heap.size+1+1) _ _ (by simp)).past _).later hb
 have bD:=(Blk.now _ (w.heap.size+1+1+1) _ _ (by simp)).later hb
 have BA:=zH bA
 have BB:=zH bB
 have BC:=zH bC
 have BD:=zH bD
 have cD:=fun i=>bD.cell i
 clear bA bB bC bD hb
 go_wp2_with fail
 refine (relems_any 1 d.out 1 _ (by decide) (by decide) HO.out).mono ?_
 rintro e w2 ⟨rfl,hb⟩
 have g2:=below_call g1 hb g1.size
 have BA:=zH (BA.out.later hb)
 have BB:=zH (BB.out.later hb)
 have BC:=zH (BC.out.later hb)
 have BD:=zH (BD.out.later hb)
 clear hb cD
 go_wp2_with fail
 generalize hm:elems h v c=m at *
 have HM:=zH hm
 clear hm
 have hp:0≤d.out*m∧d.out*m≤1024*1024:=⟨Int.mul_nonneg (by omega) (by omega),Int.mul_le_mul o1.2 r1.2 (by omega) (by omega)⟩
 have hwr:IntKind.i64.wrap (d.out*m)=d.out*m:=IntWalk.i64_in _ (by omega)
 have cA:∀ (x:Ext w2) (i:Nat),x.1.cell? ⟨w.heap.size,i,none⟩=((sN h v c):Array Value)[i]?:=fun x i=>(BA.out.ext x).cell i
 have cB6:∀ x:Ext w2,x.1.cell? ⟨w.heap.size+1,6,none⟩=some (.int .i64 d.out):=fun x=>(BB.out.ext x).cell 6
 have cB9:∀ x:Ext w2,x.1.cell? ⟨w.heap.size+1,9,none⟩=some (.slice W nw cw):=fun x=>(BB.out.ext x).cell 9
 have cB10:∀ x:Ext w2,x.1.cell? ⟨w.heap.size+1,10,none⟩=some (.slice B nb cb):=fun x=>(BB.out.ext x).cell 10
 have E1:=zH (fun x:Ext w2=>calls_ext x (relems_any h c v _ H0.out H1.out H2.out))
 rw [HM.out] at E1
 have t3:((nw:Int) != d.out*m)=true∧denseCode h v c d=9 ∨ ((nw:Int) != d.out*m)=false∧(decide ((16384:Int) < (nw:Int))=true∧denseCode h v c d=9 ∨
   decide ((16384:Int) < (nw:Int))=false∧(((nb:Int) != d.out)=true∧denseCode h v c d=9 ∨ ((nb:Int) != d.out)=false∧denseCode h v c d=0)):=by
  rw [E.out]
  by_cases c3:(nw:Int)=d.out*m
  ·refine .inr ⟨by simp [c3],?_⟩
   by_cases c4:16384 < nw
   ·exact .inl ⟨by simp;omega,by rw [if_pos (.inr (.inl c4))]⟩
   ·refine .inr ⟨by simp;omega,?_⟩
    by_cases c5:(nb:Int)=d.out
    ·exact .inr ⟨by simp [c5],by rw [if_neg (by omega)]⟩
    ·exact .inl ⟨by rw [bne_iff_ne];exact c5,by rw [if_pos (.inr (.inr c5))]⟩
  ·exact .inl ⟨by rw [bne_iff_ne];exact c3,by rw [if_pos (.inl c3)]⟩
 clear E
 rcases t3 with ⟨t3,e⟩|⟨t3,⟨t4,e⟩|⟨t4,⟨t5,e⟩|⟨t5,e⟩⟩⟩
 all_goals
  have E:=zH e
  clear e
  refine wp_region_ext w2 (by kernel_rfl) (by kernel_rfl) (Below.refl _ _) ?_
  repeat (go_big_quiet_step ((exact E1.out _)))
  refine wpQuiet_nil ?_
  rintro _ ⟨⟨w3,hB⟩,rfl⟩
  have g3:=below_call g2 hB g2.size
  have lt3:=g3.size
  have bC:=BC.out.later hB
  have bD:=BD.out.later hB
  have fC:=fun i=>bC.frozen i
  have cC:=fun i=>bC.cell i
  have cD:=fun i=>bD.cell i
  clear hB
  go_wp2_with fail
  refine ret_cell_tmp rfl (((bC.set_ 0 _).set_ 1 _).set_ 2 _) rfl Tryz.underlying24 (by kernel_rfl) rfl ⟨?_,by go_grown⟩
  rw [E.out];rfl
theorem shapeEnd_bad (k out:Int) (h:¬ k=0):shapeEnd k out=.returned (.tuple #[.agg (sN 0 0 0),.int .i64 k]):=by unfold shapeEnd;rw [if_neg h]
def denseOf (t:Tensor) (d:Node):Tensor × Int :=
 if t.ok=true then (if denseCode t.h t.v t.c d=0 then (⟨1,1,d.out,denseLine t.data d.w d.bias d.za⟩,0) else (noTensor,denseCode t.h t.v t.c d)) else (noTensor,5)
theorem denseCode_sizes (t:Tensor) (d:Node) (nw nb:Nat) (k1:d.w.length=nw) (k2:d.bias.length=nb) (c2:denseCode t.h t.v t.c d=0):nw≤1048576∧nb≤1024:=by
 unfold denseCode at c2
 split at c2
 ·omega
 ·rename_i hne
  split at c2
  ·omega
  ·rename_i h3
   have o1:1≤d.out∧d.out≤1024:=by
    have:¬ elems 1 1 d.out=0:=fun h=>hne (.inr h)
    rw [elems_iff] at this
    split at this
    ·omega
    ·exact absurd rfl this
   have h4:(d.w.length:Int)=d.out*elems t.h t.v t.c:=Decidable.byContradiction fun h=>h3 (.inl h)
   have h5:d.out*elems t.h t.v t.c≤1024*1024:=Int.mul_le_mul o1.2 (elems_range _ _ _).2 (elems_range _ _ _).1 (by omega)
   omega
theorem acc_kept {w w4 w':World} {A:Option Addr} {n cap:Nat} {l:List Int} {g:Nat} {u0 u1 u2 u3:Value} (h:Sl (tInt .i32) w' (bin w4.heap.size w'.heap.size) A n cap l) (hg:g < w4.heap.size) (hs:w.heap.size≤w4.heap.size) :
  Sl (tInt .i32) ((((w'.setCell ⟨g,0,none⟩ u0).setCell ⟨g,1,none⟩ u1).setCell ⟨g,2,none⟩ u2).setCell ⟨g,3,none⟩ u3)
   (bin w.heap.size ((((w'.setCell ⟨g,0,none⟩ u0).setCell ⟨g,1,none⟩ u1).setCell ⟨g,2,none⟩ u2).setCell ⟨g,3,none⟩ u3).heap.size) A n cap l :=
 (((((h.far _ _ (fun b hb=>by have:=hb.1;simp;omega)).far _ _ (fun b hb=>by have:=hb.1;simp;omega)).far _ _ (fun b hb=>by have:=hb.1;simp;omega)).far _ _ (fun b hb=>by have:=hb.1;simp;omega)).more (bin_more hs (by simp)))
set_option maxHeartbeats 2000000 in
theorem denseOf_bad (t:Tensor) (A:Option Addr) (n cap:Nat) (d:Node) (W:Option Addr) (nw cw:Nat) (B:Option Addr) (nb cb:Nat) (w:World) (ht:TensorIn t) (hd:NodeIn d)
  (ha:Sl (tInt .i8) w (blo w.heap.size) A n cap t.data) (hw:Sl (tInt .i8) w (blo w.heap.size) W nw cw d.w) (hb:Sl (tInt .i32) w (blo w.heap.size) B nb cb d.bias) (c1:¬ t.ok=true) :
  Calls Tryz.prog 123 #[.agg (tN t.h t.v t.c A n cap),.agg (nN d.kind d.a d.b d.k d.s d.p d.out d.za d.zb W nw cw B nb cb d.qm d.qs d.qz d.rm d.rs d.rz d.lo d.hi)] w (RetT .i32 noTensor 5 w):=by
 have HT:=zH ht
 have HD:=zH hd
 have HA:=zH ha
 have HW:=zH hw
 have HB:=zH hb
 have m1:n≤9223372036854775807:=Nat.le_trans ha.cap_le ha.max_le
 have m2:nw≤9223372036854775807:=Nat.le_trans hw.cap_le hw.max_le
 have m3:nb≤9223372036854775807:=Nat.le_trans hb.cap_le hb.max_le
 clear ht hd ha hw hb
 have c1':decide (0 < elems t.h t.v t.c∧elems t.h t.v t.c=n)=false:=by rw [← HA.out.n_eq];simpa [Tensor.ok] using c1
 have C1:=zH c1'
 clear c1 c1'
 go_enter Tryz.func123,Tryz.ntmps123
 go_wp2_with fail
 refine (tensorRight_any t.h t.v t.c A n cap _ HT.out.h HT.out.v HT.out.c (Nat.le_trans HA.out.cap_le HA.out.max_le)).mono ?_
 rintro e w1 ⟨rfl,hb⟩
 rw [C1.out]
 have g1:=below_call (B:=w.heap.size) (a:=w) (by go_grown) hb (by simp;omega)
 have bC:=(Blk.now _ (w.heap.size+1+1) _ _ (by simp)).later hb
 have fC:=fun i=>bC.frozen i
 have cC:=fun i=>bC.cell i
 clear hb
 go_wp2_with fail
 refine ret_cell_tmp rfl ((((bC.set_ 0 _).set_ 1 _).set_ 2 _).set_ 3 _) rfl Tryz.underlying78 (by kernel_rfl) rfl ?_
 exact RetT.none (by go_grown)
set_option maxHeartbeats 2000000 in
theorem denseOf_good (t:Tensor) (A:Option Addr) (n cap:Nat) (d:Node) (W:Option Addr) (nw cw:Nat) (B:Option Addr) (nb cb:Nat) (w:World) (ht:TensorIn t) (hd:NodeIn d)
  (ha:Sl (tInt .i8) w (blo w.heap.size) A n cap t.data) (hw:Sl (tInt .i8) w (blo w.heap.size) W nw cw d.w) (hb:Sl (tInt .i32) w (blo w.heap.size) B nb cb d.bias) (c1:t.ok=true) (c2:denseCode t.h t.v t.c d=0) :
  Calls Tryz.prog 123 #[.agg (tN t.h t.v t.c A n cap),.agg (nN d.kind d.a d.b d.k d.s d.p d.out d.za d.zb W nw cw B nb cb d.qm d.qs d.qz d.rm d.rs d.rz d.lo d.hi)] w (RetT .i32 ⟨1,1,d.out,denseLine t.data d.w d.bias d.za⟩ 0 w):=by
 have HT:=zH ht
 have HD:=zH hd
 have HA:=zH ha
 have HW:=zH hw
 have HB:=zH hb
 have m1:n≤9223372036854775807:=Nat.le_trans ha.cap_le ha.max_le
 have m2:nw≤9223372036854775807:=Nat.le_trans hw.cap_le hw.max_le
 have m3:nb≤9223372036854775807:=Nat.le_trans hb.cap_le hb.max_le
 clear ht hd ha hw hb
 have hq:=denseCode_sizes t d nw nb HW.out.n_eq HB.out.n_eq c2
 have hn2:n≤1024:=by
  have h1:t.ok=true:=c1
  have h2:=HA.out.n_eq
  have h3:=elems_range t.h t.v t.c
  simp only [Tensor.ok,decide_eq_true_eq] at h1
  omega
 have c1':decide (0 < elems t.h t.v t.c∧elems t.h t.v t.c=n)=true:=by rw [← HA.out.n_eq];simpa [Tensor.ok] using c1
 have C1:=zH c1'
 have C2:=zH c2
 clear c1 c1' c2
 go_enter Tryz.func123,Tryz.ntmps123
 go_wp2_with fail
 refine (tensorRight_any t.h t.v t.c A n cap _ HT.out.h HT.out.v HT.out.c (Nat.le_trans HA.out.cap_le HA.out.max_le)).mono ?_
 rintro e w1 ⟨rfl,hb⟩
 rw [C1.out]
 have g1:=below_call (B:=w.heap.size) (a:=w) (by go_grown) hb (by simp;omega)
 have bA:=((Blk.now _ w.heap.size _ _ rfl).past _ |>.past _).later hb
 have bB:=((Blk.now _ (w.heap.size+1) _ _ (by simp)).past _).later hb
 have bC:=(Blk.now _ (w.heap.size+1+1) _ _ (by simp)).later hb
 have BA:=zH bA
 have BB:=zH bB
 have BC:=zH bC
 have cA:=fun i=>bA.cell i
 clear bA bB bC hb
 go_wp2_with (refine lB 44 (.tmp 3) (w.heap.size+1) BB.out Tryz.underlying44 ?_)
 refine (denseShape_any t.h t.v t.c d W nw cw B nb cb _ HT.out.h HT.out.v HT.out.c HD.out.out HW.out.n_eq.symm HB.out.n_eq.symm (Nat.le_trans HW.out.cap_le HW.out.max_le) (Nat.le_trans HB.out.cap_le HB.out.max_le)).mono ?_
 rintro e w2 ⟨rfl,hb⟩
 have g2:=below_call g1 hb g1.size
 have lt1:=BC.out.lt
 have lt2:=hb.size
 have BA:=zH (BA.out.later hb)
 have BB:=zH (BB.out.later hb)
 have BC:=zH (BC.out.later hb)
 clear hb cA
 rw [C2.out]
 simp only [shapeEnd,if_true]
 go_wp2_with fail
 have BA:=zH (BA.out.past (.cells (sN 1 1 d.out) 24))
 have BB:=zH (BB.out.past (.cells (sN 1 1 d.out) 24))
 have BC:=zH (BC.out.past (.cells (sN 1 1 d.out) 24))
 have BD:=zH (Blk.now w2 w2.heap.size 24 (sN 1 1 d.out) rfl)
 have g3:Below w.heap.size w (w2.alloc (.cells (sN 1 1 d.out) 24)):=g2.alloc g2.size _
 have lt3:w2.heap.size < (w2.alloc (.cells (sN 1 1 d.out) 24)).heap.size:=by simp
 generalize hw3:w2.alloc (.cells (sN 1 1 d.out) 24)=w3 at *
 clear hw3
 refine wp_region_held_drew (S:=fun w'=>w'.cell? ⟨w2.heap.size,0,none⟩=some (.int .i64 1)∧w'.cell? ⟨w2.heap.size,1,none⟩=some (.int .i64 1)∧w'.cell? ⟨w2.heap.size,2,none⟩=some (.int .i64 d.out)∧w'.cell? ⟨w.heap.size,3,none⟩=some (.slice A n cap)∧w'.cell? ⟨w.heap.size+1,9,none⟩=some (.slice W nw cw)∧w'.cell? ⟨w.heap.size+1,10,none⟩=some (.slice B nb cb)∧w'.cell? ⟨w.heap.size+1,7,none⟩=some (.int .i8 d.za)∧Below w.heap.size w w') (by kernel_rfl) ?_ (fun hS=>?_)
 ·exact ⟨BD.out.cell 0,BD.out.cell 1,BD.out.cell 2,BA.out.cell 3,BB.out.cell 9,BB.out.cell 10,BB.out.cell 7,g3.drew⟩
 refine kH 0 rfl hS ?_
 try simp only [pX]
 refine kH 1 rfl hS ?_
 try simp only [pX]
 refine kH 2 rfl hS ?_
 try simp only [pX]
 refine kH 3 rfl hS ?_
 try simp only [pX]
 refine kH 4 rfl hS ?_
 try simp only [pX]
 refine kH 5 rfl hS ?_
 try simp only [pX]
 refine kH 6 rfl hS ?_
 try simp only [pX]
 refine kH 7 rfl hS ?_
 try simp only [pX]
 refine kH 8 rfl hS ?_
 try simp only [pX]
 refine rH 9 rfl (fun K hK=>?_)
 go_simp
 refine (line_any A W B n cap nw cw nb cb _ _ _ _ _ (HA.out.later g3.drew (Nat.le_refl _)) (HW.out.later g3.drew (Nat.le_refl _)) (HB.out.later g3.drew (Nat.le_refl _)) HD.out.za (by omega) (by omega) (by omega)).mono ?_;rintro e w' ⟨A',n',cap',rfl,hs,hb⟩;have bC:=BC.out.drew.later hb;have cC:=fun i=>bC.cell i;have fC:=fun i=>bC.frozen i;have HSL:=zH hs;clear hs
 refine hK.out _ _ ?_ (fun hS=>?_)
 ·exact ⟨(by first|exact cell_later hb hS.1|exact Blk.later hS.1 hb),(by first|exact cell_later hb hS.2.1|exact Blk.later hS.2.1 hb),(by first|exact cell_later hb hS.2.2.1|exact Blk.later hS.2.2.1 hb),(by first|exact cell_later hb hS.2.2.2.1|exact Blk.later hS.2.2.2.1 hb),(by first|exact cell_later hb hS.2.2.2.2.1|exact Blk.later hS.2.2.2.2.1 hb),(by first|exact cell_later hb hS.2.2.2.2.2.1|exact Blk.later hS.2.2.2.2.2.1 hb),(by first|exact cell_later hb hS.2.2.2.2.2.2.1|exact Blk.later hS.2.2.2.2.2.2.1 hb),below_later hb hS.2.2.2.2.2.2.2⟩
 clear hK K
 try simp only [pX]
 refine kH 10 rfl hS ?_
 try simp only [pX]
 refine rH 11 rfl (fun K hK=>?_)
 go_simp
 refine hK.out _ _ ?_ (fun hS=>?_)
 ·obtain ⟨k0,k1,k2,k3,k4,k5,k6,k7⟩:=hS
  exact ⟨(by (repeat rw [cell_far _ _ _ _ (by first|(simp;done)|(simp;omega))]);exact k0),(by (repeat rw [cell_far _ _ _ _ (by first|(simp;done)|(simp;omega))]);exact k1),(by (repeat rw [cell_far _ _ _ _ (by first|(simp;done)|(simp;omega))]);exact k2),(by (repeat rw [cell_far _ _ _ _ (by first|(simp;done)|(simp;omega))]);exact k3),(by (repeat rw [cell_far _ _ _ _ (by first|(simp;done)|(simp;omega))]);exact k4),(by (repeat rw [cell_far _ _ _ _ (by first|(simp;done)|(simp;omega))]);exact k5),(by (repeat rw [cell_far _ _ _ _ (by first|(simp;done)|(simp;omega))]);exact k6),(by go_grown)⟩
 clear hK K
 try simp only [pX]
 refine kH 12 rfl hS ?_
 try simp only [pX]
 refine wpAnyH_done (by kernel_rfl) ?_ _
 have lt5:=BC.out.lt
 have lt6:=g3.size
 have g5:=below_call g3.drew hb g3.size
 clear hS hb
 go_wp2_with fail
 refine ret_cell_tmp rfl ((((bC.set_ 0 _).set_ 1 _).set_ 2 _).set_ 3 _) rfl Tryz.underlying78 (by kernel_rfl) rfl ?_
 refine ⟨A',n',cap',rfl,?_,by go_grown⟩
 exact acc_kept (w4:=w3.drew) HSL.out lt5 lt6
set_option maxHeartbeats 2000000 in
theorem denseOf_code (t:Tensor) (A:Option Addr) (n cap:Nat) (d:Node) (W:Option Addr) (nw cw:Nat) (B:Option Addr) (nb cb:Nat) (w:World) (ht:TensorIn t) (hd:NodeIn d)
  (ha:Sl (tInt .i8) w (blo w.heap.size) A n cap t.data) (hw:Sl (tInt .i8) w (blo w.heap.size) W nw cw d.w) (hb:Sl (tInt .i32) w (blo w.heap.size) B nb cb d.bias) (c1:t.ok=true) (c2:¬ denseCode t.h t.v t.c d=0) :
  Calls Tryz.prog 123 #[.agg (tN t.h t.v t.c A n cap),.agg (nN d.kind d.a d.b d.k d.s d.p d.out d.za d.zb W nw cw B nb cb d.qm d.qs d.qz d.rm d.rs d.rz d.lo d.hi)] w (RetT .i32 noTensor (denseCode t.h t.v t.c d) w):=by
 have HT:=zH ht
 have HD:=zH hd
 have HA:=zH ha
 have HW:=zH hw
 have HB:=zH hb
 have m1:n≤9223372036854775807:=Nat.le_trans ha.cap_le ha.max_le
 have m2:nw≤9223372036854775807:=Nat.le_trans hw.cap_le hw.max_le
 have m3:nb≤9223372036854775807:=Nat.le_trans hb.cap_le hb.max_le
 clear ht hd ha hw hb
 have c1':decide (0 < elems t.h t.v t.c∧elems t.h t.v t.c=n)=true:=by rw [← HA.out.n_eq];simpa [Tensor.ok] using c1
 have C1:=zH c1'
 clear c1 c1'
 generalize hk:denseCode t.h t.v t.c d=k at *
 have hk2:(k != 0)=true:=by rw [bne_iff_ne];exact c2
 have HK:=zH hk
 have HC:=zH c2
 clear hk c2
 go_enter Tryz.func123,Tryz.ntmps123
 go_wp2_with fail
 refine (tensorRight_any t.h t.v t.c A n cap _ HT.out.h HT.out.v HT.out.c (Nat.le_trans HA.out.cap_le HA.out.max_le)).mono ?_
 rintro e w1 ⟨rfl,hb⟩
 rw [C1.out]
 have g1:=below_call (B:=w.heap.size) (a:=w) (by go_grown) hb (by simp;omega)
 have bA:=((Blk.now _ w.heap.size _ _ rfl).past _ |>.past _).later hb
 have bB:=((Blk.now _ (w.heap.size+1) _ _ (by simp)).past _).later hb
 have bC:=(Blk.now _ (w.heap.size+1+1) _ _ (by simp)).later hb
 have BA:=zH bA
 have BB:=zH bB
 have BC:=zH bC
 have cA:=fun i=>bA.cell i
 clear bA bB bC hb
 go_wp2_with (refine lB 44 (.tmp 3) (w.heap.size+1) BB.out Tryz.underlying44 ?_)
 refine (denseShape_any t.h t.v t.c d W nw cw B nb cb _ HT.out.h HT.out.v HT.out.c HD.out.out HW.out.n_eq.symm HB.out.n_eq.symm (Nat.le_trans HW.out.cap_le HW.out.max_le) (Nat.le_trans HB.out.cap_le HB.out.max_le)).mono ?_
 rintro e w2 ⟨rfl,hb⟩
 have g2:=below_call g1 hb g1.size
 have lt1:=BC.out.lt
 have lt2:=hb.size
 have BA:=zH (BA.out.later hb)
 have BB:=zH (BB.out.later hb)
 have BC:=zH (BC.out.later hb)
 clear hb cA
 rw [HK.out,shapeEnd_bad k d.out HC.out]
 have BC:=zH (BC.out.past (.cells (sN 0 0 0) 24))
 have g3:Below w.heap.size w (w2.alloc (.cells (sN 0 0 0) 24)):=g2.alloc g2.size _
 have fC:=fun i=>BC.out.frozen i
 have cC:=fun i=>BC.out.cell i
 have lt6:=g3.size
 go_wp2_with fail
 refine ret_cell_tmp rfl ((((BC.out.set_ 0 _).set_ 1 _).set_ 2 _).set_ 3 _) rfl Tryz.underlying78 (by kernel_rfl) rfl ?_
 exact RetT.none (by go_grown)
theorem denseOf_any (t:Tensor) (A:Option Addr) (n cap:Nat) (d:Node) (W:Option Addr) (nw cw:Nat) (B:Option Addr) (nb cb:Nat) (w:World) (ht:TensorIn t) (hd:NodeIn d)
  (ha:Sl (tInt .i8) w (blo w.heap.size) A n cap t.data) (hw:Sl (tInt .i8) w (blo w.heap.size) W nw cw d.w) (hb:Sl (tInt .i32) w (blo w.heap.size) B nb cb d.bias) :
  Calls Tryz.prog 123 #[.agg (tN t.h t.v t.c A n cap),.agg (nN d.kind d.a d.b d.k d.s d.p d.out d.za d.zb W nw cw B nb cb d.qm d.qs d.qz d.rm d.rs d.rz d.lo d.hi)] w (RetT .i32 (denseOf t d).1 (denseOf t d).2 w):=by
 by_cases c1:t.ok=true
 ·by_cases c2:denseCode t.h t.v t.c d=0
  ·have e:denseOf t d=(⟨1,1,d.out,denseLine t.data d.w d.bias d.za⟩,0):=by unfold denseOf;rw [if_pos c1,if_pos c2]
   rw [e];exact denseOf_good t A n cap d W nw cw B nb cb w ht hd ha hw hb c1 c2
  ·have e:denseOf t d=(noTensor,denseCode t.h t.v t.c d):=by unfold denseOf;rw [if_pos c1,if_neg c2]
   rw [e];exact denseOf_code t A n cap d W nw cw B nb cb w ht hd ha hw hb c1 c2
 ·have e:denseOf t d=(noTensor,5):=by unfold denseOf;rw [if_neg c1]
  rw [e];exact denseOf_bad t A n cap d W nw cw B nb cb w ht hd ha hw hb c1
set_option maxHeartbeats 2000000 in
theorem rdenseOf_bad (t:Tensor) (A:Option Addr) (n cap:Nat) (d:Node) (W:Option Addr) (nw cw:Nat) (B:Option Addr) (nb cb:Nat) (w:World) (ht:TensorIn t) (hd:NodeIn d)
  (ha:Sl (tInt .i8) w (blo w.heap.size) A n cap t.data) (hw:Sl (tInt .i8) w (blo w.heap.size) W nw cw d.w) (hb:Sl (tInt .i32) w (blo w.heap.size) B nb cb d.bias) (c1:¬ t.ok=true) :
  Calls Tryz.prog 66 #[.agg (tN t.h t.v t.c A n cap),.agg (nN d.kind d.a d.b d.k d.s d.p d.out d.za d.zb W nw cw B nb cb d.qm d.qs d.qz d.rm d.rs d.rz d.lo d.hi)] w (RetT .i32 noTensor 5 w):=by
 have HT:=zH ht
 have HD:=zH hd
 have HA:=zH ha
 have HW:=zH hw
 have HB:=zH hb
 have m1:n≤9223372036854775807:=Nat.le_trans ha.cap_le ha.max_le
 have m2:nw≤9223372036854775807:=Nat.le_trans hw.cap_le hw.max_le
 have m3:nb≤9223372036854775807:=Nat.le_trans hb.cap_le hb.max_le
 clear ht hd ha hw hb
 have c1':decide (0 < elems t.h t.v t.c∧elems t.h t.v t.c=n)=false:=by rw [← HA.out.n_eq];simpa [Tensor.ok] using c1
 have C1:=zH c1'
 clear c1 c1'
 go_enter Tryz.func66,Tryz.ntmps66
 go_wp2_with fail
 refine (rtensorRight_any t.h t.v t.c A n cap _ HT.out.h HT.out.v HT.out.c (Nat.le_trans HA.out.cap_le HA.out.max_le)).mono ?_
 rintro e w1 ⟨rfl,hb⟩
 rw [C1.out]
 have g1:=below_call (B:=w.heap.size) (a:=w) (by go_grown) hb (by simp;omega)
 have bC:=(Blk.now _ (w.heap.size+1+1) _ _ (by simp)).later hb
 have fC:=fun i=>bC.frozen i
 have cC:=fun i=>bC.cell i
 clear hb
 go_wp2_with fail
 refine ret_cell_tmp rfl ((((bC.set_ 0 _).set_ 1 _).set_ 2 _).set_ 3 _) rfl Tryz.underlying78 (by kernel_rfl) rfl ?_
 exact RetT.none (by go_grown)
set_option maxHeartbeats 2000000 in
theorem rdenseOf_good (t:Tensor) (A:Option Addr) (n cap:Nat) (d:Node) (W:Option Addr) (nw cw:Nat) (B:Option Addr) (nb cb:Nat) (w:World) (ht:TensorIn t) (hd:NodeIn d)
  (ha:Sl (tInt .i8) w (blo w.heap.size) A n cap t.data) (hw:Sl (tInt .i8) w (blo w.heap.size) W nw cw d.w) (hb:Sl (tInt .i32) w (blo w.heap.size) B nb cb d.bias) (c1:t.ok=true) (c2:denseCode t.h t.v t.c d=0) :
  Calls Tryz.prog 66 #[.agg (tN t.h t.v t.c A n cap),.agg (nN d.kind d.a d.b d.k d.s d.p d.out d.za d.zb W nw cw B nb cb d.qm d.qs d.qz d.rm d.rs d.rz d.lo d.hi)] w (RetT .i32 ⟨1,1,d.out,denseLine t.data d.w d.bias d.za⟩ 0 w):=by
 have HT:=zH ht
 have HD:=zH hd
 have HA:=zH ha
 have HW:=zH hw
 have HB:=zH hb
 have m1:n≤9223372036854775807:=Nat.le_trans ha.cap_le ha.max_le
 have m2:nw≤9223372036854775807:=Nat.le_trans hw.cap_le hw.max_le
 have m3:nb≤9223372036854775807:=Nat.le_trans hb.cap_le hb.max_le
 clear ht hd ha hw hb
 have hq:=denseCode_sizes t d nw nb HW.out.n_eq HB.out.n_eq c2
 have hn2:n≤1024:=by
  have h1:t.ok=true:=c1
  have h2:=HA.out.n_eq
  have h3:=elems_range t.h t.v t.c
  simp only [Tensor.ok,decide_eq_true_eq] at h1
  omega
 have c1':decide (0 < elems t.h t.v t.c∧elems t.h t.v t.c=n)=true:=by rw [← HA.out.n_eq];simpa [Tensor.ok] using c1
 have C1:=zH c1'
 have C2:=zH c2
 clear c1 c1' c2
 go_enter Tryz.func66,Tryz.ntmps66
 go_wp2_with fail
 refine (rtensorRight_any t.h t.v t.c A n cap _ HT.out.h HT.out.v HT.out.c (Nat.le_trans HA.out.cap_le HA.out.max_le)).mono ?_
 rintro e w1 ⟨rfl,hb⟩
 rw [C1.out]
 have g1:=below_call (B:=w.heap.size) (a:=w) (by go_grown) hb (by simp;omega)
 have bA:=((Blk.now _ w.heap.size _ _ rfl).past _ |>.past _).later hb
 have bB:=((Blk.now _ (w.heap.size+1) _ _ (by simp)).past _).later hb
 have bC:=(Blk.now _ (w.heap.size+1+1) _ _ (by simp)).later hb
 have BA:=zH bA
 have BB:=zH bB
 have BC:=zH bC
 have cA:=fun i=>bA.cell i
 clear bA bB bC hb
 go_wp2_with (refine lB 44 (.tmp 3) (w.heap.size+1) BB.out Tryz.underlying44 ?_)
 refine (rdenseShape_any t.h t.v t.c d W nw cw B nb cb _ HT.out.h HT.out.v HT.out.c HD.out.out HW.out.n_eq.symm HB.out.n_eq.symm (Nat.le_trans HW.out.cap_le HW.out.max_le) (Nat.le_trans HB.out.cap_le HB.out.max_le)).mono ?_
 rintro e w2 ⟨rfl,hb⟩
 have g2:=below_call g1 hb g1.size
 have lt1:=BC.out.lt
 have lt2:=hb.size
 have BA:=zH (BA.out.later hb)
 have BB:=zH (BB.out.later hb)
 have BC:=zH (BC.out.later hb)
 clear hb cA
 rw [C2.out]
 simp only [shapeEnd,if_true]
 go_wp2_with fail
 have BA:=zH (BA.out.past (.cells (sN 1 1 d.out) 24))
 have BB:=zH (BB.out.past (.cells (sN 1 1 d.out) 24))
 have BC:=zH (BC.out.past (.cells (sN 1 1 d.out) 24))
 have BD:=zH (Blk.now w2 w2.heap.size 24 (sN 1 1 d.out) rfl)
 have g3:Below w.heap.size w (w2.alloc (.cells (sN 1 1 d.out) 24)):=g2.alloc g2.size _
 have lt3:w2.heap.size < (w2.alloc (.cells (sN 1 1 d.out) 24)).heap.size:=by simp
 generalize hw3:w2.alloc (.cells (sN 1 1 d.out) 24)=w3 at *
 clear hw3
 refine wp_region_held_drew (S:=fun w'=>w'.cell? ⟨w2.heap.size,0,none⟩=some (.int .i64 1)∧w'.cell? ⟨w2.heap.size,1,none⟩=some (.int .i64 1)∧w'.cell? ⟨w2.heap.size,2,none⟩=some (.int .i64 d.out)∧w'.cell? ⟨w.heap.size,3,none⟩=some (.slice A n cap)∧w'.cell? ⟨w.heap.size+1,9,none⟩=some (.slice W nw cw)∧w'.cell? ⟨w.heap.size+1,10,none⟩=some (.slice B nb cb)∧w'.cell? ⟨w.heap.size+1,7,none⟩=some (.int .i8 d.za)∧Below w.heap.size w w') (by kernel_rfl) ?_ (fun hS=>?_)
 ·exact ⟨BD.out.cell 0,BD.out.cell 1,BD.out.cell 2,BA.out.cell 3,BB.out.cell 9,BB.out.cell 10,BB.out.cell 7,g3.drew⟩
 refine kH 0 rfl hS ?_
 try simp only [pX]
 refine kH 1 rfl hS ?_
 try simp only [pX]
 refine kH 2 rfl hS ?_
 try simp only [pX]
 refine kH 3 rfl hS ?_
 try simp only [pX]
 refine kH 4 rfl hS ?_
 try simp only [pX]
 refine kH 5 rfl hS ?_
 try simp only [pX]
 refine kH 6 rfl hS ?_
 try simp only [pX]
 refine kH 7 rfl hS ?_
 try simp only [pX]
 refine kH 8 rfl hS ?_
 try simp only [pX]
 refine rH 9 rfl (fun K hK=>?_)
 go_simp
 refine (rline_any A W B n cap nw cw nb cb _ _ _ _ _ (HA.out.later g3.drew (Nat.le_refl _)) (HW.out.later g3.drew (Nat.le_refl _)) (HB.out.later g3.drew (Nat.le_refl _)) HD.out.za (by omega) (by omega) (by omega)).mono ?_;rintro e w' ⟨A',n',cap',rfl,hs,hb⟩;have bC:=BC.out.drew.later hb;have cC:=fun i=>bC.cell i;have fC:=fun i=>bC.frozen i;have HSL:=zH hs;clear hs
 refine hK.out _ _ ?_ (fun hS=>?_)
 ·exact ⟨(by first|exact cell_later hb hS.1|exact Blk.later hS.1 hb),(by first|exact cell_later hb hS.2.1|exact Blk.later hS.2.1 hb),(by first|exact cell_later hb hS.2.2.1|exact Blk.later hS.2.2.1 hb),(by first|exact cell_later hb hS.2.2.2.1|exact Blk.later hS.2.2.2.1 hb),(by first|exact cell_later hb hS.2.2.2.2.1|exact Blk.later hS.2.2.2.2.1 hb),(by first|exact cell_later hb hS.2.2.2.2.2.1|exact Blk.later hS.2.2.2.2.2.1 hb),(by first|exact cell_later hb hS.2.2.2.2.2.2.1|exact Blk.later hS.2.2.2.2.2.2.1 hb),below_later hb hS.2.2.2.2.2.2.2⟩
 clear hK K
 try simp only [pX]
 refine kH 10 rfl hS ?_
 try simp only [pX]
 refine rH 11 rfl (fun K hK=>?_)
 go_simp
 refine hK.out _ _ ?_ (fun hS=>?_)
 ·obtain ⟨k0,k1,k2,k3,k4,k5,k6,k7⟩:=hS
  exact ⟨(by (repeat rw [cell_far _ _ _ _ (by first|(simp;done)|(simp;omega))]);exact k0),(by (repeat rw [cell_far _ _ _ _ (by first|(simp;done)|(simp;omega))]);exact k1),(by (repeat rw [cell_far _ _ _ _ (by first|(simp;done)|(simp;omega))]);exact k2),(by (repeat rw [cell_far _ _ _ _ (by first|(simp;done)|(simp;omega))]);exact k3),(by (repeat rw [cell_far _ _ _ _ (by first|(simp;done)|(simp;omega))]);exact k4),(by (repeat rw [cell_far _ _ _ _ (by first|(simp;done)|(simp;omega))]);exact k5),(by (repeat rw [cell_far _ _ _ _ (by first|(simp;done)|(simp;omega))]);exact k6),(by go_grown)⟩
 clear hK K
 try simp only [pX]
 refine kH 12 rfl hS ?_
 try simp only [pX]
 refine wpAnyH_done (by kernel_rfl) ?_ _
 have lt5:=BC.out.lt
 have lt6:=g3.size
 have g5:=below_call g3.drew hb g3.size
 clear hS hb
 go_wp2_with fail
 refine ret_cell_tmp rfl ((((bC.set_ 0 _).set_ 1 _).set_ 2 _).set_ 3 _) rfl Tryz.underlying78 (by kernel_rfl) rfl ?_
 refine ⟨A',n',cap',rfl,?_,by go_grown⟩
 exact acc_kept (w4:=w3.drew) HSL.out lt5 lt6
set_option maxHeartbeats 2000000 in
theorem rdenseOf_code (t:Tensor) (A:Option Addr) (n cap:Nat) (d:Node) (W:Option Addr) (nw cw:Nat) (B:Option Addr) (nb cb:Nat) (w:World) (ht:TensorIn t) (hd:NodeIn d)
  (ha:Sl (tInt .i8) w (blo w.heap.size) A n cap t.data) (hw:Sl (tInt .i8) w (blo w.heap.size) W nw cw d.w) (hb:Sl (tInt .i32) w (blo w.heap.size) B nb cb d.bias) (c1:t.ok=true) (c2:¬ denseCode t.h t.v t.c d=0) :
  Calls Tryz.prog 66 #[.agg (tN t.h t.v t.c A n cap),.agg (nN d.kind d.a d.b d.k d.s d.p d.out d.za d.zb W nw cw B nb cb d.qm d.qs d.qz d.rm d.rs d.rz d.lo d.hi)] w (RetT .i32 noTensor (denseCode t.h t.v t.c d) w):=by
 have HT:=zH ht
 have HD:=zH hd
 have HA:=zH ha
 have HW:=zH hw
 have HB:=zH hb
 have m1:n≤9223372036854775807:=Nat.le_trans ha.cap_le ha.max_le
 have m2:nw≤9223372036854775807:=Nat.le_trans hw.cap_le hw.max_le
 have m3:nb≤9223372036854775807:=Nat.le_trans hb.cap_le hb.max_le
 clear ht hd ha hw hb
 have c1':decide (0 < elems t.h t.v t.c∧elems t.h t.v t.c=n)=true:=by rw [← HA.out.n_eq];simpa [Tensor.ok] using c1
 have C1:=zH c1'
 clear c1 c1'
 generalize hk:denseCode t.h t.v t.c d=k at *
 have hk2:(k != 0)=true:=by rw [bne_iff_ne];exact c2
 have HK:=zH hk
 have HC:=zH c2
 clear hk c2
 go_enter Tryz.func66,Tryz.ntmps66
 go_wp2_with fail
 refine (rtensorRight_any t.h t.v t.c A n cap _ HT.out.h HT.out.v HT.out.c (Nat.le_trans HA.out.cap_le HA.out.max_le)).mono ?_
 rintro e w1 ⟨rfl,hb⟩
 rw [C1.out]
 have g1:=below_call (B:=w.heap.size) (a:=w) (by go_grown) hb (by simp;omega)
 have bA:=((Blk.now _ w.heap.size _ _ rfl).past _ |>.past _).later hb
 have bB:=((Blk.now _ (w.heap.size+1) _ _ (by simp)).past _).later hb
 have bC:=(Blk.now _ (w.heap.size+1+1) _ _ (by simp)).later hb
 have BA:=zH bA
 have BB:=zH bB
 have BC:=zH bC
 have cA:=fun i=>bA.cell i
 clear bA bB bC hb
 go_wp2_with (refine lB 44 (.tmp 3) (w.heap.size+1) BB.out Tryz.underlying44 ?_)
 refine (rdenseShape_any t.h t.v t.c d W nw cw B nb cb _ HT.out.h HT.out.v HT.out.c HD.out.out HW.out.n_eq.symm HB.out.n_eq.symm (Nat.le_trans HW.out.cap_le HW.out.max_le) (Nat.le_trans HB.out.cap_le HB.out.max_le)).mono ?_
 rintro e w2 ⟨rfl,hb⟩
 have g2:=below_call g1 hb g1.size
 have lt1:=BC.out.lt
 have lt2:=hb.size
 have BA:=zH (BA.out.later hb)
 have BB:=zH (BB.out.later hb)
 have BC:=zH (BC.out.later hb)
 clear hb cA
 rw [HK.out,shapeEnd_bad k d.out HC.out]
 have BC:=zH (BC.out.past (.cells (sN 0 0 0) 24))
 have g3:Below w.heap.size w (w2.alloc (.cells (sN 0 0 0) 24)):=g2.alloc g2.size _
 have fC:=fun i=>BC.out.frozen i
 have cC:=fun i=>BC.out.cell i
 have lt6:=g3.size
 go_wp2_with fail
 refine ret_cell_tmp rfl ((((BC.out.set_ 0 _).set_ 1 _).set_ 2 _).set_ 3 _) rfl Tryz.underlying78 (by kernel_rfl) rfl ?_
 exact RetT.none (by go_grown)
theorem rdenseOf_any (t:Tensor) (A:Option Addr) (n cap:Nat) (d:Node) (W:Option Addr) (nw cw:Nat) (B:Option Addr) (nb cb:Nat) (w:World) (ht:TensorIn t) (hd:NodeIn d)
  (ha:Sl (tInt .i8) w (blo w.heap.size) A n cap t.data) (hw:Sl (tInt .i8) w (blo w.heap.size) W nw cw d.w) (hb:Sl (tInt .i32) w (blo w.heap.size) B nb cb d.bias) :
  Calls Tryz.prog 66 #[.agg (tN t.h t.v t.c A n cap),.agg (nN d.kind d.a d.b d.k d.s d.p d.out d.za d.zb W nw cw B nb cb d.qm d.qs d.qz d.rm d.rs d.rz d.lo d.hi)] w (RetT .i32 (denseOf t d).1 (denseOf t d).2 w):=by
 by_cases c1:t.ok=true
 ·by_cases c2:denseCode t.h t.v t.c d=0
  ·have e:denseOf t d=(⟨1,1,d.out,denseLine t.data d.w d.bias d.za⟩,0):=by unfold denseOf;rw [if_pos c1,if_pos c2]
   rw [e];exact rdenseOf_good t A n cap d W nw cw B nb cb w ht hd ha hw hb c1 c2
  ·have e:denseOf t d=(noTensor,denseCode t.h t.v t.c d):=by unfold denseOf;rw [if_pos c1,if_neg c2]
   rw [e];exact rdenseOf_code t A n cap d W nw cw B nb cb w ht hd ha hw hb c1 c2
 ·have e:denseOf t d=(noTensor,5):=by unfold denseOf;rw [if_neg c1]
  rw [e];exact rdenseOf_bad t A n cap d W nw cw B nb cb w ht hd ha hw hb c1
end Go.Proofs.YtjkmjpjknmghlaaGreat
