/-
  Tensors that may be (layer 5).
  tensor (layer 5): what a right tensor is.
  The shape of what a window makes (layer 4): shape.Slide, the document's Slide.
  The shape that a node makes (layers 10, 17): conv.Shape, depth.Shape, the document's.
  The shape that a node makes (layers 18, 25): what they are, in numbers.
  The sums of convolutions (layers 10, 14, 16, 17): what the shapes say, in whole numbers; the values.
  'make([]T, n)' of numbers as an operation by itself (in a region that draws its order); a list that is filled here and there.
  'T{x}' of one struct: a block of its cells (a law for the operation, so that the walk need not run it).
  An empty row of a call's own.
-/
import Derived.Test.YtjkmjpjknmghlaaGreatJ08
import Derived.Test.YtjkmjpjknmghlaaGreatJ02
set_option linter.unusedVariables false
set_option linter.unusedSimpArgs false
namespace Go.Proofs.YtjkmjpjknmghlaaGreat
open Go.RowKit Go.ChangeShapes Go.WideShapes
set_option maxRecDepth 100000
theorem tensorRight_any (h v c:Int) (A:Option Addr) (n cap:Nat) (w:World) (h0:InK .i64 h) (h1:InK .i64 v) (h2:InK .i64 c) (hn:n≤maxLen) :
  Calls Tryz.prog 13 #[.agg #[.int .i64 h,.int .i64 v,.int .i64 c,.slice A n cap]] w fun e w'=>e=.returned (.bool (decide (0 < elems h v c∧elems h v c=n)))∧Below w.heap.size w w':=by
 have H0:=zH h0
 have H1:=zH h1
 have H2:=zH h2
 unfold maxLen at hn
 clear h0 h1 h2
 go_enter Tryz.func13,Tryz.ntmps13
 go_wp2_with fail
 refine (elems_any h c v _ H0.out H1.out H2.out).mono ?_
 rintro e w' ⟨rfl,hb⟩
 have hc:=cell_below hb (p:=⟨w.heap.size,3,none⟩) (v:=.slice A n cap) (by simp [go_sem]) (by simp)
 generalize he:elems h v c=m at *
 have HE:=zH he
 clear he
 by_cases hm:0 < m
 ·go_wp2_with fail
  go_ret
  exact ⟨ret_bool (by rw [HE.out,Bool.eq_iff_iff];simp [hm]),((Below.refl _ _).alloc (Nat.le_refl _) _).trans (hb.mono (by simp))⟩
 ·go_wp2_with fail
  go_ret
  exact ⟨ret_bool (by rw [HE.out,Bool.eq_iff_iff];simp;omega),((Below.refl _ _).alloc (Nat.le_refl _) _).trans (hb.mono (by simp))⟩
def Tensor.ok (t:Tensor):Bool:=decide (0 < elems t.h t.v t.c∧elems t.h t.v t.c=t.data.length)
theorem Sl.far {α:Type} {t:Ty α} {w:World} {S:Nat → Prop} {A:Option Addr} {n cap:Nat} {l:List α} (h:Sl t w S A n cap l) (p:Addr) (u:Value) (hp:∀ b,S b → b ≠ p.block):Sl t (w.setCell p u) S A n cap l :=
 h.keep fun b hb=>Below.heap_setCell w p u b (hp b hb)
abbrev ShE:=(Int × Int × Int) × Int
def retS (x:ShE):Ending:=.returned (.tuple #[.agg #[.int .i64 x.1.1,.int .i64 x.1.2.1,.int .i64 x.1.2.2],.int .i64 x.2])
def noS (e:Int):ShE:=((0,0,0),e)
theorem stepsV_bd (n k s p:Int):0≤(stepsV n k s p).1∧(stepsV n k s p).1≤2001:=by
 unfold stepsV
 split
 ·rename_i c
  unfold stepOk at c
  split
  ·simp
  ·have h1:0≤(n+2*p - k).tdiv s:=by rw [Int.tdiv_eq_ediv_of_nonneg (by omega)];exact Int.ediv_nonneg (by omega) (by omega)
   have h2:(n+2*p - k).tdiv s≤2000:=by rw [Int.tdiv_eq_ediv_of_nonneg (by omega)];exact Int.le_trans (Int.ediv_le_self _ (by omega)) (by omega)
   simp only;omega
 ·simp
def slideV (h v c k s p o:Int):ShE :=
 if elems h v c=0 then noS 5 else if (stepsV h k s p).2 ≠ 0 then noS (stepsV h k s p).2 else if (stepsV v k s p).2 ≠ 0 then noS (stepsV v k s p).2
 else if elems (stepsV h k s p).1 (stepsV v k s p).1 o=0 then noS 5 else (((stepsV h k s p).1,(stepsV v k s p).1,o),0)
set_option maxHeartbeats 4000000 in
theorem slide_any (h v c k s p o:Int) (w:World) (h0:InK .i64 h) (h1:InK .i64 v) (h2:InK .i64 c) (h3:InK .i64 o) :
  Calls Tryz.prog 77 #[.agg #[.int .i64 h,.int .i64 v,.int .i64 c],.int .i64 k,.int .i64 s,.int .i64 p,.int .i64 o] w fun e w'=>e=retS (slideV h v c k s p o)∧Below w.heap.size w w':=by
 have RI:=zH (fun w=>shapeRight_any h c v w h0 h1 h2)
 obtain ⟨r,hr⟩:∃ r,slideV h v c k s p o=r:=⟨_,rfl⟩
 rw [hr]
 unfold slideV at hr
 have V:=zH hr.symm
 clear hr
 have ST1:=zH (fun w=>steps_any h k s p w)
 have ST2:=zH (fun w=>steps_any v k s p w)
 have bd1:=stepsV_bd h k s p
 have bd2:=stepsV_bd v k s p
 have HO:=zH h3
 clear h0 h1 h2 h3
 obtain ⟨m,hm⟩:∃ m,elems h v c=m:=⟨_,rfl⟩
 have m0:=(elems_range h v c).1
 obtain ⟨⟨x1,e1⟩,hs1⟩:∃ x,stepsV h k s p=x:=⟨_,rfl⟩
 obtain ⟨⟨x2,e2⟩,hs2⟩:∃ x,stepsV v k s p=x:=⟨_,rfl⟩
 rw [hm] at RI V m0
 rw [hs1] at V ST1 bd1
 rw [hs2] at V ST2 bd2
 simp only at V ST1 ST2 bd1 bd2
 clear hm hs1 hs2
 have R3:=zH (fun w=>shapeRight_any x1 o x2 w (by rw [inK_i64];omega) (by rw [inK_i64];omega) HO.out)
 have y0:=(elems_range x1 x2 o).1
 obtain ⟨y,hy⟩:∃ y,elems x1 x2 o=y:=⟨_,rfl⟩
 rw [hy] at V R3 y0
 clear hy
 have FR:=zH (Far.refl w)
 obtain ⟨w1,hw_w1,BA,k_w1⟩:=nB w #[.int .i64 h,.int .i64 v,.int .i64 c] 24
 replace FR:=zH (FR.out.fut k_w1)
 clear k_w1
 obtain ⟨w2,hw_w2,BC,k_w2⟩:=nB w1 #[.int .i64 0,.int .i64 0,.int .i64 0] 24
 replace FR:=zH (FR.out.fut k_w2)
 replace BA:=zH (BA.out.fut k_w2)
 clear k_w2
 have lt0:w.heap.size≤w1.heap.size:=by rw [← hw_w1];simp
 have cA:=fun i=>BA.out.cell i
 by_cases c1:m=0
 ·have t1:decide (0 < m)=false:=by simp;omega
  have R:=zH (show r=noS 5 by rw [V.out,if_pos c1])
  clear c1 V
  go_enter Tryz.func77,Tryz.ntmps77
  go_wp2_with (refine wpList_load_row rfl 24 (.tmp 5) rfl w.heap.size rfl _ _ (0,0) _ BA.out.heap Tryz.underlying24 rfl (by kernel_rfl) ?_)
  clear hw_w1 hw_w2 cA
  refine (RI.out _).mono ?_
  rintro e w3 ⟨rfl,hb⟩
  replace FR:=zH (FR.out.fut hb)
  replace BA:=zH (BA.out.fut hb)
  replace BC:=zH (BC.out.fut hb)
  clear hb
  have fC:=fun i=>BC.out.frozen i
  have cC:=fun i=>BC.out.cell i
  go_wp2_with fail
  refine ret_cell_tmp rfl (((BC.out.set_ 0 _).set_ 1 _).set_ 2 _) rfl Tryz.underlying24 (by kernel_rfl) rfl ⟨?_,?_⟩
  ·rw [R.out];rfl
  ·exact (((FR.out.set ⟨w1.heap.size,0,none⟩ _ lt0).set ⟨w1.heap.size,1,none⟩ _ lt0).set ⟨w1.heap.size,2,none⟩ _ lt0).out
 have t1:decide (0 < m)=true:=by simp;omega
 by_cases c2:e1=0
 rotate_left
 ·have t2:(e1 != 0)=true:=by simp;exact c2
  have R:=zH (show r=noS e1 by rw [V.out,if_neg c1,if_pos c2])
  clear c1 c2 V
  go_enter Tryz.func77,Tryz.ntmps77
  go_wp2_with (refine wpList_load_row rfl 24 (.tmp 5) rfl w.heap.size rfl _ _ (0,0) _ BA.out.heap Tryz.underlying24 rfl (by kernel_rfl) ?_)
  clear hw_w1 hw_w2 cA
  refine (RI.out _).mono ?_
  rintro e w3 ⟨rfl,hb⟩
  replace FR:=zH (FR.out.fut hb)
  replace BA:=zH (BA.out.fut hb)
  replace BC:=zH (BC.out.fut hb)
  clear hb
  have cA0:=BA.out.cell 0
  have cA1:=BA.out.cell 1
  go_wp2_with fail
  refine (ST1.out _).mono ?_
  rintro e w4 ⟨rfl,rfl⟩
  have fC:=fun i=>BC.out.frozen i
  have cC:=fun i=>BC.out.cell i
  go_wp2_with fail
  refine ret_cell_tmp rfl (((BC.out.set_ 0 _).set_ 1 _).set_ 2 _) rfl Tryz.underlying24 (by kernel_rfl) rfl ⟨?_,?_⟩
  ·rw [R.out];rfl
  ·exact (((FR.out.set ⟨w1.heap.size,0,none⟩ _ lt0).set ⟨w1.heap.size,1,none⟩ _ lt0).set ⟨w1.heap.size,2,none⟩ _ lt0).out
 have t2:(e1 != 0)=false:=by simp;exact c2
 by_cases c3:e2=0
 rotate_left
 ·have t3:(e2 != 0)=true:=by simp;exact c3
  have R:=zH (show r=noS e2 by rw [V.out,if_neg c1,if_neg (fun h=>h c2),if_pos c3])
  clear c1 c2 c3 V
  go_enter Tryz.func77,Tryz.ntmps77
  go_wp2_with (refine wpList_load_row rfl 24 (.tmp 5) rfl w.heap.size rfl _ _ (0,0) _ BA.out.heap Tryz.underlying24 rfl (by kernel_rfl) ?_)
  clear hw_w1 hw_w2 cA
  refine (RI.out _).mono ?_
  rintro e w3 ⟨rfl,hb⟩
  replace FR:=zH (FR.out.fut hb)
  replace BA:=zH (BA.out.fut hb)
  replace BC:=zH (BC.out.fut hb)
  clear hb
  have cA0:=BA.out.cell 0
  have cA1:=BA.out.cell 1
  go_wp2_with fail
  refine (ST1.out _).mono ?_
  rintro e w4 ⟨rfl,rfl⟩
  go_wp2_with fail
  refine (ST2.out _).mono ?_
  rintro e w4 ⟨rfl,rfl⟩
  have fC:=fun i=>BC.out.frozen i
  have cC:=fun i=>BC.out.cell i
  go_wp2_with fail
  refine ret_cell_tmp rfl (((BC.out.set_ 0 _).set_ 1 _).set_ 2 _) rfl Tryz.underlying24 (by kernel_rfl) rfl ⟨?_,?_⟩
  ·rw [R.out];rfl
  ·exact (((FR.out.set ⟨w1.heap.size,0,none⟩ _ lt0).set ⟨w1.heap.size,1,none⟩ _ lt0).set ⟨w1.heap.size,2,none⟩ _ lt0).out
 have t3:(e2 != 0)=false:=by simp;exact c3
 by_cases c4:y=0
 ·have t4:decide (0 < y)=false:=by simp;omega
  have R:=zH (show r=noS 5 by rw [V.out,if_neg c1,if_neg (fun h=>h c2),if_neg (fun h=>h c3),if_pos c4])
  clear c1 c2 c3 c4 V
  go_enter Tryz.func77,Tryz.ntmps77
  go_wp2_with (refine wpList_load_row rfl 24 (.tmp 5) rfl w.heap.size rfl _ _ (0,0) _ BA.out.heap Tryz.underlying24 rfl (by kernel_rfl) ?_)
  clear hw_w1 hw_w2 cA
  refine (RI.out _).mono ?_
  rintro e w3 ⟨rfl,hb⟩
  replace FR:=zH (FR.out.fut hb)
  replace BA:=zH (BA.out.fut hb)
  replace BC:=zH (BC.out.fut hb)
  clear hb
  have cA0:=BA.out.cell 0
  have cA1:=BA.out.cell 1
  go_wp2_with fail
  refine (ST1.out _).mono ?_
  rintro e w4 ⟨rfl,rfl⟩
  go_wp2_with fail
  refine (ST2.out _).mono ?_
  rintro e w4 ⟨rfl,rfl⟩
  clear cA0 cA1
  obtain ⟨w5,hw_w5,BD,k_w5⟩:=nB w3 #[.int .i64 x1,.int .i64 x2,.int .i64 o] 24
  replace FR:=zH (FR.out.fut k_w5)
  replace BA:=zH (BA.out.fut k_w5)
  replace BC:=zH (BC.out.fut k_w5)
  clear k_w5
  have cD:=fun i=>BD.out.cell i
  go_wp2_with (refine wpList_load_row rfl 24 (.tmp 15) rfl w3.heap.size rfl _ _ (0,0) _ BD.out.heap Tryz.underlying24 rfl (by kernel_rfl) ?_)
  clear hw_w5 cD
  refine (R3.out _).mono ?_
  rintro e w6 ⟨rfl,hb⟩
  replace FR:=zH (FR.out.fut hb)
  replace BC:=zH (BC.out.fut hb)
  replace BD:=zH (BD.out.fut hb)
  clear hb
  have fC:=fun i=>BC.out.frozen i
  have cC:=fun i=>BC.out.cell i
  go_wp2_with fail
  refine ret_cell_tmp rfl (((BC.out.set_ 0 _).set_ 1 _).set_ 2 _) rfl Tryz.underlying24 (by kernel_rfl) rfl ⟨?_,?_⟩
  ·rw [R.out];rfl
  ·exact (((FR.out.set ⟨w1.heap.size,0,none⟩ _ lt0).set ⟨w1.heap.size,1,none⟩ _ lt0).set ⟨w1.heap.size,2,none⟩ _ lt0).out
 have t4:decide (0 < y)=true:=by simp;omega
 have R:=zH (show r=((x1,x2,o),0) by rw [V.out,if_neg c1,if_neg (fun h=>h c2),if_neg (fun h=>h c3),if_neg c4])
 clear c1 c2 c3 c4 V
 go_enter Tryz.func77,Tryz.ntmps77
 go_wp2_with (refine wpList_load_row rfl 24 (.tmp 5) rfl w.heap.size rfl _ _ (0,0) _ BA.out.heap Tryz.underlying24 rfl (by kernel_rfl) ?_)
 clear hw_w1 hw_w2 cA
 refine (RI.out _).mono ?_
 rintro e w3 ⟨rfl,hb⟩
 replace FR:=zH (FR.out.fut hb)
 replace BA:=zH (BA.out.fut hb)
 replace BC:=zH (BC.out.fut hb)
 clear hb
 have cA0:=BA.out.cell 0
 have cA1:=BA.out.cell 1
 go_wp2_with fail
 refine (ST1.out _).mono ?_
 rintro e w4 ⟨rfl,rfl⟩
 go_wp2_with fail
 refine (ST2.out _).mono ?_
 rintro e w4 ⟨rfl,rfl⟩
 clear cA0 cA1
 obtain ⟨w5,hw_w5,BD,k_w5⟩:=nB w3 #[.int .i64 x1,.int .i64 x2,.int .i64 o] 24
 replace FR:=zH (FR.out.fut k_w5)
 replace BA:=zH (BA.out.fut k_w5)
 replace BC:=zH (BC.out.fut k_w5)
 clear k_w5
 have cD:=fun i=>BD.out.cell i
 go_wp2_with (refine wpList_load_row rfl 24 (.tmp 15) rfl w3.heap.size rfl _ _ (0,0) _ BD.out.heap Tryz.underlying24 rfl (by kernel_rfl) ?_)
 clear hw_w5 cD
 refine (R3.out _).mono ?_
 rintro e w6 ⟨rfl,hb⟩
 replace FR:=zH (FR.out.fut hb)
 replace BC:=zH (BC.out.fut hb)
 replace BD:=zH (BD.out.fut hb)
 clear hb
 have fC:=fun i=>BC.out.frozen i
 have cC:=fun i=>BC.out.cell i
 go_wp2_with (refine wpList_load_row rfl 24 (.tmp 15) rfl w3.heap.size rfl _ _ (0,0) _ BD.out.heap Tryz.underlying24 rfl (by kernel_rfl) ?_)
 refine ret_cell_tmp rfl (((BC.out.set_ 0 _).set_ 1 _).set_ 2 _) rfl Tryz.underlying24 (by kernel_rfl) rfl ⟨?_,?_⟩
 ·rw [R.out];rfl
 ·exact (((FR.out.set ⟨w1.heap.size,0,none⟩ _ lt0).set ⟨w1.heap.size,1,none⟩ _ lt0).set ⟨w1.heap.size,2,none⟩ _ lt0).out
theorem slideV_ok {h v c k s p o:Int} (e:(slideV h v c k s p o).2=0):1≤k∧k≤5∧1≤o∧o≤1024∧1≤c∧c≤1024:=by
 unfold slideV at e
 by_cases c1:elems h v c=0
 ·rw [if_pos c1] at e;cases e
 rw [if_neg c1] at e
 by_cases c2:(stepsV h k s p).2 ≠ 0
 ·rw [if_pos c2] at e;exact absurd e c2
 rw [if_neg c2] at e
 by_cases c3:(stepsV v k s p).2 ≠ 0
 ·rw [if_pos c3] at e;exact absurd e c3
 rw [if_neg c3] at e
 by_cases c4:elems (stepsV h k s p).1 (stepsV v k s p).1 o=0
 ·rw [if_pos c4] at e;cases e
 rw [elems_iff] at c1 c4
 have g1:1≤c∧c≤1024:=by
  split at c1
  ·omega
  ·exact absurd rfl c1
 have g2:1≤o∧o≤1024:=by
  split at c4
  ·omega
  ·exact absurd rfl c4
 have g3:1≤k∧k≤5:=by
  unfold stepsV at c2
  split at c2
  ·rename_i q;unfold stepOk at q;omega
  ·exact absurd (by decide) c2
 omega
def fitV (x:ShE) (want out:Int) (d:Node):ShE:=if x.2 ≠ 0 then noS x.2 else if ¬ (d.w.length:Int)=want ∨ 16384 < d.w.length ∨ ¬ (d.bias.length:Int)=out then noS 9 else x
def convV (h v c:Int) (d:Node):ShE:=fitV (slideV h v c d.k d.s d.p d.out) (d.out*d.k*d.k*c) d.out d
def depthV (h v c:Int) (d:Node):ShE:=fitV (slideV h v c d.k d.s d.p c) (c*d.k*d.k) c d
theorem prod_bd {a b:Int} {m n:Int} (h1:0≤a) (h2:a≤m) (h3:0≤b) (h4:b≤n) (hm:0≤m):0≤a*b∧a*b≤m*n :=
 ⟨Int.mul_nonneg h1 h3,Int.mul_le_mul h2 h4 h3 hm⟩
def denseV (h v c:Int) (d:Node):ShE:=if elems h v c=0 ∨ elems 1 1 d.out=0 then noS 5
 else if ¬ (d.w.length:Int)=d.out*elems h v c ∨ 16384 < d.w.length ∨ ¬ (d.bias.length:Int)=d.out then noS 9 else ((1,1,d.out),0)
def aroundV (h v c p:Int):ShE:=if p < 0 ∨ 4 < p then noS 2 else if elems (h+2*p) (v+2*p) c=0 then noS 5 else ((h+2*p,v+2*p,c),0)
def plainV (k h v c h2 v2 c2 p:Int):ShE:=if elems h v c=0 then noS 5 else if k=6∧([h,v,c] == [h2,v2,c2])=false then noS 5
 else if k=8 then aroundV h v c p else if k=9 then ((1,1,elems h v c),0) else ((h,v,c),0)
def shapeV (h v c h2 v2 c2:Int) (d:Node):ShE:=if d.kind=1 then convV h v c d else if d.kind=2 then depthV h v c d else if d.kind=3 then denseV h v c d
 else if d.kind=4 ∨ d.kind=5 then slideV h v c d.k d.s d.p c else plainV d.kind h v c h2 v2 c2 d.p
theorem elems_bd {h v c:Int} (e:¬ elems h v c=0):1≤h∧h≤16∧1≤v∧v≤16∧1≤c∧c≤1024:=by
 rw [elems_iff] at e
 split at e
 ·omega
 ·exact absurd rfl e
theorem wpList_neq_agg {P:Program} {ops:Array Oper} {rest:List Oper} {o:Oper} {a:Act} {w:World} {Q:Exit → Act → World → Prop} (t u:TypeId) (x y:Operand) (ho:o.op=.binOp .neq t x y u) (xs ys:Array Value) (hx:a.eval x=.agg xs) (hy:a.eval y=.agg ys)
  (hw:Region.wanted o (yielded ops a.tmps)=true) (hm:P.eqGuardType P.depth t=false) (b:Bool) (hrun:(Op.equalIn 10000 t (.agg xs) (.agg ys)).run P w=.ok b w) (h:wpList P ops Q rest (a.put o.dst (.bool (!b))) w):wpList P ops Q (o :: rest) a w:=by
 refine BigFrame.wpList_want hw fun K hK=>?_
 unfold Oper.wp execOp
 simp only [ho,hx,hy,Sem.run_bind,fun w=>run_eqGuard_agg (P:=P) w .neq t x y xs ys hm,run_neq_struct,hrun,Result.andThen_ok,Sem.run_pure]
 exact hK _ _ (by simpa using h)
theorem eq_shape (w:World) (h v c h2 v2 c2:Int):(Op.equalIn 10000 24 (.agg #[.int .i64 h,.int .i64 v,.int .i64 c]) (.agg #[.int .i64 h2,.int .i64 v2,.int .i64 c2])).run Tryz.prog w=.ok ([h,v,c] == [h2,v2,c2]) w :=
 run_eql_st3 (P:=Tryz.prog) (t:=24) (k0:=.i64) (k1:=.i64) (k2:=.i64) w Tryz.underlying24 (by kernel_rfl) (by decide) ⟨rfl,rfl,rfl⟩ Tryz.underlying3 Tryz.underlying3 Tryz.underlying3 (by kernel_rfl) (by kernel_rfl) (by kernel_rfl) h v c h2 v2 c2
end Go.Proofs.YtjkmjpjknmghlaaGreat
namespace Go.Proofs.YtjkmjpjknmghlaaGreat
open Go.RowKit
structure TOk (t:Tensor) (n H V C:Nat):Prop where
 h:t.h=H
 v:t.v=V
 c:t.c=C
 h1:1≤H∧H≤16
 v1:1≤V∧V≤16
 c1:1≤C∧C≤1024
 n_eq:n=H*V*C
 n_le:n≤1024
theorem elems_nat {h v c:Int} (e:¬ elems h v c=0):∃ H V C:Nat,h=H∧v=V∧c=C∧(1≤H∧H≤16)∧(1≤V∧V≤16)∧(1≤C∧C≤1024)∧elems h v c=(H*V*C:Nat)∧H*V*C≤1024:=by
 rw [elems_iff] at e ⊢
 split at e
 ·rename_i q
  obtain ⟨a1,a2,a3,a4,a5,a6,a7⟩:=q
  have e1:h=(h.toNat:Int):=by omega
  have e2:v=(v.toNat:Int):=by omega
  have e3:c=(c.toNat:Int):=by omega
  have e4:h*v*c=((h.toNat*v.toNat*c.toNat:Nat):Int):=by rw [Int.natCast_mul,Int.natCast_mul,← e1,← e2,← e3]
  refine ⟨h.toNat,v.toNat,c.toNat,e1,e2,e3,by omega,by omega,by omega,?_,?_⟩
  ·rw [if_pos ⟨a1,a2,a3,a4,a5,a6,a7⟩];exact e4
  ·have:=a7;rw [e4] at this;omega
 ·exact absurd rfl e
theorem tok_of {t:Tensor} (h:t.ok=true):∃ H V C,TOk t t.data.length H V C:=by
 simp only [Tensor.ok,decide_eq_true_eq] at h
 obtain ⟨H,V,C,e1,e2,e3,b1,b2,b3,e4,e5⟩:=elems_nat (h:=t.h) (v:=t.v) (c:=t.c) (by omega)
 exact ⟨H,V,C,e1,e2,e3,b1,b2,b3,by omega,by omega⟩
structure WOk (d:Node) (H V C K S P Ho Wo Co:Nat):Prop where
 k:d.k=K
 s:d.s=S
 p:d.p=P
 k1:1≤K∧K≤5
 s1:1≤S∧S≤4
 p1:P≤4∧P < K
 ho:Ho=(H+2*P - K) / S+1
 wo:Wo=(V+2*P - K) / S+1
 hk:K≤H+2*P
 vk:K≤V+2*P
 ho1:1≤Ho∧Ho≤16
 wo1:1≤Wo∧Wo≤16
 co1:1≤Co∧Co≤1024
 no:Ho*Wo*Co≤1024
theorem stepsV_nat {n:Nat} {k s p:Int} {x:Int} (h:stepsV n k s p=(x,0)):∃ K S P:Nat,k=K∧s=S∧p=P∧(1≤K∧K≤5)∧(1≤S∧S≤4)∧(P≤4∧P < K)∧K≤n+2*P∧x=((n+2*P - K) / S+1:Nat):=by
 unfold stepsV at h
 split at h
 ·rename_i q
  unfold stepOk at q
  split at h
  ·cases (Prod.mk.inj h).2
  ·have e:=(Prod.mk.inj h).1
   obtain ⟨q1,q2,q3,q4,q5,q6,q7,q8,q9⟩:=q
   refine ⟨k.toNat,s.toNat,p.toNat,by omega,by omega,by omega,by omega,by omega,by omega,by omega,?_⟩
   rw [← e]
   have a:(n:Int)+2*p - k=((n+2*p.toNat - k.toNat:Nat):Int):=by omega
   have b:s=(s.toNat:Int):=by omega
   rw [a,b,Int.tdiv_eq_ediv_of_nonneg (by omega)]
   simp
 ·cases (Prod.mk.inj h).2
theorem slide_nat {H V C:Nat} {d:Node} {o x1 x2 x3:Int} (h:slideV H V C d.k d.s d.p o=((x1,x2,x3),0)):∃ K S P Ho Wo Co:Nat,WOk d H V C K S P Ho Wo Co∧x1=Ho∧x2=Wo∧x3=Co∧o=Co∧elems x1 x2 x3=(Ho*Wo*Co:Nat):=by
 unfold slideV at h
 by_cases c1:elems H V C=0
 ·rw [if_pos c1] at h;cases (Prod.mk.inj h).2
 rw [if_neg c1] at h
 by_cases c2:(stepsV H d.k d.s d.p).2 ≠ 0
 ·rw [if_pos c2] at h;exact absurd (Prod.mk.inj h).2 c2
 rw [if_neg c2] at h
 by_cases c3:(stepsV V d.k d.s d.p).2 ≠ 0
 ·rw [if_pos c3] at h;exact absurd (Prod.mk.inj h).2 c3
 rw [if_neg c3] at h
 by_cases c4:elems (stepsV H d.k d.s d.p).1 (stepsV V d.k d.s d.p).1 o=0
 ·rw [if_pos c4] at h;cases (Prod.mk.inj h).2
 rw [if_neg c4] at h
 obtain ⟨y1,e1⟩:∃ y,stepsV H d.k d.s d.p=(y,0):=⟨(stepsV H d.k d.s d.p).1,by rw [← Decidable.not_not.1 c2]⟩
 obtain ⟨y2,e2⟩:∃ y,stepsV V d.k d.s d.p=(y,0):=⟨(stepsV V d.k d.s d.p).1,by rw [← Decidable.not_not.1 c3]⟩
 rw [e1,e2] at h c4
 obtain ⟨K,S,P,hk,hs,hp,k1,s1,p1,hk2,f1⟩:=stepsV_nat e1
 obtain ⟨K',S',P',hk',hs',hp',-,-,-,vk2,f2⟩:=stepsV_nat e2
 obtain rfl:K=K':=by omega
 obtain rfl:S=S':=by omega
 obtain rfl:P=P':=by omega
 obtain ⟨Ho,Wo,Co,g1,g2,g3,b1,b2,b3,g4,g5⟩:=elems_nat c4
 simp only at h g1 g2 g3 g4
 obtain ⟨h',-⟩:=Prod.mk.inj h
 obtain ⟨h1,h'⟩:=Prod.mk.inj h'
 obtain ⟨h2,h3⟩:=Prod.mk.inj h'
 subst h1 h2 h3
 exact ⟨K,S,P,Ho,Wo,Co,⟨hk,hs,hp,k1,s1,p1,by omega,by omega,hk2,vk2,b1,b2,b3,g5⟩,g1,g2,g3,g3,g4⟩
theorem fit_nat {x y:ShE} {want out:Int} {d:Node} (h:fitV x want out d=y) (h2:y.2=0):x=y∧(d.w.length:Int)=want∧d.w.length≤16384∧(d.bias.length:Int)=out:=by
 unfold fitV at h
 split at h
 ·rename_i q;subst h;exact absurd h2 q
 ·split at h
  ·subst h;cases h2
  ·rename_i q
   refine ⟨h,?_,?_,?_⟩
   ·exact Decidable.byContradiction fun e=>q (.inl e)
   ·exact Nat.not_lt.1 fun e=>q (.inr (.inl e))
   ·exact Decidable.byContradiction fun e=>q (.inr (.inr e))
def convF (t:Tensor) (d:Node) (Wo Co:Nat) (i:Nat):Int:=wrap32 (d.bias.getD (i % Co) 0+convN t.h.toNat t.v.toNat t.c.toNat t.data d.za d.w d.k.toNat d.s.toNat d.p.toNat (i % Co) (i / Co / Wo) (i / Co % Wo))
def convOf (t:Tensor) (d:Node):Tensor × Int :=
 if t.ok=true then (if (convV t.h t.v t.c d).2=0 then (⟨(convV t.h t.v t.c d).1.1,(convV t.h t.v t.c d).1.2.1,(convV t.h t.v t.c d).1.2.2,
  (List.range (elems (convV t.h t.v t.c d).1.1 (convV t.h t.v t.c d).1.2.1 (convV t.h t.v t.c d).1.2.2).toNat).map (convF t d (convV t.h t.v t.c d).1.2.1.toNat (convV t.h t.v t.c d).1.2.2.toNat)⟩,0) else (noTensor,(convV t.h t.v t.c d).2)) else (noTensor,5)
theorem conv_nat {t:Tensor} {d:Node} (h1:t.ok=true) (h2:(convV t.h t.v t.c d).2=0):∃ H V C K S P Ho Wo Co:Nat,TOk t t.data.length H V C∧WOk d H V C K S P Ho Wo Co∧convV t.h t.v t.c d=(((Ho:Int),(Wo:Int),(Co:Int)),0)∧d.w.length=Co*K*K*C∧d.bias.length=Co∧d.out=Co∧elems Ho Wo Co=(Ho*Wo*Co:Nat) ∧
  convOf t d=(⟨Ho,Wo,Co,(List.range (Ho*Wo*Co)).map (convF t d Wo Co)⟩,0):=by
 obtain ⟨H,V,C,T⟩:=tok_of h1
 obtain ⟨⟨⟨x1,x2,x3⟩,e⟩,hx⟩:∃ x,convV t.h t.v t.c d=x:=⟨_,rfl⟩
 have hx':=hx
 rw [hx] at h2
 obtain rfl:e=0:=h2
 unfold convV at hx'
 obtain ⟨a,b,-,c⟩:=fit_nat hx' rfl
 rw [T.h,T.v,T.c] at a
 obtain ⟨K,S,P,Ho,Wo,Co,hw,e1,e2,e3,e4,e5⟩:=slide_nat a
 subst e1 e2 e3
 refine ⟨H,V,C,K,S,P,Ho,Wo,Co,T,hw,hx,?_,by omega,e4,e5,?_⟩
 ·rw [e4,hw.k,T.c] at b
  exact_mod_cast b
 ·unfold convOf
  rw [if_pos h1,hx,if_pos rfl]
  simp only [e5,Int.toNat_natCast]
def doneL (Wo Co h o w j:Nat):Bool:=decide (j / Co / Wo < h ∨ (j / Co / Wo=h∧(j % Co < o ∨ (j % Co=o∧j / Co % Wo < w))))
theorem place_iff (Wo Co h w o j:Nat) (hw:w < Wo) (ho:o < Co):j=(h*Wo+w)*Co+o ↔ j / Co / Wo=h∧j / Co % Wo=w∧j % Co=o:=by
 constructor
 ·rintro rfl
  obtain ⟨h1,h2,h3⟩:=nest_div h w Wo Co o hw ho
  exact ⟨h1,h2,h3⟩
 ·rintro ⟨e1,e2,e3⟩
  have h1:=Nat.div_add_mod j Co
  have h2:=Nat.div_add_mod (j / Co) Wo
  rw [e1,e2,Nat.mul_comm] at h2
  rw [← h2,e3,Nat.mul_comm] at h1
  omega
theorem doneL_step (Wo Co h o w j:Nat) (hw:w < Wo) (ho:o < Co):(doneL Wo Co h o w j || j == (h*Wo+w)*Co+o)=doneL Wo Co h o (w+1) j:=by
 rw [Bool.eq_iff_iff]
 simp only [doneL,Bool.or_eq_true,decide_eq_true_eq,beq_iff_eq,place_iff Wo Co h w o j hw ho]
 omega
theorem doneL_row (Wo Co h o j:Nat) (hw:0 < Wo):doneL Wo Co h o Wo j=doneL Wo Co h (o+1) 0 j:=by
 have:=Nat.mod_lt (j / Co) hw
 rw [Bool.eq_iff_iff]
 simp only [doneL,decide_eq_true_eq]
 omega
theorem doneL_col (Wo Co h j:Nat) (hc:0 < Co):doneL Wo Co h Co 0 j=doneL Wo Co (h+1) 0 0 j:=by
 have:=Nat.mod_lt j hc
 rw [Bool.eq_iff_iff]
 simp only [doneL,decide_eq_true_eq]
 omega
theorem doneL_none (Wo Co j:Nat):doneL Wo Co 0 0 0 j=false:=by
 simp only [doneL,decide_eq_false_iff_not]
 rintro (h|⟨-,h|⟨-,h⟩⟩) <;> exact Nat.not_lt_zero _ h
theorem doneL_all (Ho Wo Co j:Nat) (hj:j < Ho*Wo*Co):doneL Wo Co Ho 0 0 j=true:=by
 simp only [doneL,decide_eq_true_eq]
 left
 have:j / Co < Ho*Wo:=Nat.div_lt_of_lt_mul (by rw [Nat.mul_comm];exact hj)
 exact Nat.div_lt_of_lt_mul (by rw [Nat.mul_comm];exact this)
end Go.Proofs.YtjkmjpjknmghlaaGreat
namespace Go.Proofs.YtjkmjpjknmghlaaGreat
open Go.RowKit Go.ChangeShapes Go.WideShapes
set_option maxRecDepth 100000
theorem Blk.grown0 {w w':World} {g:Nat} {e:TypeId} {cs:Array Value} (h:Blk w g e cs) (gm:w.grownBy w' none):Blk w' g e cs:=⟨(gm.block g h.lt (by simp)).trans h.heap⟩
theorem Blk.rowR {w w':World} {g:Nat} {e:TypeId} {cs:Array Value} {r:Option Nat} (h:Blk w g e cs) (hg:w.grownBy w' r) (hne:some g ≠ r):Blk w' g e cs:=⟨by rw [hg.block g h.lt hne];exact h.heap⟩
theorem World.size_drew (w:World):w.drew.heap.size=w.heap.size:=rfl
section
variable {P:Program} {o:Oper} {a:Act} {Q:Go.Exit → Act → World → Prop} {T E:TypeId} {bytes base n:Nat} {k:IntKind}
theorem oper_make {K:Act → World → Prop} {W:World} (lo co:Operand) (ho:o.op=Op.makeSlice T lo co) (ei:EI P T E (.int k 0) 1 bytes) (kl kc:IntKind) (hl:a.eval lo=.int kl (n:Int)) (hc:a.eval co=.int kc (n:Int))
  (b2:bytes*n≤281474976710656) (b3:n≤maxLen) (b4:base≤W.heap.size) (h0:InK k 0)
  (h:∀ w',Own (tInt k) w' (fun _=>False) base E (.slice (some ⟨W.heap.size,0,none⟩) n n) n (List.replicate n 0) → W.grownBy w' none → K (a.put o.dst (.slice (some ⟨W.heap.size,0,none⟩) n n)) w') :
  Oper.wp P o a W K Q:=by
 obtain ⟨i,hi,hz0,hz1,hz2⟩:=info_parts ei.hi
 obtain ⟨w',hrun,h1,hg⟩:=run_make_full (P:=P) W base T E i (.int k 0) 1 ei.ht hi hz0 hz1 kl kc n (by rw [hz2];exact b2) b3 b4
 unfold Oper.wp execOp
 simp only [ho,hl,hc,Sem.run_bind,hrun,Sem.run_pure,Result.andThen_ok]
 refine h w' ⟨_,h1,?_⟩ hg
 have e:(madeCells (Value.cells (.int k 0)) (n*1)).toList=(List.replicate n (0:Int)).map (Value.int k):=by
  simp [madeCells,Value.cells]
  apply List.ext_getElem (by simp)
  intro j h1 h2
  simp [Nat.mod_one]
 rw [e]
 exact RowsOf.ints (fun x hx=>by rw [List.eq_of_mem_replicate hx];exact h0)
end
def stF (f:Nat → Int) (p:Nat → Bool) (n:Nat):List Int:=(List.range n).map fun j=>if p j=true then f j else 0
theorem stF_ext {f:Nat → Int} {p q:Nat → Bool} {n:Nat} (h:∀ j,j < n → p j=q j):stF f p n=stF f q n:=by
 unfold stF
 apply List.map_congr_left
 intro j hj
 rw [h j (List.mem_range.1 hj)]
theorem stF_none (f:Nat → Int) (p:Nat → Bool) (n:Nat) (h:∀ j,j < n → p j=false):stF f p n=List.replicate n 0:=by
 unfold stF
 apply List.ext_getElem (by simp)
 intro i h1 h2
 simp at h1
 simp [h i h1]
theorem stF_all (f:Nat → Int) (p:Nat → Bool) (n:Nat) (h:∀ j,j < n → p j=true):stF f p n=(List.range n).map f:=by
 unfold stF
 apply List.map_congr_left
 intro j hj
 rw [if_pos (h j (List.mem_range.1 hj))]
theorem stF_set (f:Nat → Int) (p:Nat → Bool) (n i:Nat):(stF f p n).set i (f i)=stF f (fun j=>p j || j == i) n:=by
 unfold stF
 apply List.ext_getElem (by simp)
 intro j h1 h2
 rw [List.getElem_set]
 simp only [List.getElem_map,List.getElem_range]
 by_cases e:i=j
 ·subst e;simp
 ·rw [if_neg e]
  have:(j == i)=false:=by simp;omega
  rw [this,Bool.or_false]
end Go.Proofs.YtjkmjpjknmghlaaGreat
namespace Go.Proofs.YtjkmjpjknmghlaaGreat
open Go Go.RowKit
theorem fold_putAt (off:Nat):∀ (l:List Value) (k:Nat) (cs:Array Value),(l.zipIdx k).foldl (fun cs (x:Value × Nat)=>cs.setIfInBounds (off+x.2) x.1) cs=putAt cs (off+k) l
 | [],_,_=>rfl
 | v :: r,k,cs=>by
  rw [List.zipIdx_cons,List.foldl_cons,fold_putAt off r (k+1)]
  rfl
theorem fill_one (cells vs:Array Value) (size:Nat) (h1:vs.size=size) (h2:cells.size=size):Instr.fill (fun i=>some (i*size,size)) cells [(0,.agg vs)]=some vs:=by
 have hv:(Value.agg vs).cells=vs:=rfl
 unfold Instr.fill
 simp only [hv,Nat.zero_mul,Nat.zero_add]
 rw [if_neg (by simp;omega)]
 unfold Instr.fill
 have:=fold_putAt 0 vs.toList 0 cells
 simp only [Nat.zero_add] at this
 rw [← Array.foldl_toList,Array.toList_zipIdx,this]
 congr 1
 exact putAt_full (by omega)
theorem run_lit1 {P:Program} {T E:TypeId} {z:Value} {size bytes:Nat} (w:World) (ei:EI P T E z size bytes) (vs:Array Value) (hvs:vs.size=size) (hsm:size≤16777216) :
  (Instr.buildSlice T 1 #[(0,.agg vs)]).run P w=.ok (.slice (some ⟨w.heap.size,0,none⟩) 1 1) (w.alloc (.cells vs E)):=by
 obtain ⟨i,hi,hz0,hz1,hz2⟩:=info_parts ei.hi
 have hp:=ei.hp
 have hsz:(sizeOf E).run P w=.ok size w:=by simp [sizeOf,typeInfo,hi,hz1]
 have hzv:(zeroValue E).run P w=.ok z w:=by simp [zeroValue,typeInfo,hi,hz0]
 have hf:=fill_one ((Array.range (1*size)).map (z.cells[· % z.cells.size]!)) vs size hvs (by simp)
 have hnot:¬ (1*size > 2 ^ 24):=by omega
 have hnz:¬ (1*size=0):=by omega
 unfold Instr.buildSlice
 simp only [Sem.run_bind,run_underlying ei.ht w,Result.andThen_ok,hsz,if_neg hnot,if_neg hnz,hzv,Sem.run_pure,hf,newRow,newObj]
 rfl
section
variable {P:Program} {ops:Array Oper} {rest:List Oper} {o:Oper} {a:Act} {w:World} {Q:Exit → Act → World → Prop} {T E:TypeId} {z:Value} {size bytes:Nat}
theorem wpList_lit1 (hgd:o.guard=none) (x:Operand) (ho:o.op=.buildSlice T 1 #[(0,x)]) (ei:EI P T E z size bytes) (vs:Array Value) (hx:a.eval x=.agg vs) (hvs:vs.size=size) (hsm:size≤16777216)
  (h:wpList P ops Q rest (a.put o.dst (.slice (some ⟨w.heap.size,0,none⟩) 1 1)) (w.alloc (.cells vs E))):wpList P ops Q (o :: rest) a w:=by
 refine wpList_plain hgd fun K hK=>?_
 unfold Oper.wp execOp
 simp only [ho,List.map_toArray,List.map_cons,List.map_nil,hx,Sem.run_bind,run_lit1 w ei vs hvs hsm,Sem.run_pure,Result.andThen_ok]
 exact hK _ _ h
end
end Go.Proofs.YtjkmjpjknmghlaaGreat
namespace Go.Proofs.YtjkmjpjknmghlaaGreat
open Go.RowKit Go.ChangeShapes Go.WideShapes
set_option maxRecDepth 100000
theorem Own.lit0 {W:World} {k:IntKind} {E:TypeId} {base:Nat} (hb:base≤W.heap.size):Own (tInt k) (W.alloc (.cells #[] E)) (fun _=>False) base E (.slice (some ⟨W.heap.size,0,none⟩) 0 0) 0 [] :=
 ⟨[],⟨rfl,.inr ⟨_,0,#[],rfl,hb,heap_alloc_new _ _,Nat.le_refl _,by decide,rfl,rfl⟩⟩,rfl⟩
end Go.Proofs.YtjkmjpjknmghlaaGreat
