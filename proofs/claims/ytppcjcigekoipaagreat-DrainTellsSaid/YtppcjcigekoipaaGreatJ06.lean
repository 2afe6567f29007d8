/-
  The shape of what a window makes (layer 4): shape.Slide, the document's Slide.
-/
import Derived.Test.YtppcjcigekoipaaGreatJ04
import Derived.Test.YtppcjcigekoipaaGreatJ05
set_option linter.unusedVariables false
set_option linter.unusedSimpArgs false
namespace Go.Proofs.YtppcjcigekoipaaGreat
open Go.RowKit Go.ChangeShapes Go.WideShapes
set_option maxRecDepth 100000
abbrev ShE:=(Int × Int × Int) × Int
def retS (x:ShE):Ending:=.returned (.tuple #[.agg (sN x.1.1 x.1.2.1 x.1.2.2),.int .i64 x.2])
def noS (e:Int):ShE:=((0,0,0),e)
theorem stepsV_bd (n k s p:Int):0≤(stepsV n k s p).1∧(stepsV n k s p).1≤2001:=by
 unfold stepsV
 split
 ·rename_i c
  unfold stepOk at c
  split
  ·simp
  ·have h1:0≤(n+2*p - k).tdiv s:=by rw [Int.tdiv_eq_ediv_of_nonneg (by omega)];exact Int.ediv_nonneg (by omega) (by omega)
   have h2:(n+2*p - k).tdiv s≤2000:=by rw [Int.tdiv_eq_ediv_of_nonneg (by omega)];exact Int.le_trans (Int.ediv_le_self _ (by omega)) (by omega)
   simp only;omega
 ·simp
def slideV (h v c k s p o:Int):ShE :=
 if elems h v c=0 then noS 5 else if (stepsV h k s p).2 ≠ 0 then noS (stepsV h k s p).2 else if (stepsV v k s p).2 ≠ 0 then noS (stepsV v k s p).2
 else if elems (stepsV h k s p).1 (stepsV v k s p).1 o=0 then noS 5 else (((stepsV h k s p).1,(stepsV v k s p).1,o),0)
set_option maxHeartbeats 4000000 in
theorem slide_any (h v c k s p o:Int) (w:World) (h0:InK .i64 h) (h1:InK .i64 v) (h2:InK .i64 c) (h3:InK .i64 o) :
  Calls Tryz.prog 147 #[.agg (sN h v c),.int .i64 k,.int .i64 s,.int .i64 p,.int .i64 o] w fun e w'=>e=retS (slideV h v c k s p o)∧Below w.heap.size w w':=by
 have RI:=zH (fun w=>shapeRight_any h c v w h0 h1 h2)
 obtain ⟨r,hr⟩:∃ r,slideV h v c k s p o=r:=⟨_,rfl⟩
 rw [hr]
 unfold slideV at hr
 have V:=zH hr.symm
 clear hr
 have ST1:=zH (fun w=>steps_any h k s p w)
 have ST2:=zH (fun w=>steps_any v k s p w)
 have bd1:=stepsV_bd h k s p
 have bd2:=stepsV_bd v k s p
 have HO:=zH h3
 clear h0 h1 h2 h3
 obtain ⟨m,hm⟩:∃ m,elems h v c=m:=⟨_,rfl⟩
 have m0:=(elems_range h v c).1
 obtain ⟨⟨x1,e1⟩,hs1⟩:∃ x,stepsV h k s p=x:=⟨_,rfl⟩
 obtain ⟨⟨x2,e2⟩,hs2⟩:∃ x,stepsV v k s p=x:=⟨_,rfl⟩
 rw [hm] at RI V m0
 rw [hs1] at V ST1 bd1
 rw [hs2] at V ST2 bd2
 simp only at V ST1 ST2 bd1 bd2
 clear hm hs1 hs2
 have R3:=zH (fun w=>shapeRight_any x1 o x2 w (by rw [inK_i64];omega) (by rw [inK_i64];omega) HO.out)
 have y0:=(elems_range x1 x2 o).1
 obtain ⟨y,hy⟩:∃ y,elems x1 x2 o=y:=⟨_,rfl⟩
 rw [hy] at V R3 y0
 clear hy
 have FR:=zH (Far.refl w)
 obtain ⟨w1,hw_w1,BA,k_w1⟩:=nB w (sN h v c) 23
 replace FR:=zH (FR.out.fut k_w1)
 clear k_w1
 obtain ⟨w2,hw_w2,BC,k_w2⟩:=nB w1 (sN 0 0 0) 23
 replace FR:=zH (FR.out.fut k_w2)
 replace BA:=zH (BA.out.fut k_w2)
 clear k_w2
 have lt0:w.heap.size≤w1.heap.size:=by rw [← hw_w1];simp
 have cA:=fun i=>BA.out.cell i
 by_cases c1:m=0
 ·have t1:decide (0 < m)=false:=by simp;omega
  have R:=zH (show r=noS 5 by rw [V.out,if_pos c1])
  clear c1 V
  go_enter Tryz.func147,Tryz.ntmps147
  go_wp2_with (refine lB 23 (.tmp 5) w.heap.size BA.out Tryz.underlying23 ?_)
  clear hw_w1 hw_w2 cA
  refine (RI.out _).mono ?_
  rintro e w3 ⟨rfl,hb⟩
  replace FR:=zH (FR.out.fut hb)
  replace BA:=zH (BA.out.fut hb)
  replace BC:=zH (BC.out.fut hb)
  clear hb
  have fC:=fun i=>BC.out.frozen i
  have cC:=fun i=>BC.out.cell i
  go_wp2_with fail
  refine ret_cell_tmp rfl (((BC.out.set_ 0 _).set_ 1 _).set_ 2 _) rfl Tryz.underlying23 (by kernel_rfl) rfl ⟨?_,?_⟩
  ·rw [R.out];rfl
  ·exact (((FR.out.set ⟨w1.heap.size,0,none⟩ _ lt0).set ⟨w1.heap.size,1,none⟩ _ lt0).set ⟨w1.heap.size,2,none⟩ _ lt0).out
 have t1:decide (0 < m)=true:=by simp;omega
 by_cases c2:e1=0
 rotate_left
 ·have t2:(e1 != 0)=true:=by simp;exact c2
  have R:=zH (show r=noS e1 by rw [V.out,if_neg c1,if_pos c2])
  clear c1 c2 V
  go_enter Tryz.func147,Tryz.ntmps147
  go_wp2_with (refine lB 23 (.tmp 5) w.heap.size BA.out Tryz.underlying23 ?_)
  clear hw_w1 hw_w2 cA
  refine (RI.out _).mono ?_
  rintro e w3 ⟨rfl,hb⟩
  replace FR:=zH (FR.out.fut hb)
  replace BA:=zH (BA.out.fut hb)
  replace BC:=zH (BC.out.fut hb)
  clear hb
  have cA0:=BA.out.cell 0
  have cA1:=BA.out.cell 1
  go_wp2_with fail
  refine (ST1.out _).mono ?_
  rintro e w4 ⟨rfl,rfl⟩
  have fC:=fun i=>BC.out.frozen i
  have cC:=fun i=>BC.out.cell i
  go_wp2_with fail
  refine ret_cell_tmp rfl (((BC.out.set_ 0 _).set_ 1 _).set_ 2 _) rfl Tryz.underlying23 (by kernel_rfl) rfl ⟨?_,?_⟩
  ·rw [R.out];rfl
  ·exact (((FR.out.set ⟨w1.heap.size,0,none⟩ _ lt0).set ⟨w1.heap.size,1,none⟩ _ lt0).set ⟨w1.heap.size,2,none⟩ _ lt0).out
 have t2:(e1 != 0)=false:=by simp;exact c2
 by_cases c3:e2=0
 rotate_left
 ·have t3:(e2 != 0)=true:=by simp;exact c3
  have R:=zH (show r=noS e2 by rw [V.out,if_neg c1,if_neg (fun h=>h c2),if_pos c3])
  clear c1 c2 c3 V
  go_enter Tryz.func147,Tryz.ntmps147
  go_wp2_with (refine lB 23 (.tmp 5) w.heap.size BA.out Tryz.underlying23 ?_)
  clear hw_w1 hw_w2 cA
  refine (RI.out _).mono ?_
  rintro e w3 ⟨rfl,hb⟩
  replace FR:=zH (FR.out.fut hb)
  replace BA:=zH (BA.out.fut hb)
  replace BC:=zH (BC.out.fut hb)
  clear hb
  have cA0:=BA.out.cell 0
  have cA1:=BA.out.cell 1
  go_wp2_with fail
  refine (ST1.out _).mono ?_
  rintro e w4 ⟨rfl,rfl⟩
  go_wp2_with fail
  refine (ST2.out _).mono ?_
  rintro e w4 ⟨rfl,rfl⟩
  have fC:=fun i=>BC.out.frozen i
  have cC:=fun i=>BC.out.cell i
  go_wp2_with fail
  refine ret_cell_tmp rfl (((BC.out.set_ 0 _).set_ 1 _).set_ 2 _) rfl Tryz.underlying23 (by kernel_rfl) rfl ⟨?_,?_⟩
  ·rw [R.out];rfl
  ·exact (((FR.out.set ⟨w1.heap.size,0,none⟩ _ lt0).set ⟨w1.heap.size,1,none⟩ _ lt0).set ⟨w1.heap.size,2,none⟩ _ lt0).out
 have t3:(e2 != 0)=false:=by simp;exact c3
 by_cases c4:y=0
 ·have t4:decide (0 < y)=false:=by simp;omega
  have R:=zH (show r=noS 5 by rw [V.out,if_neg c1,if_neg (fun h=>h c2),if_neg (fun h=>h c3),if_pos c4])
  clear c1 c2 c3 c4 V
  go_enter Tryz.func147,Tryz.ntmps147
  go_wp2_with (refine lB 23 (.tmp 5) w.heap.size BA.out Tryz.underlying23 ?_)
  clear hw_w1 hw_w2 cA
  refine (RI.out _).mono ?_
  rintro e w3 ⟨rfl,hb⟩
  replace FR:=zH (FR.out.fut hb)
  replace BA:=zH (BA.out.fut hb)
  replace BC:=zH (BC.out.fut hb)
  clear hb
  have cA0:=BA.out.cell 0
  have cA1:=BA.out.cell 1
  go_wp2_with fail
  refine (ST1.out _).mono ?_
  rintro e w4 ⟨rfl,rfl⟩
  go_wp2_with fail
  refine (ST2.out _).mono ?_
  rintro e w4 ⟨rfl,rfl⟩
  clear cA0 cA1
  obtain ⟨w5,hw_w5,BD,k_w5⟩:=nB w3 (sN x1 x2 o) 23
  replace FR:=zH (FR.out.fut k_w5)
  replace BA:=zH (BA.out.fut k_w5)
  replace BC:=zH (BC.out.fut k_w5)
  clear k_w5
  have cD:=fun i=>BD.out.cell i
  go_wp2_with (refine lB 23 (.tmp 15) w3.heap.size BD.out Tryz.underlying23 ?_)
  clear hw_w5 cD
  refine (R3.out _).mono ?_
  rintro e w6 ⟨rfl,hb⟩
  replace FR:=zH (FR.out.fut hb)
  replace BC:=zH (BC.out.fut hb)
  replace BD:=zH (BD.out.fut hb)
  clear hb
  have fC:=fun i=>BC.out.frozen i
  have cC:=fun i=>BC.out.cell i
  go_wp2_with fail
  refine ret_cell_tmp rfl (((BC.out.set_ 0 _).set_ 1 _).set_ 2 _) rfl Tryz.underlying23 (by kernel_rfl) rfl ⟨?_,?_⟩
  ·rw [R.out];rfl
  ·exact (((FR.out.set ⟨w1.heap.size,0,none⟩ _ lt0).set ⟨w1.heap.size,1,none⟩ _ lt0).set ⟨w1.heap.size,2,none⟩ _ lt0).out
 have t4:decide (0 < y)=true:=by simp;omega
 have R:=zH (show r=((x1,x2,o),0) by rw [V.out,if_neg c1,if_neg (fun h=>h c2),if_neg (fun h=>h c3),if_neg c4])
 clear c1 c2 c3 c4 V
 go_enter Tryz.func147,Tryz.ntmps147
 go_wp2_with (refine lB 23 (.tmp 5) w.heap.size BA.out Tryz.underlying23 ?_)
 clear hw_w1 hw_w2 cA
 refine (RI.out _).mono ?_
 rintro e w3 ⟨rfl,hb⟩
 replace FR:=zH (FR.out.fut hb)
 replace BA:=zH (BA.out.fut hb)
 replace BC:=zH (BC.out.fut hb)
 clear hb
 have cA0:=BA.out.cell 0
 have cA1:=BA.out.cell 1
 go_wp2_with fail
 refine (ST1.out _).mono ?_
 rintro e w4 ⟨rfl,rfl⟩
 go_wp2_with fail
 refine (ST2.out _).mono ?_
 rintro e w4 ⟨rfl,rfl⟩
 clear cA0 cA1
 obtain ⟨w5,hw_w5,BD,k_w5⟩:=nB w3 (sN x1 x2 o) 23
 replace FR:=zH (FR.out.fut k_w5)
 replace BA:=zH (BA.out.fut k_w5)
 replace BC:=zH (BC.out.fut k_w5)
 clear k_w5
 have cD:=fun i=>BD.out.cell i
 go_wp2_with (refine lB 23 (.tmp 15) w3.heap.size BD.out Tryz.underlying23 ?_)
 clear hw_w5 cD
 refine (R3.out _).mono ?_
 rintro e w6 ⟨rfl,hb⟩
 replace FR:=zH (FR.out.fut hb)
 replace BC:=zH (BC.out.fut hb)
 replace BD:=zH (BD.out.fut hb)
 clear hb
 have fC:=fun i=>BC.out.frozen i
 have cC:=fun i=>BC.out.cell i
 go_wp2_with (refine lB 23 (.tmp 15) w3.heap.size BD.out Tryz.underlying23 ?_)
 refine ret_cell_tmp rfl (((BC.out.set_ 0 _).set_ 1 _).set_ 2 _) rfl Tryz.underlying23 (by kernel_rfl) rfl ⟨?_,?_⟩
 ·rw [R.out];rfl
 ·exact (((FR.out.set ⟨w1.heap.size,0,none⟩ _ lt0).set ⟨w1.heap.size,1,none⟩ _ lt0).set ⟨w1.heap.size,2,none⟩ _ lt0).out
set_option maxHeartbeats 4000000 in
theorem rslide_any (h v c k s p o:Int) (w:World) (h0:InK .i64 h) (h1:InK .i64 v) (h2:InK .i64 c) (h3:InK .i64 o) :
  Calls Tryz.prog 83 #[.agg (sN h v c),.int .i64 k,.int .i64 s,.int .i64 p,.int .i64 o] w fun e w'=>e=retS (slideV h v c k s p o)∧Below w.heap.size w w':=by
 have RI:=zH (fun w=>relems_any h c v w h0 h1 h2)
 obtain ⟨r,hr⟩:∃ r,slideV h v c k s p o=r:=⟨_,rfl⟩
 rw [hr]
 unfold slideV at hr
 have V:=zH hr.symm
 clear hr
 have ST1:=zH (fun w=>rsteps_any h k s p w)
 have ST2:=zH (fun w=>rsteps_any v k s p w)
 have bd1:=stepsV_bd h k s p
 have bd2:=stepsV_bd v k s p
 have HO:=zH h3
 clear h0 h1 h2 h3
 obtain ⟨m,hm⟩:∃ m,elems h v c=m:=⟨_,rfl⟩
 have m0:=(elems_range h v c).1
 obtain ⟨⟨x1,e1⟩,hs1⟩:∃ x,stepsV h k s p=x:=⟨_,rfl⟩
 obtain ⟨⟨x2,e2⟩,hs2⟩:∃ x,stepsV v k s p=x:=⟨_,rfl⟩
 rw [hm] at RI V m0
 rw [hs1] at V ST1 bd1
 rw [hs2] at V ST2 bd2
 simp only at V ST1 ST2 bd1 bd2
 clear hm hs1 hs2
 have R3:=zH (fun w=>relems_any x1 o x2 w (by rw [inK_i64];omega) (by rw [inK_i64];omega) HO.out)
 have y0:=(elems_range x1 x2 o).1
 obtain ⟨y,hy⟩:∃ y,elems x1 x2 o=y:=⟨_,rfl⟩
 rw [hy] at V R3 y0
 clear hy
 have FR:=zH (Far.refl w)
 obtain ⟨w1,hw_w1,BA,k_w1⟩:=nB w (sN h v c) 23
 replace FR:=zH (FR.out.fut k_w1)
 clear k_w1
 obtain ⟨w2,hw_w2,BC,k_w2⟩:=nB w1 (sN 0 0 0) 23
 replace FR:=zH (FR.out.fut k_w2)
 replace BA:=zH (BA.out.fut k_w2)
 clear k_w2
 have lt0:w.heap.size≤w1.heap.size:=by rw [← hw_w1];simp
 have cA:=fun i=>BA.out.cell i
 by_cases c1:m=0
 ·have t1:((m:Int) == 0)=true:=by simp;omega
  have R:=zH (show r=noS 5 by rw [V.out,if_pos c1])
  clear c1 V
  go_enter Tryz.func83,Tryz.ntmps83
  go_wp2_with (refine lB 23 (.tmp 5) w.heap.size BA.out Tryz.underlying23 ?_)
  clear hw_w1 hw_w2 cA
  refine (RI.out _).mono ?_
  rintro e w3 ⟨rfl,hb⟩
  replace FR:=zH (FR.out.fut hb)
  replace BA:=zH (BA.out.fut hb)
  replace BC:=zH (BC.out.fut hb)
  clear hb
  have fC:=fun i=>BC.out.frozen i
  have cC:=fun i=>BC.out.cell i
  go_wp2_with fail
  refine ret_cell_tmp rfl (((BC.out.set_ 0 _).set_ 1 _).set_ 2 _) rfl Tryz.underlying23 (by kernel_rfl) rfl ⟨?_,?_⟩
  ·rw [R.out];rfl
  ·exact (((FR.out.set ⟨w1.heap.size,0,none⟩ _ lt0).set ⟨w1.heap.size,1,none⟩ _ lt0).set ⟨w1.heap.size,2,none⟩ _ lt0).out
 have t1:((m:Int) == 0)=false:=by simp;omega
 by_cases c2:e1=0
 rotate_left
 ·have t2:(e1 != 0)=true:=by simp;exact c2
  have R:=zH (show r=noS e1 by rw [V.out,if_neg c1,if_pos c2])
  clear c1 c2 V
  go_enter Tryz.func83,Tryz.ntmps83
  go_wp2_with (refine lB 23 (.tmp 5) w.heap.size BA.out Tryz.underlying23 ?_)
  clear hw_w1 hw_w2 cA
  refine (RI.out _).mono ?_
  rintro e w3 ⟨rfl,hb⟩
  replace FR:=zH (FR.out.fut hb)
  replace BA:=zH (BA.out.fut hb)
  replace BC:=zH (BC.out.fut hb)
  clear hb
  have cA0:=BA.out.cell 0
  have cA1:=BA.out.cell 1
  go_wp2_with fail
  refine (ST1.out _).mono ?_
  rintro e w4 ⟨rfl,rfl⟩
  have fC:=fun i=>BC.out.frozen i
  have cC:=fun i=>BC.out.cell i
  go_wp2_with fail
  refine ret_cell_tmp rfl (((BC.out.set_ 0 _).set_ 1 _).set_ 2 _) rfl Tryz.underlying23 (by kernel_rfl) rfl ⟨?_,?_⟩
  ·rw [R.out];rfl
  ·exact (((FR.out.set ⟨w1.heap.size,0,none⟩ _ lt0).set ⟨w1.heap.size,1,none⟩ _ lt0).set ⟨w1.heap.size,2,none⟩ _ lt0).out
 have t2:(e1 != 0)=false:=by simp;exact c2
 by_cases c3:e2=0
 rotate_left
 ·have t3:(e2 != 0)=true:=by simp;exact c3
  have R:=zH (show r=noS e2 by rw [V.out,if_neg c1,if_neg (fun h=>h c2),if_pos c3])
  clear c1 c2 c3 V
  go_enter Tryz.func83,Tryz.ntmps83
  go_wp2_with (refine lB 23 (.tmp 5) w.heap.size BA.out Tryz.underlying23 ?_)
  clear hw_w1 hw_w2 cA
  refine (RI.out _).mono ?_
  rintro e w3 ⟨rfl,hb⟩
  replace FR:=zH (FR.out.fut hb)
  replace BA:=zH (BA.out.fut hb)
  replace BC:=zH (BC.out.fut hb)
  clear hb
  have cA0:=BA.out.cell 0
  have cA1:=BA.out.cell 1
  go_wp2_with fail
  refine (ST1.out _).mono ?_
  rintro e w4 ⟨rfl,rfl⟩
  go_wp2_with fail
  refine (ST2.out _).mono ?_
  rintro e w4 ⟨rfl,rfl⟩
  have fC:=fun i=>BC.out.frozen i
  have cC:=fun i=>BC.out.cell i
  go_wp2_with fail
  refine ret_cell_tmp rfl (((BC.out.set_ 0 _).set_ 1 _).set_ 2 _) rfl Tryz.underlying23 (by kernel_rfl) rfl ⟨?_,?_⟩
  ·rw [R.out];rfl
  ·exact (((FR.out.set ⟨w1.heap.size,0,none⟩ _ lt0).set ⟨w1.heap.size,1,none⟩ _ lt0).set ⟨w1.heap.size,2,none⟩ _ lt0).out
 have t3:(e2 != 0)=false:=by simp;exact c3
 by_cases c4:y=0
 ·have t4:((y:Int) == 0)=true:=by simp;omega
  have R:=zH (show r=noS 5 by rw [V.out,if_neg c1,if_neg (fun h=>h c2),if_neg (fun h=>h c3),if_pos c4])
  clear c1 c2 c3 c4 V
  go_enter Tryz.func83,Tryz.ntmps83
  go_wp2_with (refine lB 23 (.tmp 5) w.heap.size BA.out Tryz.underlying23 ?_)
  clear hw_w1 hw_w2 cA
  refine (RI.out _).mono ?_
  rintro e w3 ⟨rfl,hb⟩
  replace FR:=zH (FR.out.fut hb)
  replace BA:=zH (BA.out.fut hb)
  replace BC:=zH (BC.out.fut hb)
  clear hb
  have cA0:=BA.out.cell 0
  have cA1:=BA.out.cell 1
  go_wp2_with fail
  refine (ST1.out _).mono ?_
  rintro e w4 ⟨rfl,rfl⟩
  go_wp2_with fail
  refine (ST2.out _).mono ?_
  rintro e w4 ⟨rfl,rfl⟩
  clear cA0 cA1
  obtain ⟨w5,hw_w5,BD,k_w5⟩:=nB w3 (sN x1 x2 o) 23
  replace FR:=zH (FR.out.fut k_w5)
  replace BA:=zH (BA.out.fut k_w5)
  replace BC:=zH (BC.out.fut k_w5)
  clear k_w5
  have cD:=fun i=>BD.out.cell i
  go_wp2_with (refine lB 23 (.tmp 16) w3.heap.size BD.out Tryz.underlying23 ?_)
  clear hw_w5 cD
  refine (R3.out _).mono ?_
  rintro e w6 ⟨rfl,hb⟩
  replace FR:=zH (FR.out.fut hb)
  replace BC:=zH (BC.out.fut hb)
  replace BD:=zH (BD.out.fut hb)
  clear hb
  have fC:=fun i=>BC.out.frozen i
  have cC:=fun i=>BC.out.cell i
  go_wp2_with fail
  refine ret_cell_tmp rfl (((BC.out.set_ 0 _).set_ 1 _).set_ 2 _) rfl Tryz.underlying23 (by kernel_rfl) rfl ⟨?_,?_⟩
  ·rw [R.out];rfl
  ·exact (((FR.out.set ⟨w1.heap.size,0,none⟩ _ lt0).set ⟨w1.heap.size,1,none⟩ _ lt0).set ⟨w1.heap.size,2,none⟩ _ lt0).out
 have t4:((y:Int) == 0)=false:=by simp;omega
 have R:=zH (show r=((x1,x2,o),0) by rw [V.out,if_neg c1,if_neg (fun h=>h c2),if_neg (fun h=>h c3),if_neg c4])
 clear c1 c2 c3 c4 V
 go_enter Tryz.func83,Tryz.ntmps83
 go_wp2_with (refine lB 23 (.tmp 5) w.heap.size BA.out Tryz.underlying23 ?_)
 clear hw_w1 hw_w2 cA
 refine (RI.out _).mono ?_
 rintro e w3 ⟨rfl,hb⟩
 replace FR:=zH (FR.out.fut hb)
 replace BA:=zH (BA.out.fut hb)
 replace BC:=zH (BC.out.fut hb)
 clear hb
 have cA0:=BA.out.cell 0
 have cA1:=BA.out.cell 1
 go_wp2_with fail
 refine (ST1.out _).mono ?_
 rintro e w4 ⟨rfl,rfl⟩
 go_wp2_with fail
 refine (ST2.out _).mono ?_
 rintro e w4 ⟨rfl,rfl⟩
 clear cA0 cA1
 obtain ⟨w5,hw_w5,BD,k_w5⟩:=nB w3 (sN x1 x2 o) 23
 replace FR:=zH (FR.out.fut k_w5)
 replace BA:=zH (BA.out.fut k_w5)
 replace BC:=zH (BC.out.fut k_w5)
 clear k_w5
 have cD:=fun i=>BD.out.cell i
 go_wp2_with (refine lB 23 (.tmp 16) w3.heap.size BD.out Tryz.underlying23 ?_)
 clear hw_w5 cD
 refine (R3.out _).mono ?_
 rintro e w6 ⟨rfl,hb⟩
 replace FR:=zH (FR.out.fut hb)
 replace BC:=zH (BC.out.fut hb)
 replace BD:=zH (BD.out.fut hb)
 clear hb
 have fC:=fun i=>BC.out.frozen i
 have cC:=fun i=>BC.out.cell i
 go_wp2_with (refine lB 23 (.tmp 16) w3.heap.size BD.out Tryz.underlying23 ?_)
 refine ret_cell_tmp rfl (((BC.out.set_ 0 _).set_ 1 _).set_ 2 _) rfl Tryz.underlying23 (by kernel_rfl) rfl ⟨?_,?_⟩
 ·rw [R.out];rfl
 ·exact (((FR.out.set ⟨w1.heap.size,0,none⟩ _ lt0).set ⟨w1.heap.size,1,none⟩ _ lt0).set ⟨w1.heap.size,2,none⟩ _ lt0).out
end Go.Proofs.YtppcjcigekoipaaGreat
