/-
  Tensors that may be (layer 5).
  tensor (layer 5): what a right tensor is.
  How often a window lies within (layer 4): shape.in, Steps, the document's Steps.
  The shape of what a window makes (layer 4): shape.Slide, the document's Slide.
  The shape that a node makes (layers 10, 17): conv.Shape, depth.Shape, the document's.
  The shape that a node makes (layers 18, 25): what they are, in numbers.
  Sums of whole numbers over ranges: one range of ranges, two ranges in either order.
  A window's sum (layers 10, 13, 16): the plain form, flat over rows, columns, channels; by three channels' rows (lane).
  The sums of convolutions (layers 10, 14, 16, 17): what the shapes say, in whole numbers; the values.
  'make([]T, n)' of numbers as an operation by itself (in a region that draws its order); a list that is filled here and there.
  An empty row of a call's own.
-/
import Derived.Test.YtlbkekabmpienaaGreatChecked
import Derived.Test.YtlbkekabmpienaaGreatJ04
import Derived.Test.YtlbkekabmpienaaGreatJ00
import Derived.WalkKit
import Derived.Test.YtlbkekabmpienaaGreatJ05
import Derived.Test.YtlbkekabmpienaaGreatJ01
import Derived.Test.YtlbkekabmpienaaGreatJ02
import Derived.Laws.MakeOwn
import Derived.WalkSpells
import Derived.Lib.SliceRun
namespace Go.Proofs.YtlbkekabmpienaaGreat
open Go.RowKit Go.ChangeShapes Go.WideShapes
set_option maxRecDepth 100000
set_option linter.unusedVariables false
set_option linter.unusedSimpArgs false
theorem tensorRight_any (h v c:Int) (A:Option Addr) (n cap:Nat) (w:World) (h0:InK .i64 h) (h1:InK .i64 v) (h2:InK .i64 c) (hn:n≤maxLen) :
  Calls Tryz.prog 17 #[.agg #[.int .i64 h,.int .i64 v,.int .i64 c,.slice A n cap]] w fun e w'=>e=.returned (.bool (decide (0 < elems h v c∧elems h v c=n)))∧Below w.heap.size w w':=by
 have H0:=zH h0
 have H1:=zH h1
 have H2:=zH h2
 unfold maxLen at hn
 clear h0 h1 h2
 go_enter Tryz.func17,Tryz.ntmps17
 go_wp2_with fail
 refine (elems_any h c v _ H0.out H1.out H2.out).mono ?_
 rintro e w' ⟨rfl,hb⟩
 have hc:=cell_below hb (p:=⟨w.heap.size,3,none⟩) (v:=.slice A n cap) (by simp [go_sem]) (by simp)
 generalize he:elems h v c=m at *
 have HE:=zH he
 clear he
 by_cases hm:0 < m
 ·go_wp2_with fail
  go_ret
  exact ⟨ret_bool (by rw [HE.out,Bool.eq_iff_iff];simp [hm]),((Below.refl _ _).alloc (Nat.le_refl _) _).trans (hb.mono (by simp))⟩
 ·go_wp2_with fail
  go_ret
  exact ⟨ret_bool (by rw [HE.out,Bool.eq_iff_iff];simp;omega),((Below.refl _ _).alloc (Nat.le_refl _) _).trans (hb.mono (by simp))⟩
end Go.Proofs.YtlbkekabmpienaaGreat
set_option linter.unusedVariables false
set_option linter.unusedSimpArgs false
namespace Go.Proofs.YtlbkekabmpienaaGreat
open Go.RowKit Go.ChangeShapes Go.WideShapes
set_option maxRecDepth 100000
/-- Is a tensor right? -/
def Tensor.ok (t:Tensor):Bool:=decide (0 < elems t.h t.v t.c∧elems t.h t.v t.c=t.data.length)
theorem Sl.far {α:Type} {t:Ty α} {w:World} {S:Nat → Prop} {A:Option Addr} {n cap:Nat} {l:List α} (h:Sl t w S A n cap l) (p:Addr) (u:Value) (hp:∀ b,S b → b ≠ p.block):Sl t (w.setCell p u) S A n cap l :=
 h.keep fun b hb=>Below.heap_setCell w p u b (hp b hb)
end Go.Proofs.YtlbkekabmpienaaGreat
namespace Go.Proofs.YtlbkekabmpienaaGreat
set_option linter.unusedVariables false
set_option linter.unusedSimpArgs false
open Go.RowKit Go.ChangeShapes Go.WideShapes
set_option maxRecDepth 100000
def inB (v lo hi:Int):Bool:=decide (lo≤v∧v≤hi)
theorem inB_t {v lo hi:Int} (h:lo≤v∧v≤hi):inB v lo hi=true:=decide_eq_true h
theorem inB_f {v lo hi:Int} (h:¬ (lo≤v∧v≤hi)):inB v lo hi=false:=decide_eq_false h
theorem in_any (v lo hi:Int) (w:World):Calls Tryz.prog 146 #[.int .i64 v,.int .i64 lo,.int .i64 hi] w fun e w'=>e=.returned (.bool (inB v lo hi))∧w=w':=by
 obtain ⟨r,hr⟩:∃ r,inB v lo hi=r:=⟨_,rfl⟩
 rw [hr]
 by_cases h1:lo≤v
 ·have t1:decide (lo≤v)=true:=decide_eq_true h1
  by_cases h2:v≤hi
  ·have t2:decide (v≤hi)=true:=decide_eq_true h2
   have R:=zH (show true=r by rw [← hr,inB_t ⟨h1,h2⟩])
   clear h1 h2 hr
   go_enter Tryz.func146,Tryz.ntmps146
   go_wp2_with fail
   go_ret
   exact ⟨ret_bool R.out,rfl⟩
  ·have t2:decide (v≤hi)=false:=decide_eq_false h2
   have R:=zH (show false=r by rw [← hr,inB_f (fun e=>h2 e.2)])
   clear h1 h2 hr
   go_enter Tryz.func146,Tryz.ntmps146
   go_wp2_with fail
   go_ret
   exact ⟨ret_bool R.out,rfl⟩
 ·have t1:decide (lo≤v)=false:=decide_eq_false h1
  have R:=zH (show false=r by rw [← hr,inB_f (fun e=>h1 e.1)])
  clear h1 hr
  go_enter Tryz.func146,Tryz.ntmps146
  go_wp2_with fail
  go_ret
  exact ⟨ret_bool R.out,rfl⟩
/-- How often a window lies within, and the error. -/
def stepOk (n k s p:Int):Prop:=1≤n∧n≤1024∧1≤k∧k≤5∧1≤s∧s≤4∧0≤p∧p≤4∧p < k
instance (n k s p:Int):Decidable (stepOk n k s p):=inferInstanceAs (Decidable (_∧_))
def stepsV (n k s p:Int):Int × Int:=if stepOk n k s p then (if n+2*p < k then (0,5) else ((n+2*p - k).tdiv s+1,0)) else (0,2)
theorem stepsV_bad {n k s p:Int} (h:¬ stepOk n k s p):stepsV n k s p=(0,2):=if_neg h
theorem stepsV_no {n k s p:Int} (h:stepOk n k s p) (h2:n+2*p < k):stepsV n k s p=(0,5):=by unfold stepsV;rw [if_pos h,if_pos h2]
theorem stepsV_yes {n k s p:Int} (h:stepOk n k s p) (h2:¬ n+2*p < k):stepsV n k s p=((n+2*p - k).tdiv s+1,0):=by unfold stepsV;rw [if_pos h,if_neg h2]
set_option maxHeartbeats 2000000 in
theorem steps_any (n k s p:Int) (w:World):Calls Tryz.prog 127 #[.int .i64 n,.int .i64 k,.int .i64 s,.int .i64 p] w fun e w'=>e=.returned (.tuple #[.int .i64 (stepsV n k s p).1,.int .i64 (stepsV n k s p).2])∧w=w':=by
 by_cases c:stepOk n k s p
 ·have t1:=inB_t (v:=n) (lo:=1) (hi:=1024) ⟨c.1,c.2.1⟩
  have t2:=inB_t (v:=k) (lo:=1) (hi:=5) ⟨c.2.2.1,c.2.2.2.1⟩
  have t3:=inB_t (v:=s) (lo:=1) (hi:=4) ⟨c.2.2.2.2.1,c.2.2.2.2.2.1⟩
  have t4:=inB_t (v:=p) (lo:=0) (hi:=4) ⟨c.2.2.2.2.2.2.1,c.2.2.2.2.2.2.2.1⟩
  have C:=c
  unfold stepOk at c
  have t5:decide (k≤p)=false:=by simp;omega
  have e1:IntKind.i64.wrap (2*p)=2*p:=IntWalk.i64_in _ (by omega)
  have e2:IntKind.i64.wrap (n+2*p)=n+2*p:=IntWalk.i64_in _ (by omega)
  by_cases h:n+2*p < k
  ·have t6:decide (n+2*p < k)=true:=decide_eq_true h
   have R:=zH (stepsV_no C h)
   clear c C h
   go_enter Tryz.func127,Tryz.ntmps127
   go_wp2_with (go_at_call 146;refine (in_any _ _ _ _).mono ?_;rintro e w' ⟨rfl,rfl⟩)
   go_ret2
   exact ⟨by rw [R.out];rfl,rfl⟩
  ·have t6:decide (n+2*p < k)=false:=decide_eq_false h
   have R:=zH (stepsV_yes C h)
   have e3:IntKind.i64.wrap (n+2*p - k)=n+2*p - k:=IntWalk.i64_in _ (by omega)
   have d0:0≤(n+2*p - k).tdiv s∧(n+2*p - k).tdiv s≤2000:=by
    rw [Int.tdiv_eq_ediv_of_nonneg (by omega)]
    refine ⟨Int.ediv_nonneg (by omega) (by omega),?_⟩
    exact Int.le_trans (Int.ediv_le_self _ (by omega)) (by omega)
   have s0:(s == 0)=false:=by simp;omega
   have hs0:s ≠ 0:=by omega
   have S0:=zH hs0
   generalize hd:(n+2*p - k).tdiv s=d at *
   have e4:IntKind.i64.wrap d=d:=IntWalk.i64_in _ (by omega)
   have e5:IntKind.i64.wrap (d+1)=d+1:=IntWalk.i64_in _ (by omega)
   clear c C h d0 hs0
   go_enter Tryz.func127,Tryz.ntmps127
   go_wp2_with (go_at_call 146;refine (in_any _ _ _ _).mono ?_;rintro e w' ⟨rfl,rfl⟩)
   go_ret2
   exact ⟨by rw [R.out];rfl,rfl⟩
 ·have R:=zH (stepsV_bad c)
  by_cases h1:1≤n∧n≤1024
  rotate_left
  ·have t1:=inB_f h1
   clear c h1
   go_enter Tryz.func127,Tryz.ntmps127
   go_wp2_with (go_at_call 146;refine (in_any _ _ _ _).mono ?_;rintro e w' ⟨rfl,rfl⟩)
   go_ret2
   exact ⟨by rw [R.out];rfl,rfl⟩
  have t1:=inB_t h1
  by_cases h2:1≤k∧k≤5
  rotate_left
  ·have t2:=inB_f h2
   clear c h1 h2
   go_enter Tryz.func127,Tryz.ntmps127
   go_wp2_with (go_at_call 146;refine (in_any _ _ _ _).mono ?_;rintro e w' ⟨rfl,rfl⟩)
   go_ret2
   exact ⟨by rw [R.out];rfl,rfl⟩
  have t2:=inB_t h2
  by_cases h3:1≤s∧s≤4
  rotate_left
  ·have t3:=inB_f h3
   clear c h1 h2 h3
   go_enter Tryz.func127,Tryz.ntmps127
   go_wp2_with (go_at_call 146;refine (in_any _ _ _ _).mono ?_;rintro e w' ⟨rfl,rfl⟩)
   go_ret2
   exact ⟨by rw [R.out];rfl,rfl⟩
  have t3:=inB_t h3
  by_cases h4:0≤p∧p≤4
  rotate_left
  ·have t4:=inB_f h4
   clear c h1 h2 h3 h4
   go_enter Tryz.func127,Tryz.ntmps127
   go_wp2_with (go_at_call 146;refine (in_any _ _ _ _).mono ?_;rintro e w' ⟨rfl,rfl⟩)
   go_ret2
   exact ⟨by rw [R.out];rfl,rfl⟩
  have t4:=inB_t h4
  have t5:decide (k≤p)=true:=by simp;unfold stepOk at c;omega
  clear c h1 h2 h3 h4
  go_enter Tryz.func127,Tryz.ntmps127
  go_wp2_with (go_at_call 146;refine (in_any _ _ _ _).mono ?_;rintro e w' ⟨rfl,rfl⟩)
  go_ret2
  exact ⟨by rw [R.out];rfl,rfl⟩
end Go.Proofs.YtlbkekabmpienaaGreat
namespace Go.Proofs.YtlbkekabmpienaaGreat
set_option linter.unusedVariables false
set_option linter.unusedSimpArgs false
open Go.RowKit Go.ChangeShapes Go.WideShapes
set_option maxRecDepth 100000
/-- A shape and an error. -/
abbrev ShE:=(Int × Int × Int) × Int
def retS (x:ShE):Ending:=.returned (.tuple #[.agg #[.int .i64 x.1.1,.int .i64 x.1.2.1,.int .i64 x.1.2.2],.int .i64 x.2])
def noS (e:Int):ShE:=((0,0,0),e)
theorem stepsV_bd (n k s p:Int):0≤(stepsV n k s p).1∧(stepsV n k s p).1≤2001:=by
 unfold stepsV
 split
 ·rename_i c
  unfold stepOk at c
  split
  ·simp
  ·have h1:0≤(n+2*p - k).tdiv s:=by rw [Int.tdiv_eq_ediv_of_nonneg (by omega)];exact Int.ediv_nonneg (by omega) (by omega)
   have h2:(n+2*p - k).tdiv s≤2000:=by rw [Int.tdiv_eq_ediv_of_nonneg (by omega)];exact Int.le_trans (Int.ediv_le_self _ (by omega)) (by omega)
   simp only;omega
 ·simp
def slideV (h v c k s p o:Int):ShE :=
 if elems h v c=0 then noS 5 else if (stepsV h k s p).2 ≠ 0 then noS (stepsV h k s p).2 else if (stepsV v k s p).2 ≠ 0 then noS (stepsV v k s p).2
 else if elems (stepsV h k s p).1 (stepsV v k s p).1 o=0 then noS 5 else (((stepsV h k s p).1,(stepsV v k s p).1,o),0)
set_option maxHeartbeats 4000000 in
theorem slide_any (h v c k s p o:Int) (w:World) (h0:InK .i64 h) (h1:InK .i64 v) (h2:InK .i64 c) (h3:InK .i64 o) :
  Calls Tryz.prog 93 #[.agg #[.int .i64 h,.int .i64 v,.int .i64 c],.int .i64 k,.int .i64 s,.int .i64 p,.int .i64 o] w fun e w'=>e=retS (slideV h v c k s p o)∧Below w.heap.size w w':=by
 have RI:=zH (fun w=>shapeRight_any h c v w h0 h1 h2)
 obtain ⟨r,hr⟩:∃ r,slideV h v c k s p o=r:=⟨_,rfl⟩
 rw [hr]
 unfold slideV at hr
 have V:=zH hr.symm
 clear hr
 have ST1:=zH (fun w=>steps_any h k s p w)
 have ST2:=zH (fun w=>steps_any v k s p w)
 have bd1:=stepsV_bd h k s p
 have bd2:=stepsV_bd v k s p
 have HO:=zH h3
 clear h0 h1 h2 h3
 obtain ⟨m,hm⟩:∃ m,elems h v c=m:=⟨_,rfl⟩
 have m0:=(elems_range h v c).1
 obtain ⟨⟨x1,e1⟩,hs1⟩:∃ x,stepsV h k s p=x:=⟨_,rfl⟩
 obtain ⟨⟨x2,e2⟩,hs2⟩:∃ x,stepsV v k s p=x:=⟨_,rfl⟩
 rw [hm] at RI V m0
 rw [hs1] at V ST1 bd1
 rw [hs2] at V ST2 bd2
 simp only at V ST1 ST2 bd1 bd2
 clear hm hs1 hs2
 have R3:=zH (fun w=>shapeRight_any x1 o x2 w (by rw [inK_i64];omega) (by rw [inK_i64];omega) HO.out)
 have y0:=(elems_range x1 x2 o).1
 obtain ⟨y,hy⟩:∃ y,elems x1 x2 o=y:=⟨_,rfl⟩
 rw [hy] at V R3 y0
 clear hy
 have FR:=zH (Far.refl w)
 obtain ⟨w1,hw_w1,BA,k_w1⟩:=nB w #[.int .i64 h,.int .i64 v,.int .i64 c] 30
 replace FR:=zH (FR.out.fut k_w1)
 clear k_w1
 obtain ⟨w2,hw_w2,BC,k_w2⟩:=nB w1 #[.int .i64 0,.int .i64 0,.int .i64 0] 30
 replace FR:=zH (FR.out.fut k_w2)
 replace BA:=zH (BA.out.fut k_w2)
 clear k_w2
 have lt0:w.heap.size≤w1.heap.size:=by rw [← hw_w1];simp
 have cA:=fun i=>BA.out.cell i
 by_cases c1:m=0
 ·have t1:decide (0 < m)=false:=by simp;omega
  have R:=zH (show r=noS 5 by rw [V.out,if_pos c1])
  clear c1 V
  go_enter Tryz.func93,Tryz.ntmps93
  go_wp2_with (refine wpList_load_row rfl 30 (.tmp 5) rfl w.heap.size rfl _ _ (0,0) _ BA.out.heap Tryz.underlying30 rfl (by kernel_rfl) ?_)
  clear hw_w1 hw_w2 cA
  refine (RI.out _).mono ?_
  rintro e w3 ⟨rfl,hb⟩
  replace FR:=zH (FR.out.fut hb)
  replace BA:=zH (BA.out.fut hb)
  replace BC:=zH (BC.out.fut hb)
  clear hb
  have fC:=fun i=>BC.out.frozen i
  have cC:=fun i=>BC.out.cell i
  go_wp2_with fail
  refine ret_cell_tmp rfl (((BC.out.set_ 0 _).set_ 1 _).set_ 2 _) rfl Tryz.underlying30 (by kernel_rfl) rfl ⟨?_,?_⟩
  ·rw [R.out];rfl
  ·exact (((FR.out.set ⟨w1.heap.size,0,none⟩ _ lt0).set ⟨w1.heap.size,1,none⟩ _ lt0).set ⟨w1.heap.size,2,none⟩ _ lt0).out
 have t1:decide (0 < m)=true:=by simp;omega
 by_cases c2:e1=0
 rotate_left
 ·have t2:(e1 != 0)=true:=by simp;exact c2
  have R:=zH (show r=noS e1 by rw [V.out,if_neg c1,if_pos c2])
  clear c1 c2 V
  go_enter Tryz.func93,Tryz.ntmps93
  go_wp2_with (refine wpList_load_row rfl 30 (.tmp 5) rfl w.heap.size rfl _ _ (0,0) _ BA.out.heap Tryz.underlying30 rfl (by kernel_rfl) ?_)
  clear hw_w1 hw_w2 cA
  refine (RI.out _).mono ?_
  rintro e w3 ⟨rfl,hb⟩
  replace FR:=zH (FR.out.fut hb)
  replace BA:=zH (BA.out.fut hb)
  replace BC:=zH (BC.out.fut hb)
  clear hb
  have cA0:=BA.out.cell 0
  have cA1:=BA.out.cell 1
  go_wp2_with fail
  refine (ST1.out _).mono ?_
  rintro e w4 ⟨rfl,rfl⟩
  have fC:=fun i=>BC.out.frozen i
  have cC:=fun i=>BC.out.cell i
  go_wp2_with fail
  refine ret_cell_tmp rfl (((BC.out.set_ 0 _).set_ 1 _).set_ 2 _) rfl Tryz.underlying30 (by kernel_rfl) rfl ⟨?_,?_⟩
  ·rw [R.out];rfl
  ·exact (((FR.out.set ⟨w1.heap.size,0,none⟩ _ lt0).set ⟨w1.heap.size,1,none⟩ _ lt0).set ⟨w1.heap.size,2,none⟩ _ lt0).out
 have t2:(e1 != 0)=false:=by simp;exact c2
 by_cases c3:e2=0
 rotate_left
 ·have t3:(e2 != 0)=true:=by simp;exact c3
  have R:=zH (show r=noS e2 by rw [V.out,if_neg c1,if_neg (fun h=>h c2),if_pos c3])
  clear c1 c2 c3 V
  go_enter Tryz.func93,Tryz.ntmps93
  go_wp2_with (refine wpList_load_row rfl 30 (.tmp 5) rfl w.heap.size rfl _ _ (0,0) _ BA.out.heap Tryz.underlying30 rfl (by kernel_rfl) ?_)
  clear hw_w1 hw_w2 cA
  refine (RI.out _).mono ?_
  rintro e w3 ⟨rfl,hb⟩
  replace FR:=zH (FR.out.fut hb)
  replace BA:=zH (BA.out.fut hb)
  replace BC:=zH (BC.out.fut hb)
  clear hb
  have cA0:=BA.out.cell 0
  have cA1:=BA.out.cell 1
  go_wp2_with fail
  refine (ST1.out _).mono ?_
  rintro e w4 ⟨rfl,rfl⟩
  go_wp2_with fail
  refine (ST2.out _).mono ?_
  rintro e w4 ⟨rfl,rfl⟩
  have fC:=fun i=>BC.out.frozen i
  have cC:=fun i=>BC.out.cell i
  go_wp2_with fail
  refine ret_cell_tmp rfl (((BC.out.set_ 0 _).set_ 1 _).set_ 2 _) rfl Tryz.underlying30 (by kernel_rfl) rfl ⟨?_,?_⟩
  ·rw [R.out];rfl
  ·exact (((FR.out.set ⟨w1.heap.size,0,none⟩ _ lt0).set ⟨w1.heap.size,1,none⟩ _ lt0).set ⟨w1.heap.size,2,none⟩ _ lt0).out
 have t3:(e2 != 0)=false:=by simp;exact c3
 by_cases c4:y=0
 ·have t4:decide (0 < y)=false:=by simp;omega
  have R:=zH (show r=noS 5 by rw [V.out,if_neg c1,if_neg (fun h=>h c2),if_neg (fun h=>h c3),if_pos c4])
  clear c1 c2 c3 c4 V
  go_enter Tryz.func93,Tryz.ntmps93
  go_wp2_with (refine wpList_load_row rfl 30 (.tmp 5) rfl w.heap.size rfl _ _ (0,0) _ BA.out.heap Tryz.underlying30 rfl (by kernel_rfl) ?_)
  clear hw_w1 hw_w2 cA
  refine (RI.out _).mono ?_
  rintro e w3 ⟨rfl,hb⟩
  replace FR:=zH (FR.out.fut hb)
  replace BA:=zH (BA.out.fut hb)
  replace BC:=zH (BC.out.fut hb)
  clear hb
  have cA0:=BA.out.cell 0
  have cA1:=BA.out.cell 1
  go_wp2_with fail
  refine (ST1.out _).mono ?_
  rintro e w4 ⟨rfl,rfl⟩
  go_wp2_with fail
  refine (ST2.out _).mono ?_
  rintro e w4 ⟨rfl,rfl⟩
  clear cA0 cA1
  obtain ⟨w5,hw_w5,BD,k_w5⟩:=nB w3 #[.int .i64 x1,.int .i64 x2,.int .i64 o] 30
  replace FR:=zH (FR.out.fut k_w5)
  replace BA:=zH (BA.out.fut k_w5)
  replace BC:=zH (BC.out.fut k_w5)
  clear k_w5
  have cD:=fun i=>BD.out.cell i
  go_wp2_with (refine wpList_load_row rfl 30 (.tmp 15) rfl w3.heap.size rfl _ _ (0,0) _ BD.out.heap Tryz.underlying30 rfl (by kernel_rfl) ?_)
  clear hw_w5 cD
  refine (R3.out _).mono ?_
  rintro e w6 ⟨rfl,hb⟩
  replace FR:=zH (FR.out.fut hb)
  replace BC:=zH (BC.out.fut hb)
  replace BD:=zH (BD.out.fut hb)
  clear hb
  have fC:=fun i=>BC.out.frozen i
  have cC:=fun i=>BC.out.cell i
  go_wp2_with fail
  refine ret_cell_tmp rfl (((BC.out.set_ 0 _).set_ 1 _).set_ 2 _) rfl Tryz.underlying30 (by kernel_rfl) rfl ⟨?_,?_⟩
  ·rw [R.out];rfl
  ·exact (((FR.out.set ⟨w1.heap.size,0,none⟩ _ lt0).set ⟨w1.heap.size,1,none⟩ _ lt0).set ⟨w1.heap.size,2,none⟩ _ lt0).out
 have t4:decide (0 < y)=true:=by simp;omega
 have R:=zH (show r=((x1,x2,o),0) by rw [V.out,if_neg c1,if_neg (fun h=>h c2),if_neg (fun h=>h c3),if_neg c4])
 clear c1 c2 c3 c4 V
 go_enter Tryz.func93,Tryz.ntmps93
 go_wp2_with (refine wpList_load_row rfl 30 (.tmp 5) rfl w.heap.size rfl _ _ (0,0) _ BA.out.heap Tryz.underlying30 rfl (by kernel_rfl) ?_)
 clear hw_w1 hw_w2 cA
 refine (RI.out _).mono ?_
 rintro e w3 ⟨rfl,hb⟩
 replace FR:=zH (FR.out.fut hb)
 replace BA:=zH (BA.out.fut hb)
 replace BC:=zH (BC.out.fut hb)
 clear hb
 have cA0:=BA.out.cell 0
 have cA1:=BA.out.cell 1
 go_wp2_with fail
 refine (ST1.out _).mono ?_
 rintro e w4 ⟨rfl,rfl⟩
 go_wp2_with fail
 refine (ST2.out _).mono ?_
 rintro e w4 ⟨rfl,rfl⟩
 clear cA0 cA1
 obtain ⟨w5,hw_w5,BD,k_w5⟩:=nB w3 #[.int .i64 x1,.int .i64 x2,.int .i64 o] 30
 replace FR:=zH (FR.out.fut k_w5)
 replace BA:=zH (BA.out.fut k_w5)
 replace BC:=zH (BC.out.fut k_w5)
 clear k_w5
 have cD:=fun i=>BD.out.cell i
 go_wp2_with (refine wpList_load_row rfl 30 (.tmp 15) rfl w3.heap.size rfl _ _ (0,0) _ BD.out.heap Tryz.underlying30 rfl (by kernel_rfl) ?_)
 clear hw_w5 cD
 refine (R3.out _).mono ?_
 rintro e w6 ⟨rfl,hb⟩
 replace FR:=zH (FR.out.fut hb)
 replace BC:=zH (BC.out.fut hb)
 replace BD:=zH (BD.out.fut hb)
 clear hb
 have fC:=fun i=>BC.out.frozen i
 have cC:=fun i=>BC.out.cell i
 go_wp2_with (refine wpList_load_row rfl 30 (.tmp 15) rfl w3.heap.size rfl _ _ (0,0) _ BD.out.heap Tryz.underlying30 rfl (by kernel_rfl) ?_)
 refine ret_cell_tmp rfl (((BC.out.set_ 0 _).set_ 1 _).set_ 2 _) rfl Tryz.underlying30 (by kernel_rfl) rfl ⟨?_,?_⟩
 ·rw [R.out];rfl
 ·exact (((FR.out.set ⟨w1.heap.size,0,none⟩ _ lt0).set ⟨w1.heap.size,1,none⟩ _ lt0).set ⟨w1.heap.size,2,none⟩ _ lt0).out
end Go.Proofs.YtlbkekabmpienaaGreat
namespace Go.Proofs.YtlbkekabmpienaaGreat
set_option linter.unusedVariables false
set_option linter.unusedSimpArgs false
open Go.RowKit Go.ChangeShapes Go.WideShapes
set_option maxRecDepth 100000
theorem slideV_ok {h v c k s p o:Int} (e:(slideV h v c k s p o).2=0):1≤k∧k≤5∧1≤o∧o≤1024∧1≤c∧c≤1024:=by
 unfold slideV at e
 by_cases c1:elems h v c=0
 ·rw [if_pos c1] at e;cases e
 rw [if_neg c1] at e
 by_cases c2:(stepsV h k s p).2 ≠ 0
 ·rw [if_pos c2] at e;exact absurd e c2
 rw [if_neg c2] at e
 by_cases c3:(stepsV v k s p).2 ≠ 0
 ·rw [if_pos c3] at e;exact absurd e c3
 rw [if_neg c3] at e
 by_cases c4:elems (stepsV h k s p).1 (stepsV v k s p).1 o=0
 ·rw [if_pos c4] at e;cases e
 rw [elems_iff] at c1 c4
 have g1:1≤c∧c≤1024:=by
  split at c1
  ·omega
  ·exact absurd rfl c1
 have g2:1≤o∧o≤1024:=by
  split at c4
  ·omega
  ·exact absurd rfl c4
 have g3:1≤k∧k≤5:=by
  unfold stepsV at c2
  split at c2
  ·rename_i q;unfold stepOk at q;omega
  ·exact absurd (by decide) c2
 omega
/-- The weights fit, or they do not. -/
def fitV (x:ShE) (want out:Int) (d:Node):ShE:=if x.2 ≠ 0 then noS x.2 else if ¬ (d.w.length:Int)=want ∨ 16384 < d.w.length ∨ ¬ (d.bias.length:Int)=out then noS 9 else x
def convV (h v c:Int) (d:Node):ShE:=fitV (slideV h v c d.k d.s d.p d.out) (d.out*d.k*d.k*c) d.out d
def depthV (h v c:Int) (d:Node):ShE:=fitV (slideV h v c d.k d.s d.p c) (c*d.k*d.k) c d
theorem prod_bd {a b:Int} {m n:Int} (h1:0≤a) (h2:a≤m) (h3:0≤b) (h4:b≤n) (hm:0≤m):0≤a*b∧a*b≤m*n :=
 ⟨Int.mul_nonneg h1 h3,Int.mul_le_mul h2 h4 h3 hm⟩
end Go.Proofs.YtlbkekabmpienaaGreat
namespace Go.Proofs.YtlbkekabmpienaaGreat
set_option linter.unusedVariables false
set_option linter.unusedSimpArgs false
open Go.RowKit Go.ChangeShapes Go.WideShapes
set_option maxRecDepth 100000
/-- '!=' of two aggregates, out of a run of the comparison. -/
theorem wpList_neq_agg {P:Program} {ops:Array Oper} {rest:List Oper} {o:Oper} {a:Act} {w:World} {Q:Exit → Act → World → Prop} (t u:TypeId) (x y:Operand) (ho:o.op=.binOp .neq t x y u) (xs ys:Array Value) (hx:a.eval x=.agg xs) (hy:a.eval y=.agg ys)
  (hw:Region.wanted o (yielded ops a.tmps)=true) (hm:P.eqGuardType P.depth t=false) (b:Bool) (hrun:(Op.equalIn 10000 t (.agg xs) (.agg ys)).run P w=.ok b w) (h:wpList P ops Q rest (a.put o.dst (.bool (!b))) w):wpList P ops Q (o :: rest) a w:=by
 refine BigFrame.wpList_want hw fun K hK=>?_
 unfold Oper.wp execOp
 simp only [ho,hx,hy,Sem.run_bind,fun w=>run_eqGuard_agg (P:=P) w .neq t x y xs ys hm,run_neq_struct,hrun,Result.andThen_ok,Sem.run_pure]
 exact hK _ _ (by simpa using h)
theorem eq_shape (w:World) (h v c h2 v2 c2:Int):(Op.equalIn 10000 30 (.agg #[.int .i64 h,.int .i64 v,.int .i64 c]) (.agg #[.int .i64 h2,.int .i64 v2,.int .i64 c2])).run Tryz.prog w=.ok ([h,v,c] == [h2,v2,c2]) w :=
 run_eql_st3 (P:=Tryz.prog) (t:=30) (k0:=.i64) (k1:=.i64) (k2:=.i64) w Tryz.underlying30 (by kernel_rfl) (by decide) ⟨rfl,rfl,rfl⟩ Tryz.underlying3 Tryz.underlying3 Tryz.underlying3 (by kernel_rfl) (by kernel_rfl) (by kernel_rfl) h v c h2 v2 c2
end Go.Proofs.YtlbkekabmpienaaGreat
namespace Go.Proofs.YtlbkekabmpienaaGreat
set_option linter.unusedVariables false
def sumN:Nat → (Nat → Int) → Int
 | 0,_=>0
 | n+1,f=>sumN n f+f n
theorem sumN_congr {n:Nat} {f g:Nat → Int} (h:∀ i,i < n → f i=g i):sumN n f=sumN n g:=by
 induction n with
 | zero=>rfl
 | succ n ih=>rw [sumN,sumN,ih (fun i hi=>h i (by omega)),h n (by omega)]
theorem sumN_add (n:Nat) (f g:Nat → Int):sumN n (fun i=>f i+g i)=sumN n f+sumN n g:=by
 induction n with
 | zero=>rfl
 | succ n ih=>simp only [sumN,ih];omega
theorem sumN_zero (n:Nat):sumN n (fun _=>0)=0:=by
 induction n with
 | zero=>rfl
 | succ n ih=>simp only [sumN,ih];rfl
theorem sumN_append (a b:Nat) (f:Nat → Int):sumN (a+b) f=sumN a f+sumN b (fun i=>f (a+i)):=by
 induction b with
 | zero=>simp [sumN]
 | succ b ih=>rw [← Nat.add_assoc,sumN,ih,sumN];omega
theorem sumN_mul (a b:Nat) (f:Nat → Int):sumN (a*b) f=sumN a (fun i=>sumN b (fun j=>f (i*b+j))):=by
 induction a with
 | zero=>simp [sumN]
 | succ a ih=>rw [Nat.add_mul,Nat.one_mul,sumN_append,ih,sumN]
theorem sumN_swap (a b:Nat) (g:Nat → Nat → Int):sumN a (fun i=>sumN b (g i))=sumN b (fun j=>sumN a (fun i=>g i j)):=by
 induction a with
 | zero=>simp only [sumN];rw [sumN_zero]
 | succ a ih=>simp only [sumN];rw [ih,sumN_add]
theorem sumN_three (f:Nat → Int):sumN 3 f=f 0+f 1+f 2:=by simp [sumN]
theorem sumN_le {n:Nat} {f:Nat → Int} {b:Nat} (h:∀ i,i < n → (f i).natAbs≤b):(sumN n f).natAbs≤n*b:=by
 induction n with
 | zero=>simp [sumN]
 | succ n ih =>
  have h1:=ih (fun i hi=>h i (by omega))
  have h2:=h n (by omega)
  rw [sumN,Nat.succ_mul]
  omega
end Go.Proofs.YtlbkekabmpienaaGreat
namespace Go.Proofs.YtlbkekabmpienaaGreat
set_option linter.unusedVariables false
set_option linter.unusedSimpArgs false
/-- A tensor's number less what stands for 0; 0 around it. -/
def px (H V C:Nat) (l:List Int) (za:Int) (y x:Int) (c:Nat):Int:=if 0≤y∧y < H∧0≤x∧x < V then l.getD ((y.toNat*V+x.toNat)*C+c) 0 - za else 0
/-- The sum of a window, without the bias. -/
def convN (H V C:Nat) (l:List Int) (za:Int) (w:List Int) (K S P:Nat) (o y x:Nat):Int :=
 sumN (K*K*C) fun q=>w.getD (o*(K*K*C)+q) 0*px H V C l za ((y*S+q / C / K:Nat) - P) ((x*S+q / C % K:Nat) - P) (q % C)
theorem nest_div (i j K C c:Nat) (hj:j < K) (hc:c < C):((i*K+j)*C+c) / C / K=i∧((i*K+j)*C+c) / C % K=j∧((i*K+j)*C+c) % C=c:=by
 have h1:((i*K+j)*C+c) / C=i*K+j:=by
  rw [Nat.mul_comm,Nat.mul_add_div (by omega),Nat.div_eq_of_lt hc,Nat.add_zero]
 have h2:((i*K+j)*C+c) % C=c:=by
  rw [Nat.mul_comm,Nat.mul_add_mod,Nat.mod_eq_of_lt hc]
 rw [h1,h2]
 refine ⟨?_,?_,rfl⟩
 ·rw [Nat.mul_comm,Nat.mul_add_div (by omega),Nat.div_eq_of_lt hj,Nat.add_zero]
 ·rw [Nat.mul_comm,Nat.mul_add_mod,Nat.mod_eq_of_lt hj]
/-- Row by row, column by column, channel by channel. -/
theorem convN_nest (H V C:Nat) (l:List Int) (za:Int) (w:List Int) (K S P:Nat) (o y x:Nat) :
  convN H V C l za w K S P o y x=sumN K fun i=>sumN K fun j=>sumN C fun c=>w.getD (((o*K+i)*K+j)*C+c) 0*px H V C l za ((y*S+i:Nat) - P) ((x*S+j:Nat) - P) c:=by
 unfold convN
 rw [sumN_mul,sumN_mul]
 refine sumN_congr fun i hi=>sumN_congr fun j hj=>sumN_congr fun c hc=>?_
 obtain ⟨h1,h2,h3⟩:=nest_div i j K C c hj hc
 rw [h1,h2,h3]
 congr 2
 rw [show o*(K*K*C)+((i*K+j)*C+c)=((o*K+i)*K+j)*C+c from ?_]
 simp only [Nat.add_mul,Nat.mul_assoc,Nat.mul_add]
 ac_rfl
theorem winV_sum (xs:List (List Int)) (ws:List W3) (p:Nat):∀ k,winV xs ws p k=sumN k fun r=>(xs.getD r []).getD p 0*(ws.getD r (0,0,0)).1+(xs.getD r []).getD (p+1) 0*(ws.getD r (0,0,0)).2.1+(xs.getD r []).getD (p+2) 0*(ws.getD r (0,0,0)).2.2
 | 0=>rfl
 | k+1=>by rw [winV,sumN,winV_sum xs ws p k]
/-- A row of a channel, with what is around; the weights of a row and a channel. -/
def rowV (H V C:Nat) (l:List Int) (za:Int) (P:Nat) (y:Int) (c:Nat):List Int:=(List.range (V+2*P)).map fun j:Nat=>px H V C l za y ((j:Int) - (P:Int)) c
def tapV (w:List Int) (C:Nat) (o i c:Nat):W3:=(w.getD (((o*3+i)*3+0)*C+c) 0,w.getD (((o*3+i)*3+1)*C+c) 0,w.getD (((o*3+i)*3+2)*C+c) 0)
def rowsV (H V C:Nat) (l:List Int) (za:Int) (P y:Nat):List (List Int):=(List.range (3*C)).map fun r:Nat=>rowV H V C l za P ((y+r / C:Nat) - P) (r % C)
def tapsV (w:List Int) (C o:Nat):List W3:=(List.range (3*C)).map fun r:Nat=>tapV w C o (r / C) (r % C)
theorem rowV_at (H V C:Nat) (l:List Int) (za:Int) (P:Nat) (y:Int) (c j:Nat) (hj:j < V+2*P):(rowV H V C l za P y c).getD j 0=px H V C l za y ((j:Int) - P) c:=by
 unfold rowV
 rw [List.getD_eq_getElem?_getD,List.getElem?_map,List.getElem?_range hj];rfl
theorem getD_range {α:Type} (n:Nat) (f:Nat → α) (z:α) (i:Nat) (h:i < n):((List.range n).map f).getD i z=f i:=by
 rw [List.getD_eq_getElem?_getD,List.getElem?_map,List.getElem?_range h];rfl
theorem lane_conv (H V C:Nat) (l:List Int) (za:Int) (w:List Int) (P o y x:Nat) (hx:x+2 < V+2*P) :
  winV (rowsV H V C l za P y) (tapsV w C o) x (3*C)=convN H V C l za w 3 1 P o y x:=by
 rw [winV_sum,convN_nest,sumN_mul]
 refine sumN_congr fun i hi=>?_
 rw [sumN_swap,]
 refine sumN_congr fun c hc=>?_
 have hr:i*C+c < 3*C:=by
  have:i*C≤2*C:=Nat.mul_le_mul_right C (by omega)
  omega
 have h1:(i*C+c) / C=i:=by rw [Nat.mul_comm,Nat.mul_add_div (by omega),Nat.div_eq_of_lt hc,Nat.add_zero]
 have h2:(i*C+c) % C=c:=by rw [Nat.mul_comm,Nat.mul_add_mod,Nat.mod_eq_of_lt hc]
 unfold rowsV tapsV
 rw [getD_range _ _ _ _ hr,getD_range _ _ _ _ hr,h1,h2,rowV_at _ _ _ _ _ _ _ _ _ (by omega),rowV_at _ _ _ _ _ _ _ _ _ (by omega),rowV_at _ _ _ _ _ _ _ _ _ (by omega),sumN_three]
 simp only [tapV,Nat.mul_one,Nat.add_zero]
 rw [Int.mul_comm (px _ _ _ _ _ _ ((x:Nat) - (P:Int)) _),Int.mul_comm (px _ _ _ _ _ _ ((((x+1:Nat)):Int) - (P:Int)) _),Int.mul_comm (px _ _ _ _ _ _ ((((x+2:Nat)):Int) - (P:Int)) _)]
end Go.Proofs.YtlbkekabmpienaaGreat
namespace Go.Proofs.YtlbkekabmpienaaGreat
open Go.RowKit
set_option linter.unusedVariables false
set_option linter.unusedSimpArgs false
/-- A tensor that is right, in whole numbers. -/
structure TOk (t:Tensor) (n H V C:Nat):Prop where
 h:t.h=H
 v:t.v=V
 c:t.c=C
 h1:1≤H∧H≤16
 v1:1≤V∧V≤16
 c1:1≤C∧C≤1024
 n_eq:n=H*V*C
 n_le:n≤1024
theorem elems_nat {h v c:Int} (e:¬ elems h v c=0):∃ H V C:Nat,h=H∧v=V∧c=C∧(1≤H∧H≤16)∧(1≤V∧V≤16)∧(1≤C∧C≤1024)∧elems h v c=(H*V*C:Nat)∧H*V*C≤1024:=by
 rw [elems_iff] at e ⊢
 split at e
 ·rename_i q
  obtain ⟨a1,a2,a3,a4,a5,a6,a7⟩:=q
  have e1:h=(h.toNat:Int):=by omega
  have e2:v=(v.toNat:Int):=by omega
  have e3:c=(c.toNat:Int):=by omega
  have e4:h*v*c=((h.toNat*v.toNat*c.toNat:Nat):Int):=by rw [Int.natCast_mul,Int.natCast_mul,← e1,← e2,← e3]
  refine ⟨h.toNat,v.toNat,c.toNat,e1,e2,e3,by omega,by omega,by omega,?_,?_⟩
  ·rw [if_pos ⟨a1,a2,a3,a4,a5,a6,a7⟩];exact e4
  ·have:=a7;rw [e4] at this;omega
 ·exact absurd rfl e
theorem tok_of {t:Tensor} (h:t.ok=true):∃ H V C,TOk t t.data.length H V C:=by
 simp only [Tensor.ok,decide_eq_true_eq] at h
 obtain ⟨H,V,C,e1,e2,e3,b1,b2,b3,e4,e5⟩:=elems_nat (h:=t.h) (v:=t.v) (c:=t.c) (by omega)
 exact ⟨H,V,C,e1,e2,e3,b1,b2,b3,by omega,by omega⟩
/-- What a window's places say. -/
structure WOk (d:Node) (H V C K S P Ho Wo Co:Nat):Prop where
 k:d.k=K
 s:d.s=S
 p:d.p=P
 k1:1≤K∧K≤5
 s1:1≤S∧S≤4
 p1:P≤4∧P < K
 ho:Ho=(H+2*P - K) / S+1
 wo:Wo=(V+2*P - K) / S+1
 hk:K≤H+2*P
 vk:K≤V+2*P
 ho1:1≤Ho∧Ho≤16
 wo1:1≤Wo∧Wo≤16
 co1:1≤Co∧Co≤1024
 no:Ho*Wo*Co≤1024
theorem stepsV_nat {n:Nat} {k s p:Int} {x:Int} (h:stepsV n k s p=(x,0)):∃ K S P:Nat,k=K∧s=S∧p=P∧(1≤K∧K≤5)∧(1≤S∧S≤4)∧(P≤4∧P < K)∧K≤n+2*P∧x=((n+2*P - K) / S+1:Nat):=by
 unfold stepsV at h
 split at h
 ·rename_i q
  unfold stepOk at q
  split at h
  ·cases (Prod.mk.inj h).2
  ·have e:=(Prod.mk.inj h).1
   obtain ⟨q1,q2,q3,q4,q5,q6,q7,q8,q9⟩:=q
   refine ⟨k.toNat,s.toNat,p.toNat,by omega,by omega,by omega,by omega,by omega,by omega,by omega,?_⟩
   rw [← e]
   have a:(n:Int)+2*p - k=((n+2*p.toNat - k.toNat:Nat):Int):=by omega
   have b:s=(s.toNat:Int):=by omega
   rw [a,b,Int.tdiv_eq_ediv_of_nonneg (by omega)]
   simp
 ·cases (Prod.mk.inj h).2
theorem slide_nat {H V C:Nat} {d:Node} {o x1 x2 x3:Int} (h:slideV H V C d.k d.s d.p o=((x1,x2,x3),0)):∃ K S P Ho Wo Co:Nat,WOk d H V C K S P Ho Wo Co∧x1=Ho∧x2=Wo∧x3=Co∧o=Co∧elems x1 x2 x3=(Ho*Wo*Co:Nat):=by
 unfold slideV at h
 by_cases c1:elems H V C=0
 ·rw [if_pos c1] at h;cases (Prod.mk.inj h).2
 rw [if_neg c1] at h
 by_cases c2:(stepsV H d.k d.s d.p).2 ≠ 0
 ·rw [if_pos c2] at h;exact absurd (Prod.mk.inj h).2 c2
 rw [if_neg c2] at h
 by_cases c3:(stepsV V d.k d.s d.p).2 ≠ 0
 ·rw [if_pos c3] at h;exact absurd (Prod.mk.inj h).2 c3
 rw [if_neg c3] at h
 by_cases c4:elems (stepsV H d.k d.s d.p).1 (stepsV V d.k d.s d.p).1 o=0
 ·rw [if_pos c4] at h;cases (Prod.mk.inj h).2
 rw [if_neg c4] at h
 obtain ⟨y1,e1⟩:∃ y,stepsV H d.k d.s d.p=(y,0):=⟨(stepsV H d.k d.s d.p).1,by rw [← Decidable.not_not.1 c2]⟩
 obtain ⟨y2,e2⟩:∃ y,stepsV V d.k d.s d.p=(y,0):=⟨(stepsV V d.k d.s d.p).1,by rw [← Decidable.not_not.1 c3]⟩
 rw [e1,e2] at h c4
 obtain ⟨K,S,P,hk,hs,hp,k1,s1,p1,hk2,f1⟩:=stepsV_nat e1
 obtain ⟨K',S',P',hk',hs',hp',-,-,-,vk2,f2⟩:=stepsV_nat e2
 obtain rfl:K=K':=by omega
 obtain rfl:S=S':=by omega
 obtain rfl:P=P':=by omega
 obtain ⟨Ho,Wo,Co,g1,g2,g3,b1,b2,b3,g4,g5⟩:=elems_nat c4
 simp only at h g1 g2 g3 g4
 obtain ⟨h',-⟩:=Prod.mk.inj h
 obtain ⟨h1,h'⟩:=Prod.mk.inj h'
 obtain ⟨h2,h3⟩:=Prod.mk.inj h'
 subst h1 h2 h3
 exact ⟨K,S,P,Ho,Wo,Co,⟨hk,hs,hp,k1,s1,p1,by omega,by omega,hk2,vk2,b1,b2,b3,g5⟩,g1,g2,g3,g3,g4⟩
theorem fit_nat {x y:ShE} {want out:Int} {d:Node} (h:fitV x want out d=y) (h2:y.2=0):x=y∧(d.w.length:Int)=want∧d.w.length≤16384∧(d.bias.length:Int)=out:=by
 unfold fitV at h
 split at h
 ·rename_i q;subst h;exact absurd h2 q
 ·split at h
  ·subst h;cases h2
  ·rename_i q
   refine ⟨h,?_,?_,?_⟩
   ·exact Decidable.byContradiction fun e=>q (.inl e)
   ·exact Nat.not_lt.1 fun e=>q (.inr (.inl e))
   ·exact Decidable.byContradiction fun e=>q (.inr (.inr e))
/-- The sums of a convolution. -/
def convF (t:Tensor) (d:Node) (Wo Co:Nat) (i:Nat):Int:=wrap32 (d.bias.getD (i % Co) 0+convN t.h.toNat t.v.toNat t.c.toNat t.data d.za d.w d.k.toNat d.s.toNat d.p.toNat (i % Co) (i / Co / Wo) (i / Co % Wo))
def convOf (t:Tensor) (d:Node):Tensor × Int :=
 if t.ok=true then (if (convV t.h t.v t.c d).2=0 then (⟨(convV t.h t.v t.c d).1.1,(convV t.h t.v t.c d).1.2.1,(convV t.h t.v t.c d).1.2.2,
  (List.range (elems (convV t.h t.v t.c d).1.1 (convV t.h t.v t.c d).1.2.1 (convV t.h t.v t.c d).1.2.2).toNat).map (convF t d (convV t.h t.v t.c d).1.2.1.toNat (convV t.h t.v t.c d).1.2.2.toNat)⟩,0) else (noTensor,(convV t.h t.v t.c d).2)) else (noTensor,5)
theorem conv_nat {t:Tensor} {d:Node} (h1:t.ok=true) (h2:(convV t.h t.v t.c d).2=0):∃ H V C K S P Ho Wo Co:Nat,TOk t t.data.length H V C∧WOk d H V C K S P Ho Wo Co∧convV t.h t.v t.c d=(((Ho:Int),(Wo:Int),(Co:Int)),0)∧d.w.length=Co*K*K*C∧d.bias.length=Co∧d.out=Co∧elems Ho Wo Co=(Ho*Wo*Co:Nat) ∧
  convOf t d=(⟨Ho,Wo,Co,(List.range (Ho*Wo*Co)).map (convF t d Wo Co)⟩,0):=by
 obtain ⟨H,V,C,T⟩:=tok_of h1
 obtain ⟨⟨⟨x1,x2,x3⟩,e⟩,hx⟩:∃ x,convV t.h t.v t.c d=x:=⟨_,rfl⟩
 have hx':=hx
 rw [hx] at h2
 obtain rfl:e=0:=h2
 unfold convV at hx'
 obtain ⟨a,b,-,c⟩:=fit_nat hx' rfl
 rw [T.h,T.v,T.c] at a
 obtain ⟨K,S,P,Ho,Wo,Co,hw,e1,e2,e3,e4,e5⟩:=slide_nat a
 subst e1 e2 e3
 refine ⟨H,V,C,K,S,P,Ho,Wo,Co,T,hw,hx,?_,by omega,e4,e5,?_⟩
 ·rw [e4,hw.k,T.c] at b
  exact_mod_cast b
 ·unfold convOf
  rw [if_pos h1,hx,if_pos rfl]
  simp only [e5,Int.toNat_natCast]
/-- The places that are filled, by rows, channels, columns. -/
def doneL (Wo Co h o w j:Nat):Bool:=decide (j / Co / Wo < h ∨ (j / Co / Wo=h∧(j % Co < o ∨ (j % Co=o∧j / Co % Wo < w))))
theorem place_iff (Wo Co h w o j:Nat) (hw:w < Wo) (ho:o < Co):j=(h*Wo+w)*Co+o ↔ j / Co / Wo=h∧j / Co % Wo=w∧j % Co=o:=by
 constructor
 ·rintro rfl
  obtain ⟨h1,h2,h3⟩:=nest_div h w Wo Co o hw ho
  exact ⟨h1,h2,h3⟩
 ·rintro ⟨e1,e2,e3⟩
  have h1:=Nat.div_add_mod j Co
  have h2:=Nat.div_add_mod (j / Co) Wo
  rw [e1,e2,Nat.mul_comm] at h2
  rw [← h2,e3,Nat.mul_comm] at h1
  omega
theorem doneL_step (Wo Co h o w j:Nat) (hw:w < Wo) (ho:o < Co):(doneL Wo Co h o w j || j == (h*Wo+w)*Co+o)=doneL Wo Co h o (w+1) j:=by
 rw [Bool.eq_iff_iff]
 simp only [doneL,Bool.or_eq_true,decide_eq_true_eq,beq_iff_eq,place_iff Wo Co h w o j hw ho]
 omega
theorem doneL_row (Wo Co h o j:Nat) (hw:0 < Wo):doneL Wo Co h o Wo j=doneL Wo Co h (o+1) 0 j:=by
 have:=Nat.mod_lt (j / Co) hw
 rw [Bool.eq_iff_iff]
 simp only [doneL,decide_eq_true_eq]
 omega
theorem doneL_col (Wo Co h j:Nat) (hc:0 < Co):doneL Wo Co h Co 0 j=doneL Wo Co (h+1) 0 0 j:=by
 have:=Nat.mod_lt j hc
 rw [Bool.eq_iff_iff]
 simp only [doneL,decide_eq_true_eq]
 omega
theorem doneL_none (Wo Co j:Nat):doneL Wo Co 0 0 0 j=false:=by
 simp only [doneL,decide_eq_false_iff_not]
 rintro (h|⟨-,h|⟨-,h⟩⟩) <;> exact Nat.not_lt_zero _ h
theorem doneL_all (Ho Wo Co j:Nat) (hj:j < Ho*Wo*Co):doneL Wo Co Ho 0 0 j=true:=by
 simp only [doneL,decide_eq_true_eq]
 left
 have:j / Co < Ho*Wo:=Nat.div_lt_of_lt_mul (by rw [Nat.mul_comm];exact hj)
 exact Nat.div_lt_of_lt_mul (by rw [Nat.mul_comm];exact this)
end Go.Proofs.YtlbkekabmpienaaGreat
set_option linter.unusedVariables false
set_option linter.unusedSimpArgs false
namespace Go.Proofs.YtlbkekabmpienaaGreat
open Go.RowKit Go.ChangeShapes Go.WideShapes
theorem Blk.grown0 {w w':World} {g:Nat} {e:TypeId} {cs:Array Value} (h:Blk w g e cs) (gm:w.grownBy w' none):Blk w' g e cs:=⟨(gm.block g h.lt (by simp)).trans h.heap⟩
theorem Blk.rowR {w w':World} {g:Nat} {e:TypeId} {cs:Array Value} {r:Option Nat} (h:Blk w g e cs) (hg:w.grownBy w' r) (hne:some g ≠ r):Blk w' g e cs:=⟨by rw [hg.block g h.lt hne];exact h.heap⟩
theorem World.size_drew (w:World):w.drew.heap.size=w.heap.size:=rfl
section
variable {P:Program} {o:Oper} {a:Act} {Q:Go.Exit → Act → World → Prop} {T E:TypeId} {bytes base n:Nat} {k:IntKind}
theorem oper_make {K:Act → World → Prop} {W:World} (lo co:Operand) (ho:o.op=Op.makeSlice T lo co) (ei:EI P T E (.int k 0) 1 bytes) (kl kc:IntKind) (hl:a.eval lo=.int kl (n:Int)) (hc:a.eval co=.int kc (n:Int))
  (b2:bytes*n≤281474976710656) (b3:n≤maxLen) (b4:base≤W.heap.size) (h0:InK k 0)
  (h:∀ w',Own (tInt k) w' (fun _=>False) base E (.slice (some ⟨W.heap.size,0,none⟩) n n) n (List.replicate n 0) → W.grownBy w' none → K (a.put o.dst (.slice (some ⟨W.heap.size,0,none⟩) n n)) w') :
  Oper.wp P o a W K Q:=by
 obtain ⟨i,hi,hz0,hz1,hz2⟩:=info_parts ei.hi
 obtain ⟨w',hrun,h1,hg⟩:=run_make_full (P:=P) W base T E i (.int k 0) 1 ei.ht hi hz0 hz1 kl kc n (by rw [hz2];exact b2) b3 b4
 unfold Oper.wp execOp
 simp only [ho,hl,hc,Sem.run_bind,hrun,Sem.run_pure,Result.andThen_ok]
 refine h w' ⟨_,h1,?_⟩ hg
 have e:(madeCells (Value.cells (.int k 0)) (n*1)).toList=(List.replicate n (0:Int)).map (Value.int k):=by
  simp [madeCells,Value.cells]
  apply List.ext_getElem (by simp)
  intro j h1 h2
  simp [Nat.mod_one]
 rw [e]
 exact RowsOf.ints (fun x hx=>by rw [List.eq_of_mem_replicate hx];exact h0)
end
/-- A list that is filled at the places that p tells. -/
def stF (f:Nat → Int) (p:Nat → Bool) (n:Nat):List Int:=(List.range n).map fun j=>if p j=true then f j else 0
theorem stF_ext {f:Nat → Int} {p q:Nat → Bool} {n:Nat} (h:∀ j,j < n → p j=q j):stF f p n=stF f q n:=by
 unfold stF
 apply List.map_congr_left
 intro j hj
 rw [h j (List.mem_range.1 hj)]
theorem stF_none (f:Nat → Int) (p:Nat → Bool) (n:Nat) (h:∀ j,j < n → p j=false):stF f p n=List.replicate n 0:=by
 unfold stF
 apply List.ext_getElem (by simp)
 intro i h1 h2
 simp at h1
 simp [h i h1]
theorem stF_all (f:Nat → Int) (p:Nat → Bool) (n:Nat) (h:∀ j,j < n → p j=true):stF f p n=(List.range n).map f:=by
 unfold stF
 apply List.map_congr_left
 intro j hj
 rw [if_pos (h j (List.mem_range.1 hj))]
theorem stF_set (f:Nat → Int) (p:Nat → Bool) (n i:Nat):(stF f p n).set i (f i)=stF f (fun j=>p j || j == i) n:=by
 unfold stF
 apply List.ext_getElem (by simp)
 intro j h1 h2
 rw [List.getElem_set]
 simp only [List.getElem_map,List.getElem_range]
 by_cases e:i=j
 ·subst e;simp
 ·rw [if_neg e]
  have:(j == i)=false:=by simp;omega
  rw [this,Bool.or_false]
end Go.Proofs.YtlbkekabmpienaaGreat
namespace Go.Proofs.YtlbkekabmpienaaGreat
set_option linter.unusedVariables false
set_option linter.unusedSimpArgs false
open Go.RowKit Go.ChangeShapes Go.WideShapes
set_option maxRecDepth 100000
theorem Own.lit0 {W:World} {k:IntKind} {E:TypeId} {base:Nat} (hb:base≤W.heap.size):Own (tInt k) (W.alloc (.cells #[] E)) (fun _=>False) base E (.slice (some ⟨W.heap.size,0,none⟩) 0 0) 0 [] :=
 ⟨[],⟨rfl,.inr ⟨_,0,#[],rfl,hb,heap_alloc_new _ _,Nat.le_refl _,by decide,rfl,rfl⟩⟩,rfl⟩
end Go.Proofs.YtlbkekabmpienaaGreat
