/-
  shape and tensor (layers 4, 5): the number of elements of a shape, and whether a tensor is right; the program's and the document's.
  How often a window lies within (layer 4): shape.in, Steps, the document's Steps.
  The document's Steps, counted (layer 4).
-/
import Derived.Test.YtlbkekabmpienaaGreatJ02
import Derived.Test.YtlbkekabmpienaaGreatJ01
import Derived.Test.YtlbkekabmpienaaGreatJ03
import Derived.Test.YtlbkekabmpienaaGreatJ00
import Derived.Test.YtlbkekabmpienaaGreatChecked
set_option linter.unusedVariables false
set_option linter.unusedSimpArgs false
namespace Go.Proofs.YtlbkekabmpienaaGreat
open Go.RowKit Go.ChangeShapes Go.WideShapes
set_option maxRecDepth 100000
def pre (l:List Int):Nat → Int
 | 0=>1
 | k+1=>pre l k*l.getD k 0
def preOk (l:List Int) (k:Nat):Prop:=∀ j,j < k → 1≤l.getD j 0∧pre l (j+1)≤1024
def prod3 (l:List Int):Int:=if 1≤l.getD 0 0∧pre l 1≤1024∧1≤l.getD 1 0∧pre l 2≤1024∧1≤l.getD 2 0∧pre l 3≤1024 then pre l 3 else 0
theorem prod3_good (l:List Int) (h:preOk l 3):prod3 l=pre l 3:=by
 have h0:=h 0 (by omega)
 have h1:=h 1 (by omega)
 have h2:=h 2 (by omega)
 unfold prod3;rw [if_pos ⟨h0.1,h0.2,h1.1,h1.2,h2.1,h2.2⟩]
theorem prod3_bad (l:List Int) (k:Nat) (hk:k < 3) (h:¬ (1≤l.getD k 0∧pre l (k+1)≤1024)):prod3 l=0:=by
 unfold prod3;rw [if_neg]
 rintro ⟨a,b,c,d,e,f⟩
 apply h
 match k,hk with
 | 0,_=>exact ⟨a,b⟩
 | 1,_=>exact ⟨c,d⟩
 | 2,_=>exact ⟨e,f⟩
theorem pre_pos (l:List Int) (k:Nat) (h:preOk l k):1≤pre l k∧pre l k≤1024:=by
 induction k with
 | zero=>exact ⟨by simp [pre],by simp [pre]⟩
 | succ k ih =>
  have h1:=ih (fun j hj=>h j (by omega))
  have h2:=h k (by omega)
  refine ⟨?_,h2.2⟩
  have:0 < pre l k*l.getD k 0:=Int.mul_pos (by omega) (by omega)
  rw [pre];omega
/-- The number of elements of a shape, 0 for one that may not be. -/
def elems (h w c:Int):Int:=if 16 < h ∨ 16 < w then 0 else prod3 [h,w,c]
theorem elems_iff (h w c:Int):elems h w c=if 1≤h∧h≤16∧1≤w∧w≤16∧1≤c∧c≤1024∧h*w*c≤1024 then h*w*c else 0:=by
 unfold elems
 by_cases h1:16 < h ∨ 16 < w
 ·rw [if_pos h1,if_neg (by omega)]
 ·rw [if_neg h1]
  unfold prod3
  simp only [pre,List.getD_cons_zero,List.getD_cons_succ,Int.one_mul]
  by_cases h2:1≤h∧h≤1024∧1≤w∧h*w≤1024∧1≤c∧h*w*c≤1024
  ·obtain ⟨a,b,d,e,f,g⟩:=h2
   have hm:1*c≤(h*w)*c:=Int.mul_le_mul_of_nonneg_right (by have:=Int.mul_pos (show 0 < h by omega) (show 0 < w by omega);omega) (by omega)
   rw [if_pos ⟨a,b,d,e,f,g⟩,if_pos (by omega)]
  ·rw [if_neg h2,if_neg]
   rintro ⟨a,b,d,e,f,g,i⟩
   apply h2
   have hm:h*w≤16*16:=Int.mul_le_mul b e (by omega) (by omega)
   omega
theorem elems_range (h w c:Int):0≤elems h w c∧elems h w c≤1024:=by
 rw [elems_iff]
 split
 ·rename_i h1
  have:=Int.mul_pos (Int.mul_pos (show 0 < h by omega) (show 0 < w by omega)) (show 0 < c by omega)
  omega
 ·omega
theorem product_any (l:List Int) (hl:l.length=3) (w:World) (h0:InK .i64 (l.getD 0 0)) (h1:InK .i64 (l.getD 1 0)) (h2:InK .i64 (l.getD 2 0)) :
  Calls Tryz.prog 92 #[.agg #[.int .i64 (l.getD 0 0),.int .i64 (l.getD 1 0),.int .i64 (l.getD 2 0)]] w fun e w'=>e=.returned (.int .i64 (prod3 l))∧Below w.heap.size w w':=by
 match l,hl with
 | [x,y,z],_ =>
 simp only [List.getD_cons_zero,List.getD_cons_succ] at h0 h1 h2 ⊢
 have hcell:∀ k,k < 3 → (w.alloc (.cells #[.int .i64 x,.int .i64 y,.int .i64 z] 121)).cell? ⟨w.heap.size,k,none⟩=some (.int .i64 ([x,y,z].getD k 0))∧InK .i64 ([x,y,z].getD k 0):=by
  intro k hk
  match k,hk with
  | 0,_=>exact ⟨by simp [go_sem],h0⟩
  | 1,_=>exact ⟨by simp [go_sem],h1⟩
  | 2,_=>exact ⟨by simp [go_sem],h2⟩
 have HC:=zH hcell
 clear hcell h0 h1 h2
 go_enter Tryz.func92,Tryz.ntmps92
 go_wp2_with fail
 go_loop [3,7] (fun n i=>∃ k:Nat,k≤3∧i=.int .i64 k∧n=.int .i64 (pre [x,y,z] k)∧preOk [x,y,z] k) (fun _ i=>3 - (intOf i).toNat)
 case atStart=>exact ⟨0,Nat.zero_le _,rfl,rfl,fun j hj=>by omega⟩
 case round =>
  obtain ⟨k,hk,rfl,rfl,hok⟩:=hrel
  have hp:=pre_pos _ k hok
  by_cases hlt:k < 3
  ·obtain ⟨c,ic⟩:=HC.out k hlt
   have hb:=prod3_bad [x,y,z] k hlt
   have hpre:pre [x,y,z] (k+1)=pre [x,y,z] k*[x,y,z].getD k 0:=rfl
   have hok':1≤[x,y,z].getD k 0 → pre [x,y,z] (k+1)≤1024 → preOk [x,y,z] (k+1):=by
    intro a b j hj
    by_cases hjk:j < k
    ·exact hok j hjk
    ·obtain rfl:j=k:=by omega
     exact ⟨a,b⟩
   generalize hq:pre [x,y,z] k=q at *
   generalize [x,y,z].getD k 0=v at *
   rw [hpre] at hb hok'
   have HB:=zH hb
   have HO:=zH hok'
   have HP:=zH hpre
   have IC:=zH ic
   clear hb hok' hpre ic hok hq
   have iv:=inK_i64.1 IC.out
   go_wp2_with fail
   refine (satTimes_any q v _ (by rw [inK_i64];omega) IC.out).mono ?_
   rintro e w' ⟨rfl,rfl⟩
   unfold satEnd
   by_cases hin:InK .i64 (q*v)
   ·rw [if_pos hin]
    have hin':=inK_i64.1 hin
    have HIN:=zH hin
    clear hin
    generalize hqv:q*v=p at *
    have HQ:=zH hqv
    clear hqv
    by_cases t1:v < 1
    ·go_wp2_with fail
     go_ret
     exact ⟨ret_int (HB.out (by omega)).symm,by go_grown⟩
    ·by_cases t2:1024 < p
     ·go_wp2_with fail
      go_ret
      exact ⟨ret_int (HB.out (by omega)).symm,by go_grown⟩
     ·go_wp2_with fail
      exact ⟨⟨k+1,by omega,by go_num,by rw [HP.out],HO.out (by omega) (by omega)⟩,by simp [intOf];omega⟩
   ·rw [if_neg hin]
    have hbad:¬ (1≤v∧q*v≤1024):=by
     rintro ⟨a,b⟩
     apply hin
     rw [inK_i64]
     have:=Int.mul_pos (show 0 < q by omega) (show 0 < v by omega)
     omega
    have HBAD:=zH hbad
    clear hin hbad
    go_wp2_with fail
    go_ret
    exact ⟨ret_int (HB.out HBAD.out).symm,by go_grown⟩
  ·obtain rfl:k=3:=by omega
   have e:=prod3_good _ hok
   have E:=zH e
   clear e
   go_wp2_with fail
   go_ret
   exact ⟨ret_int E.out.symm,by go_grown⟩
theorem elems_any (h c:Int) (v:Int) (w:World) (h0:InK .i64 h) (h1:InK .i64 v) (h2:InK .i64 c) :
  Calls Tryz.prog 51 #[.agg #[.int .i64 h,.int .i64 v,.int .i64 c]] w fun e w'=>e=.returned (.int .i64 (elems h v c))∧Below w.heap.size w w':=by
 have H0:=zH h0
 have H1:=zH h1
 have H2:=zH h2
 clear h0 h1 h2
 by_cases c1:16 < h
 ·go_enter Tryz.func51,Tryz.ntmps51
  go_wp2_with fail
  go_ret
  exact ⟨ret_int (by unfold elems;rw [if_pos (by omega)]),by go_grown⟩
 ·by_cases c2:16 < v
  ·go_enter Tryz.func51,Tryz.ntmps51
   go_wp2_with fail
   go_ret
   exact ⟨ret_int (by unfold elems;rw [if_pos (by omega)]),by go_grown⟩
  ·go_enter Tryz.func51,Tryz.ntmps51
   go_wp2_with fail
   refine (product_any [h,v,c] rfl _ H0.out H1.out H2.out).mono ?_
   rintro e w' ⟨rfl,hb⟩
   go_wp2_with fail
   go_ret
   exact ⟨ret_int (by unfold elems;rw [if_neg (by omega)]),((Below.refl _ _).alloc (Nat.le_refl _) _).trans (hb.mono (by simp))⟩
set_option maxHeartbeats 1600000 in
theorem relems_any (h c:Int) (v:Int) (w:World) (h0:InK .i64 h) (h1:InK .i64 v) (h2:InK .i64 c) :
  Calls Tryz.prog 45 #[.agg #[.int .i64 h,.int .i64 v,.int .i64 c]] w fun e w'=>e=.returned (.int .i64 (elems h v c))∧Below w.heap.size w w':=by
 rw [elems_iff]
 by_cases hg:1≤h∧h≤16∧1≤v∧v≤16∧1≤c∧c≤1024
 ·obtain ⟨a1,a2,a3,a4,a5,a6⟩:=hg
  have p1:0≤h*v∧h*v≤256:=⟨Int.mul_nonneg (by omega) (by omega),Int.mul_le_mul a2 a4 (by omega) (by omega)⟩
  have p2:0≤h*v*c∧h*v*c≤256*1024:=⟨Int.mul_nonneg (by omega) (by omega),Int.mul_le_mul p1.2 a6 (by omega) (by omega)⟩
  by_cases hs:h*v*c≤1024
  ·rw [if_pos ⟨a1,a2,a3,a4,a5,a6,hs⟩]
   go_enter Tryz.func45,Tryz.ntmps45
   go_wp2_with fail
   go_ret
   exact ⟨rfl,by go_grown⟩
  ·rw [if_neg (by omega)]
   go_enter Tryz.func45,Tryz.ntmps45
   go_wp2_with fail
   go_ret
   exact ⟨rfl,by go_grown⟩
 ·rw [if_neg (by omega)]
  by_cases a1:1≤h
  rotate_left
  ·go_enter Tryz.func45,Tryz.ntmps45
   go_wp2_with fail
   go_ret
   exact ⟨rfl,by go_grown⟩
  by_cases a2:h≤16
  rotate_left
  ·go_enter Tryz.func45,Tryz.ntmps45
   go_wp2_with fail
   go_ret
   exact ⟨rfl,by go_grown⟩
  by_cases a3:1≤v
  rotate_left
  ·go_enter Tryz.func45,Tryz.ntmps45
   go_wp2_with fail
   go_ret
   exact ⟨rfl,by go_grown⟩
  by_cases a4:v≤16
  rotate_left
  ·go_enter Tryz.func45,Tryz.ntmps45
   go_wp2_with fail
   go_ret
   exact ⟨rfl,by go_grown⟩
  by_cases a5:1≤c
  rotate_left
  ·go_enter Tryz.func45,Tryz.ntmps45
   go_wp2_with fail
   go_ret
   exact ⟨rfl,by go_grown⟩
  have a6:¬ c≤1024:=by omega
  clear hg
  go_enter Tryz.func45,Tryz.ntmps45
  go_wp2_with fail
  go_ret
  exact ⟨rfl,by go_grown⟩
theorem shapeRight_any (h c:Int) (v:Int) (w:World) (h0:InK .i64 h) (h1:InK .i64 v) (h2:InK .i64 c) :
  Calls Tryz.prog 102 #[.agg #[.int .i64 h,.int .i64 v,.int .i64 c]] w fun e w'=>e=.returned (.bool (decide (0 < elems h v c)))∧Below w.heap.size w w':=by
 have H0:=zH h0
 have H1:=zH h1
 have H2:=zH h2
 clear h0 h1 h2
 go_enter Tryz.func102,Tryz.ntmps102
 go_wp2_with fail
 refine (elems_any h c v _ H0.out H1.out H2.out).mono ?_
 rintro e w' ⟨rfl,hb⟩
 go_wp2_with fail
 go_ret
 exact ⟨rfl,((Below.refl _ _).alloc (Nat.le_refl _) _).trans (hb.mono (by simp))⟩
/-! ### Tensors -/
end Go.Proofs.YtlbkekabmpienaaGreat
namespace Go.Proofs.YtlbkekabmpienaaGreat
set_option linter.unusedVariables false
set_option linter.unusedSimpArgs false
open Go.RowKit Go.ChangeShapes Go.WideShapes
set_option maxRecDepth 100000
def inB (v lo hi:Int):Bool:=decide (lo≤v∧v≤hi)
theorem inB_t {v lo hi:Int} (h:lo≤v∧v≤hi):inB v lo hi=true:=decide_eq_true h
theorem inB_f {v lo hi:Int} (h:¬ (lo≤v∧v≤hi)):inB v lo hi=false:=decide_eq_false h
theorem in_any (v lo hi:Int) (w:World):Calls Tryz.prog 146 #[.int .i64 v,.int .i64 lo,.int .i64 hi] w fun e w'=>e=.returned (.bool (inB v lo hi))∧w=w':=by
 obtain ⟨r,hr⟩:∃ r,inB v lo hi=r:=⟨_,rfl⟩
 rw [hr]
 by_cases h1:lo≤v
 ·have t1:decide (lo≤v)=true:=decide_eq_true h1
  by_cases h2:v≤hi
  ·have t2:decide (v≤hi)=true:=decide_eq_true h2
   have R:=zH (show true=r by rw [← hr,inB_t ⟨h1,h2⟩])
   clear h1 h2 hr
   go_enter Tryz.func146,Tryz.ntmps146
   go_wp2_with fail
   go_ret
   exact ⟨ret_bool R.out,rfl⟩
  ·have t2:decide (v≤hi)=false:=decide_eq_false h2
   have R:=zH (show false=r by rw [← hr,inB_f (fun e=>h2 e.2)])
   clear h1 h2 hr
   go_enter Tryz.func146,Tryz.ntmps146
   go_wp2_with fail
   go_ret
   exact ⟨ret_bool R.out,rfl⟩
 ·have t1:decide (lo≤v)=false:=decide_eq_false h1
  have R:=zH (show false=r by rw [← hr,inB_f (fun e=>h1 e.1)])
  clear h1 hr
  go_enter Tryz.func146,Tryz.ntmps146
  go_wp2_with fail
  go_ret
  exact ⟨ret_bool R.out,rfl⟩
/-- How often a window lies within, and the error. -/
def stepOk (n k s p:Int):Prop:=1≤n∧n≤1024∧1≤k∧k≤5∧1≤s∧s≤4∧0≤p∧p≤4∧p < k
instance (n k s p:Int):Decidable (stepOk n k s p):=inferInstanceAs (Decidable (_∧_))
def stepsV (n k s p:Int):Int × Int:=if stepOk n k s p then (if n+2*p < k then (0,5) else ((n+2*p - k).tdiv s+1,0)) else (0,2)
theorem stepsV_bad {n k s p:Int} (h:¬ stepOk n k s p):stepsV n k s p=(0,2):=if_neg h
theorem stepsV_no {n k s p:Int} (h:stepOk n k s p) (h2:n+2*p < k):stepsV n k s p=(0,5):=by unfold stepsV;rw [if_pos h,if_pos h2]
theorem stepsV_yes {n k s p:Int} (h:stepOk n k s p) (h2:¬ n+2*p < k):stepsV n k s p=((n+2*p - k).tdiv s+1,0):=by unfold stepsV;rw [if_pos h,if_neg h2]
set_option maxHeartbeats 2000000 in
theorem steps_any (n k s p:Int) (w:World):Calls Tryz.prog 127 #[.int .i64 n,.int .i64 k,.int .i64 s,.int .i64 p] w fun e w'=>e=.returned (.tuple #[.int .i64 (stepsV n k s p).1,.int .i64 (stepsV n k s p).2])∧w=w':=by
 by_cases c:stepOk n k s p
 ·have t1:=inB_t (v:=n) (lo:=1) (hi:=1024) ⟨c.1,c.2.1⟩
  have t2:=inB_t (v:=k) (lo:=1) (hi:=5) ⟨c.2.2.1,c.2.2.2.1⟩
  have t3:=inB_t (v:=s) (lo:=1) (hi:=4) ⟨c.2.2.2.2.1,c.2.2.2.2.2.1⟩
  have t4:=inB_t (v:=p) (lo:=0) (hi:=4) ⟨c.2.2.2.2.2.2.1,c.2.2.2.2.2.2.2.1⟩
  have C:=c
  unfold stepOk at c
  have t5:decide (k≤p)=false:=by simp;omega
  have e1:IntKind.i64.wrap (2*p)=2*p:=IntWalk.i64_in _ (by omega)
  have e2:IntKind.i64.wrap (n+2*p)=n+2*p:=IntWalk.i64_in _ (by omega)
  by_cases h:n+2*p < k
  ·have t6:decide (n+2*p < k)=true:=decide_eq_true h
   have R:=zH (stepsV_no C h)
   clear c C h
   go_enter Tryz.func127,Tryz.ntmps127
   go_wp2_with (go_at_call 146;refine (in_any _ _ _ _).mono ?_;rintro e w' ⟨rfl,rfl⟩)
   go_ret2
   exact ⟨by rw [R.out];rfl,rfl⟩
  ·have t6:decide (n+2*p < k)=false:=decide_eq_false h
   have R:=zH (stepsV_yes C h)
   have e3:IntKind.i64.wrap (n+2*p - k)=n+2*p - k:=IntWalk.i64_in _ (by omega)
   have d0:0≤(n+2*p - k).tdiv s∧(n+2*p - k).tdiv s≤2000:=by
    rw [Int.tdiv_eq_ediv_of_nonneg (by omega)]
    refine ⟨Int.ediv_nonneg (by omega) (by omega),?_⟩
    exact Int.le_trans (Int.ediv_le_self _ (by omega)) (by omega)
   have s0:(s == 0)=false:=by simp;omega
   have hs0:s ≠ 0:=by omega
   have S0:=zH hs0
   generalize hd:(n+2*p - k).tdiv s=d at *
   have e4:IntKind.i64.wrap d=d:=IntWalk.i64_in _ (by omega)
   have e5:IntKind.i64.wrap (d+1)=d+1:=IntWalk.i64_in _ (by omega)
   clear c C h d0 hs0
   go_enter Tryz.func127,Tryz.ntmps127
   go_wp2_with (go_at_call 146;refine (in_any _ _ _ _).mono ?_;rintro e w' ⟨rfl,rfl⟩)
   go_ret2
   exact ⟨by rw [R.out];rfl,rfl⟩
 ·have R:=zH (stepsV_bad c)
  by_cases h1:1≤n∧n≤1024
  rotate_left
  ·have t1:=inB_f h1
   clear c h1
   go_enter Tryz.func127,Tryz.ntmps127
   go_wp2_with (go_at_call 146;refine (in_any _ _ _ _).mono ?_;rintro e w' ⟨rfl,rfl⟩)
   go_ret2
   exact ⟨by rw [R.out];rfl,rfl⟩
  have t1:=inB_t h1
  by_cases h2:1≤k∧k≤5
  rotate_left
  ·have t2:=inB_f h2
   clear c h1 h2
   go_enter Tryz.func127,Tryz.ntmps127
   go_wp2_with (go_at_call 146;refine (in_any _ _ _ _).mono ?_;rintro e w' ⟨rfl,rfl⟩)
   go_ret2
   exact ⟨by rw [R.out];rfl,rfl⟩
  have t2:=inB_t h2
  by_cases h3:1≤s∧s≤4
  rotate_left
  ·have t3:=inB_f h3
   clear c h1 h2 h3
   go_enter Tryz.func127,Tryz.ntmps127
   go_wp2_with (go_at_call 146;refine (in_any _ _ _ _).mono ?_;rintro e w' ⟨rfl,rfl⟩)
   go_ret2
   exact ⟨by rw [R.out];rfl,rfl⟩
  have t3:=inB_t h3
  by_cases h4:0≤p∧p≤4
  rotate_left
  ·have t4:=inB_f h4
   clear c h1 h2 h3 h4
   go_enter Tryz.func127,Tryz.ntmps127
   go_wp2_with (go_at_call 146;refine (in_any _ _ _ _).mono ?_;rintro e w' ⟨rfl,rfl⟩)
   go_ret2
   exact ⟨by rw [R.out];rfl,rfl⟩
  have t4:=inB_t h4
  have t5:decide (k≤p)=true:=by simp;unfold stepOk at c;omega
  clear c h1 h2 h3 h4
  go_enter Tryz.func127,Tryz.ntmps127
  go_wp2_with (go_at_call 146;refine (in_any _ _ _ _).mono ?_;rintro e w' ⟨rfl,rfl⟩)
  go_ret2
  exact ⟨by rw [R.out];rfl,rfl⟩
end Go.Proofs.YtlbkekabmpienaaGreat
namespace Go.Proofs.YtlbkekabmpienaaGreat
set_option linter.unusedVariables false
set_option linter.unusedSimpArgs false
open Go.RowKit Go.ChangeShapes Go.WideShapes
set_option maxRecDepth 100000
set_option maxHeartbeats 4000000 in
theorem rsteps_any (n k s p:Int) (w:World):Calls Tryz.prog 87 #[.int .i64 n,.int .i64 k,.int .i64 s,.int .i64 p] w fun e w'=>e=.returned (.tuple #[.int .i64 (stepsV n k s p).1,.int .i64 (stepsV n k s p).2])∧w=w':=by
 by_cases c:stepOk n k s p
 rotate_left
 ·have R:=zH (stepsV_bad c)
  by_cases h0:n < 1
  ·have t0:decide (n < 1)=true:=decide_eq_true h0
   clear c h0
   go_enter Tryz.func87,Tryz.ntmps87
   go_wp2_with fail
   go_ret2
   exact ⟨by rw [R.out];rfl,rfl⟩
  have t0:decide (n < 1)=false:=decide_eq_false h0
  by_cases h1:1024 < n
  ·have t1:decide (1024 < n)=true:=decide_eq_true h1
   clear c h0 h1
   go_enter Tryz.func87,Tryz.ntmps87
   go_wp2_with fail
   go_ret2
   exact ⟨by rw [R.out];rfl,rfl⟩
  have t1:decide (1024 < n)=false:=decide_eq_false h1
  by_cases h2:k < 1
  ·have t2:decide (k < 1)=true:=decide_eq_true h2
   clear c h0 h1 h2
   go_enter Tryz.func87,Tryz.ntmps87
   go_wp2_with fail
   go_ret2
   exact ⟨by rw [R.out];rfl,rfl⟩
  have t2:decide (k < 1)=false:=decide_eq_false h2
  by_cases h3:5 < k
  ·have t3:decide (5 < k)=true:=decide_eq_true h3
   clear c h0 h1 h2 h3
   go_enter Tryz.func87,Tryz.ntmps87
   go_wp2_with fail
   go_ret2
   exact ⟨by rw [R.out];rfl,rfl⟩
  have t3:decide (5 < k)=false:=decide_eq_false h3
  by_cases h4:s < 1
  ·have t4:decide (s < 1)=true:=decide_eq_true h4
   clear c h0 h1 h2 h3 h4
   go_enter Tryz.func87,Tryz.ntmps87
   go_wp2_with fail
   go_ret2
   exact ⟨by rw [R.out];rfl,rfl⟩
  have t4:decide (s < 1)=false:=decide_eq_false h4
  by_cases h5:4 < s
  ·have t5:decide (4 < s)=true:=decide_eq_true h5
   clear c h0 h1 h2 h3 h4 h5
   go_enter Tryz.func87,Tryz.ntmps87
   go_wp2_with fail
   go_ret2
   exact ⟨by rw [R.out];rfl,rfl⟩
  have t5:decide (4 < s)=false:=decide_eq_false h5
  by_cases h6:p < 0
  ·have t6:decide (p < 0)=true:=decide_eq_true h6
   clear c h0 h1 h2 h3 h4 h5 h6
   go_enter Tryz.func87,Tryz.ntmps87
   go_wp2_with fail
   go_ret2
   exact ⟨by rw [R.out];rfl,rfl⟩
  have t6:decide (p < 0)=false:=decide_eq_false h6
  by_cases h7:4 < p
  ·have t7:decide (4 < p)=true:=decide_eq_true h7
   clear c h0 h1 h2 h3 h4 h5 h6 h7
   go_enter Tryz.func87,Tryz.ntmps87
   go_wp2_with fail
   go_ret2
   exact ⟨by rw [R.out];rfl,rfl⟩
  have t7:decide (4 < p)=false:=decide_eq_false h7
  have t8:decide (k≤p)=true:=by simp;unfold stepOk at c;omega
  clear c h0 h1 h2 h3 h4 h5 h6 h7
  go_enter Tryz.func87,Tryz.ntmps87
  go_wp2_with fail
  go_ret2
  exact ⟨by rw [R.out];rfl,rfl⟩
 have C:=zH c
 unfold stepOk at c
 have t0:decide (n < 1)=false:=by simp;omega
 have t1:decide (1024 < n)=false:=by simp;omega
 have t2:decide (k < 1)=false:=by simp;omega
 have t3:decide (5 < k)=false:=by simp;omega
 have t4:decide (s < 1)=false:=by simp;omega
 have t5:decide (4 < s)=false:=by simp;omega
 have t6:decide (p < 0)=false:=by simp;omega
 have t7:decide (4 < p)=false:=by simp;omega
 have t8:decide (k≤p)=false:=by simp;omega
 have e0:IntKind.i64.wrap (-p)=-p:=IntWalk.i64_in _ (by omega)
 have e1:IntKind.i64.wrap (n+p)=n+p:=IntWalk.i64_in _ (by omega)
 obtain ⟨c1,c2,c3,c4,c5,c6,c7,c8,c9⟩:=c
 have hs:s=1 ∨ s=2 ∨ s=3 ∨ s=4:=by omega
 rcases hs with rfl|rfl|rfl|rfl
 ·go_enter Tryz.func87,Tryz.ntmps87
  go_wp2_with fail
  go_loopw [10,11] (fun v u wr=>∃ (j:Nat) (a:Int),(j:Int)≤1100∧u=.int .i64 a∧v=.int .i64 j∧Hid (a=-p+1*j∧(1*((j:Int) - 1)≤n+2*p - k ∨ j=0))∧w=wr) (fun _ u _=>(2000 - intOf u).toNat)
  case atStart=>exact ⟨0,-p,by omega,rfl,rfl,zH ⟨by simp,.inr rfl⟩,rfl⟩
  case round =>
   obtain ⟨j,a,hj,rfl,rfl,HD,rfl⟩:=hrel
   obtain ⟨ha,hd⟩:=HD.out
   have e2:IntKind.i64.wrap (a+k)=a+k:=IntWalk.i64_in _ (by omega)
   have e3:IntKind.i64.wrap (a+1)=a+1:=IntWalk.i64_in _ (by omega)
   have e4:IntKind.i64.wrap ((j:Int)+1)=(j:Int)+1:=IntWalk.i64_in _ (by omega)
   by_cases g:a+k≤n+p
   ·have y1:decide (a+k≤n+p)=true:=decide_eq_true g
    have ND:=zH (show a+1=-p+1*((j+1:Nat):Int)∧(1*(((j+1:Nat):Int) - 1)≤n+2*p - k ∨ j+1=0) by omega)
    have b1:(j:Int)+1≤1100:=by omega
    have b2:a≤1100:=by omega
    clear hd ha
    go_wp2_with fail
    exact ⟨⟨j+1,a+1,by omega,rfl,by simp,ND,by trivial⟩,by simp [intOf];omega⟩
   ·have y1:decide (a+k≤n+p)=false:=decide_eq_false g
    by_cases j0:j=0
    ·subst j0
     have R:=zH (stepsV_no C.out (by omega))
     clear hd ha g
     go_wp2_with fail
     go_ret2
     exact ⟨by rw [R.out];rfl,rfl⟩
    ·have y2:((j:Int) == 0)=false:=by simp;exact j0
     have R:=zH (stepsV_yes C.out (by omega))
     have Q:=zH (show (n+2*p - k).tdiv 1+1=j by rw [Int.tdiv_eq_ediv_of_nonneg (by omega)];omega)
     clear hd j0 ha g
     go_wp2_with fail
     go_ret2
     exact ⟨by rw [R.out,Q.out];rfl,rfl⟩
 ·go_enter Tryz.func87,Tryz.ntmps87
  go_wp2_with fail
  go_loopw [10,11] (fun v u wr=>∃ (j:Nat) (a:Int),(j:Int)≤1100∧u=.int .i64 a∧v=.int .i64 j∧Hid (a=-p+2*j∧(2*((j:Int) - 1)≤n+2*p - k ∨ j=0))∧w=wr) (fun _ u _=>(2000 - intOf u).toNat)
  case atStart=>exact ⟨0,-p,by omega,rfl,rfl,zH ⟨by simp,.inr rfl⟩,rfl⟩
  case round =>
   obtain ⟨j,a,hj,rfl,rfl,HD,rfl⟩:=hrel
   obtain ⟨ha,hd⟩:=HD.out
   have e2:IntKind.i64.wrap (a+k)=a+k:=IntWalk.i64_in _ (by omega)
   have e3:IntKind.i64.wrap (a+2)=a+2:=IntWalk.i64_in _ (by omega)
   have e4:IntKind.i64.wrap ((j:Int)+1)=(j:Int)+1:=IntWalk.i64_in _ (by omega)
   by_cases g:a+k≤n+p
   ·have y1:decide (a+k≤n+p)=true:=decide_eq_true g
    have ND:=zH (show a+2=-p+2*((j+1:Nat):Int)∧(2*(((j+1:Nat):Int) - 1)≤n+2*p - k ∨ j+1=0) by omega)
    have b1:(j:Int)+1≤1100:=by omega
    have b2:a≤1100:=by omega
    clear hd ha
    go_wp2_with fail
    exact ⟨⟨j+1,a+2,by omega,rfl,by simp,ND,by trivial⟩,by simp [intOf];omega⟩
   ·have y1:decide (a+k≤n+p)=false:=decide_eq_false g
    by_cases j0:j=0
    ·subst j0
     have R:=zH (stepsV_no C.out (by omega))
     clear hd ha g
     go_wp2_with fail
     go_ret2
     exact ⟨by rw [R.out];rfl,rfl⟩
    ·have y2:((j:Int) == 0)=false:=by simp;exact j0
     have R:=zH (stepsV_yes C.out (by omega))
     have Q:=zH (show (n+2*p - k).tdiv 2+1=j by rw [Int.tdiv_eq_ediv_of_nonneg (by omega)];omega)
     clear hd j0 ha g
     go_wp2_with fail
     go_ret2
     exact ⟨by rw [R.out,Q.out];rfl,rfl⟩
 ·go_enter Tryz.func87,Tryz.ntmps87
  go_wp2_with fail
  go_loopw [10,11] (fun v u wr=>∃ (j:Nat) (a:Int),(j:Int)≤1100∧u=.int .i64 a∧v=.int .i64 j∧Hid (a=-p+3*j∧(3*((j:Int) - 1)≤n+2*p - k ∨ j=0))∧w=wr) (fun _ u _=>(2000 - intOf u).toNat)
  case atStart=>exact ⟨0,-p,by omega,rfl,rfl,zH ⟨by simp,.inr rfl⟩,rfl⟩
  case round =>
   obtain ⟨j,a,hj,rfl,rfl,HD,rfl⟩:=hrel
   obtain ⟨ha,hd⟩:=HD.out
   have e2:IntKind.i64.wrap (a+k)=a+k:=IntWalk.i64_in _ (by omega)
   have e3:IntKind.i64.wrap (a+3)=a+3:=IntWalk.i64_in _ (by omega)
   have e4:IntKind.i64.wrap ((j:Int)+1)=(j:Int)+1:=IntWalk.i64_in _ (by omega)
   by_cases g:a+k≤n+p
   ·have y1:decide (a+k≤n+p)=true:=decide_eq_true g
    have ND:=zH (show a+3=-p+3*((j+1:Nat):Int)∧(3*(((j+1:Nat):Int) - 1)≤n+2*p - k ∨ j+1=0) by omega)
    have b1:(j:Int)+1≤1100:=by omega
    have b2:a≤1100:=by omega
    clear hd ha
    go_wp2_with fail
    exact ⟨⟨j+1,a+3,by omega,rfl,by simp,ND,by trivial⟩,by simp [intOf];omega⟩
   ·have y1:decide (a+k≤n+p)=false:=decide_eq_false g
    by_cases j0:j=0
    ·subst j0
     have R:=zH (stepsV_no C.out (by omega))
     clear hd ha g
     go_wp2_with fail
     go_ret2
     exact ⟨by rw [R.out];rfl,rfl⟩
    ·have y2:((j:Int) == 0)=false:=by simp;exact j0
     have R:=zH (stepsV_yes C.out (by omega))
     have Q:=zH (show (n+2*p - k).tdiv 3+1=j by rw [Int.tdiv_eq_ediv_of_nonneg (by omega)];omega)
     clear hd j0 ha g
     go_wp2_with fail
     go_ret2
     exact ⟨by rw [R.out,Q.out];rfl,rfl⟩
 ·go_enter Tryz.func87,Tryz.ntmps87
  go_wp2_with fail
  go_loopw [10,11] (fun v u wr=>∃ (j:Nat) (a:Int),(j:Int)≤1100∧u=.int .i64 a∧v=.int .i64 j∧Hid (a=-p+4*j∧(4*((j:Int) - 1)≤n+2*p - k ∨ j=0))∧w=wr) (fun _ u _=>(2000 - intOf u).toNat)
  case atStart=>exact ⟨0,-p,by omega,rfl,rfl,zH ⟨by simp,.inr rfl⟩,rfl⟩
  case round =>
   obtain ⟨j,a,hj,rfl,rfl,HD,rfl⟩:=hrel
   obtain ⟨ha,hd⟩:=HD.out
   have e2:IntKind.i64.wrap (a+k)=a+k:=IntWalk.i64_in _ (by omega)
   have e3:IntKind.i64.wrap (a+4)=a+4:=IntWalk.i64_in _ (by omega)
   have e4:IntKind.i64.wrap ((j:Int)+1)=(j:Int)+1:=IntWalk.i64_in _ (by omega)
   by_cases g:a+k≤n+p
   ·have y1:decide (a+k≤n+p)=true:=decide_eq_true g
    have ND:=zH (show a+4=-p+4*((j+1:Nat):Int)∧(4*(((j+1:Nat):Int) - 1)≤n+2*p - k ∨ j+1=0) by omega)
    have b1:(j:Int)+1≤1100:=by omega
    have b2:a≤1100:=by omega
    clear hd ha
    go_wp2_with fail
    exact ⟨⟨j+1,a+4,by omega,rfl,by simp,ND,by trivial⟩,by simp [intOf];omega⟩
   ·have y1:decide (a+k≤n+p)=false:=decide_eq_false g
    by_cases j0:j=0
    ·subst j0
     have R:=zH (stepsV_no C.out (by omega))
     clear hd ha g
     go_wp2_with fail
     go_ret2
     exact ⟨by rw [R.out];rfl,rfl⟩
    ·have y2:((j:Int) == 0)=false:=by simp;exact j0
     have R:=zH (stepsV_yes C.out (by omega))
     have Q:=zH (show (n+2*p - k).tdiv 4+1=j by rw [Int.tdiv_eq_ediv_of_nonneg (by omega)];omega)
     clear hd j0 ha g
     go_wp2_with fail
     go_ret2
     exact ⟨by rw [R.out,Q.out];rfl,rfl⟩
end Go.Proofs.YtlbkekabmpienaaGreat
