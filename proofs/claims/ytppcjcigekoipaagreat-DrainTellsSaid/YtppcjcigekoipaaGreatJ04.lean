/-
  How often a window lies within (layer 4): shape.in, Steps, the document's Steps.
  The document's Steps, counted (layer 4).
-/
import Derived.Test.YtppcjcigekoipaaGreatJ03
set_option linter.unusedVariables false
set_option linter.unusedSimpArgs false
namespace Go.Proofs.YtppcjcigekoipaaGreat
open Go.RowKit Go.ChangeShapes Go.WideShapes
set_option maxRecDepth 100000
def inB (v lo hi:Int):Bool:=decide (lo≤v∧v≤hi)
theorem inB_t {v lo hi:Int} (h:lo≤v∧v≤hi):inB v lo hi=true:=decide_eq_true h
theorem inB_f {v lo hi:Int} (h:¬ (lo≤v∧v≤hi)):inB v lo hi=false:=decide_eq_false h
theorem in_any (v lo hi:Int) (w:World):Calls Tryz.prog 186 (sN v lo hi) w fun e w'=>e=.returned (.bool (inB v lo hi))∧w=w':=by
 obtain ⟨r,hr⟩:∃ r,inB v lo hi=r:=⟨_,rfl⟩
 rw [hr]
 by_cases h1:lo≤v
 ·have t1:decide (lo≤v)=true:=decide_eq_true h1
  by_cases h2:v≤hi
  ·have t2:decide (v≤hi)=true:=decide_eq_true h2
   have R:=zH (show true=r by rw [← hr,inB_t ⟨h1,h2⟩])
   clear h1 h2 hr
   go_enter Tryz.func186,Tryz.ntmps186
   go_wp2_with fail
   go_ret
   exact ⟨ret_bool R.out,rfl⟩
  ·have t2:decide (v≤hi)=false:=decide_eq_false h2
   have R:=zH (show false=r by rw [← hr,inB_f (fun e=>h2 e.2)])
   clear h1 h2 hr
   go_enter Tryz.func186,Tryz.ntmps186
   go_wp2_with fail
   go_ret
   exact ⟨ret_bool R.out,rfl⟩
 ·have t1:decide (lo≤v)=false:=decide_eq_false h1
  have R:=zH (show false=r by rw [← hr,inB_f (fun e=>h1 e.1)])
  clear h1 hr
  go_enter Tryz.func186,Tryz.ntmps186
  go_wp2_with fail
  go_ret
  exact ⟨ret_bool R.out,rfl⟩
def stepOk (n k s p:Int):Prop:=1≤n∧n≤1024∧1≤k∧k≤5∧1≤s∧s≤4∧0≤p∧p≤4∧p < k
instance (n k s p:Int):Decidable (stepOk n k s p):=inferInstanceAs (Decidable (_∧_))
def stepsV (n k s p:Int):Int × Int:=if stepOk n k s p then (if n+2*p < k then (0,5) else ((n+2*p - k).tdiv s+1,0)) else (0,2)
theorem stepsV_bad {n k s p:Int} (h:¬ stepOk n k s p):stepsV n k s p=(0,2):=if_neg h
theorem stepsV_no {n k s p:Int} (h:stepOk n k s p) (h2:n+2*p < k):stepsV n k s p=(0,5):=by unfold stepsV;rw [if_pos h,if_pos h2]
theorem stepsV_yes {n k s p:Int} (h:stepOk n k s p) (h2:¬ n+2*p < k):stepsV n k s p=((n+2*p - k).tdiv s+1,0):=by unfold stepsV;rw [if_pos h,if_neg h2]
set_option maxHeartbeats 2000000 in
theorem steps_any (n k s p:Int) (w:World):Calls Tryz.prog 170 #[.int .i64 n,.int .i64 k,.int .i64 s,.int .i64 p] w fun e w'=>e=.returned (.tuple #[.int .i64 (stepsV n k s p).1,.int .i64 (stepsV n k s p).2])∧w=w':=by
 by_cases c:stepOk n k s p
 ·have t1:=inB_t (v:=n) (lo:=1) (hi:=1024) ⟨c.1,c.2.1⟩
  have t2:=inB_t (v:=k) (lo:=1) (hi:=5) ⟨c.2.2.1,c.2.2.2.1⟩
  have t3:=inB_t (v:=s) (lo:=1) (hi:=4) ⟨c.2.2.2.2.1,c.2.2.2.2.2.1⟩
  have t4:=inB_t (v:=p) (lo:=0) (hi:=4) ⟨c.2.2.2.2.2.2.1,c.2.2.2.2.2.2.2.1⟩
  have C:=c
  unfold stepOk at c
  have t5:decide (k≤p)=false:=by simp;omega
  have e1:IntKind.i64.wrap (2*p)=2*p:=IntWalk.i64_in _ (by omega)
  have e2:IntKind.i64.wrap (n+2*p)=n+2*p:=IntWalk.i64_in _ (by omega)
  by_cases h:n+2*p < k
  ·have t6:decide (n+2*p < k)=true:=decide_eq_true h
   have R:=zH (stepsV_no C h)
   clear c C h
   go_enter Tryz.func170,Tryz.ntmps170
   go_wp2_with (go_at_call 186;refine (in_any _ _ _ _).mono ?_;rintro e w' ⟨rfl,rfl⟩)
   go_ret2
   exact ⟨by rw [R.out];rfl,rfl⟩
  ·have t6:decide (n+2*p < k)=false:=decide_eq_false h
   have R:=zH (stepsV_yes C h)
   have e3:IntKind.i64.wrap (n+2*p - k)=n+2*p - k:=IntWalk.i64_in _ (by omega)
   have d0:0≤(n+2*p - k).tdiv s∧(n+2*p - k).tdiv s≤2000:=by
    rw [Int.tdiv_eq_ediv_of_nonneg (by omega)]
    refine ⟨Int.ediv_nonneg (by omega) (by omega),?_⟩
    exact Int.le_trans (Int.ediv_le_self _ (by omega)) (by omega)
   have s0:(s == 0)=false:=by simp;omega
   have hs0:s ≠ 0:=by omega
   have S0:=zH hs0
   generalize hd:(n+2*p - k).tdiv s=d at *
   have e4:IntKind.i64.wrap d=d:=IntWalk.i64_in _ (by omega)
   have e5:IntKind.i64.wrap (d+1)=d+1:=IntWalk.i64_in _ (by omega)
   clear c C h d0 hs0
   go_enter Tryz.func170,Tryz.ntmps170
   go_wp2_with (go_at_call 186;refine (in_any _ _ _ _).mono ?_;rintro e w' ⟨rfl,rfl⟩)
   go_ret2
   exact ⟨by rw [R.out];rfl,rfl⟩
 ·have R:=zH (stepsV_bad c)
  by_cases h1:1≤n∧n≤1024
  rotate_left
  ·have t1:=inB_f h1
   clear c h1
   go_enter Tryz.func170,Tryz.ntmps170
   go_wp2_with (go_at_call 186;refine (in_any _ _ _ _).mono ?_;rintro e w' ⟨rfl,rfl⟩)
   go_ret2
   exact ⟨by rw [R.out];rfl,rfl⟩
  have t1:=inB_t h1
  by_cases h2:1≤k∧k≤5
  rotate_left
  ·have t2:=inB_f h2
   clear c h1 h2
   go_enter Tryz.func170,Tryz.ntmps170
   go_wp2_with (go_at_call 186;refine (in_any _ _ _ _).mono ?_;rintro e w' ⟨rfl,rfl⟩)
   go_ret2
   exact ⟨by rw [R.out];rfl,rfl⟩
  have t2:=inB_t h2
  by_cases h3:1≤s∧s≤4
  rotate_left
  ·have t3:=inB_f h3
   clear c h1 h2 h3
   go_enter Tryz.func170,Tryz.ntmps170
   go_wp2_with (go_at_call 186;refine (in_any _ _ _ _).mono ?_;rintro e w' ⟨rfl,rfl⟩)
   go_ret2
   exact ⟨by rw [R.out];rfl,rfl⟩
  have t3:=inB_t h3
  by_cases h4:0≤p∧p≤4
  rotate_left
  ·have t4:=inB_f h4
   clear c h1 h2 h3 h4
   go_enter Tryz.func170,Tryz.ntmps170
   go_wp2_with (go_at_call 186;refine (in_any _ _ _ _).mono ?_;rintro e w' ⟨rfl,rfl⟩)
   go_ret2
   exact ⟨by rw [R.out];rfl,rfl⟩
  have t4:=inB_t h4
  have t5:decide (k≤p)=true:=by simp;unfold stepOk at c;omega
  clear c h1 h2 h3 h4
  go_enter Tryz.func170,Tryz.ntmps170
  go_wp2_with (go_at_call 186;refine (in_any _ _ _ _).mono ?_;rintro e w' ⟨rfl,rfl⟩)
  go_ret2
  exact ⟨by rw [R.out];rfl,rfl⟩
set_option maxHeartbeats 4000000 in
theorem rsteps_any (n k s p:Int) (w:World):Calls Tryz.prog 113 #[.int .i64 n,.int .i64 k,.int .i64 s,.int .i64 p] w fun e w'=>e=.returned (.tuple #[.int .i64 (stepsV n k s p).1,.int .i64 (stepsV n k s p).2])∧w=w':=by
 by_cases c:stepOk n k s p
 rotate_left
 ·have R:=zH (stepsV_bad c)
  by_cases h0:n < 1
  ·have t0:decide (n < 1)=true:=decide_eq_true h0
   clear c h0
   go_enter Tryz.func113,Tryz.ntmps113
   go_wp2_with fail
   go_ret2
   exact ⟨by rw [R.out];rfl,rfl⟩
  have t0:decide (n < 1)=false:=decide_eq_false h0
  by_cases h1:1024 < n
  ·have t1:decide (1024 < n)=true:=decide_eq_true h1
   clear c h0 h1
   go_enter Tryz.func113,Tryz.ntmps113
   go_wp2_with fail
   go_ret2
   exact ⟨by rw [R.out];rfl,rfl⟩
  have t1:decide (1024 < n)=false:=decide_eq_false h1
  by_cases h2:k < 1
  ·have t2:decide (k < 1)=true:=decide_eq_true h2
   clear c h0 h1 h2
   go_enter Tryz.func113,Tryz.ntmps113
   go_wp2_with fail
   go_ret2
   exact ⟨by rw [R.out];rfl,rfl⟩
  have t2:decide (k < 1)=false:=decide_eq_false h2
  by_cases h3:5 < k
  ·have t3:decide (5 < k)=true:=decide_eq_true h3
   clear c h0 h1 h2 h3
   go_enter Tryz.func113,Tryz.ntmps113
   go_wp2_with fail
   go_ret2
   exact ⟨by rw [R.out];rfl,rfl⟩
  have t3:decide (5 < k)=false:=decide_eq_false h3
  by_cases h4:s < 1
  ·have t4:decide (s < 1)=true:=decide_eq_true h4
   clear c h0 h1 h2 h3 h4
   go_enter Tryz.func113,Tryz.ntmps113
   go_wp2_with fail
   go_ret2
   exact ⟨by rw [R.out];rfl,rfl⟩
  have t4:decide (s < 1)=false:=decide_eq_false h4
  by_cases h5:4 < s
  ·have t5:decide (4 < s)=true:=decide_eq_true h5
   clear c h0 h1 h2 h3 h4 h5
   go_enter Tryz.func113,Tryz.ntmps113
   go_wp2_with fail
   go_ret2
   exact ⟨by rw [R.out];rfl,rfl⟩
  have t5:decide (4 < s)=false:=decide_eq_false h5
  by_cases h6:p < 0
  ·have t6:decide (p < 0)=true:=decide_eq_true h6
   clear c h0 h1 h2 h3 h4 h5 h6
   go_enter Tryz.func113,Tryz.ntmps113
   go_wp2_with fail
   go_ret2
   exact ⟨by rw [R.out];rfl,rfl⟩
  have t6:decide (p < 0)=false:=decide_eq_false h6
  by_cases h7:4 < p
  ·have t7:decide (4 < p)=true:=decide_eq_true h7
   clear c h0 h1 h2 h3 h4 h5 h6 h7
   go_enter Tryz.func113,Tryz.ntmps113
   go_wp2_with fail
   go_ret2
   exact ⟨by rw [R.out];rfl,rfl⟩
  have t7:decide (4 < p)=false:=decide_eq_false h7
  have t8:decide (k≤p)=true:=by simp;unfold stepOk at c;omega
  clear c h0 h1 h2 h3 h4 h5 h6 h7
  go_enter Tryz.func113,Tryz.ntmps113
  go_wp2_with fail
  go_ret2
  exact ⟨by rw [R.out];rfl,rfl⟩
 have C:=zH c
 unfold stepOk at c
 have t0:decide (n < 1)=false:=by simp;omega
 have t1:decide (1024 < n)=false:=by simp;omega
 have t2:decide (k < 1)=false:=by simp;omega
 have t3:decide (5 < k)=false:=by simp;omega
 have t4:decide (s < 1)=false:=by simp;omega
 have t5:decide (4 < s)=false:=by simp;omega
 have t6:decide (p < 0)=false:=by simp;omega
 have t7:decide (4 < p)=false:=by simp;omega
 have t8:decide (k≤p)=false:=by simp;omega
 have e0:IntKind.i64.wrap (-p)=-p:=IntWalk.i64_in _ (by omega)
 have e1:IntKind.i64.wrap (n+p)=n+p:=IntWalk.i64_in _ (by omega)
 obtain ⟨c1,c2,c3,c4,c5,c6,c7,c8,c9⟩:=c
 have hs:s=1 ∨ s=2 ∨ s=3 ∨ s=4:=by omega
 rcases hs with rfl|rfl|rfl|rfl
 ·go_enter Tryz.func113,Tryz.ntmps113
  go_wp2_with fail
  go_loopw [10,11] (fun v u wr=>∃ (j:Nat) (a:Int),(j:Int)≤1100∧u=.int .i64 a∧v=.int .i64 j∧Hid (a=-p+1*j∧(1*((j:Int) - 1)≤n+2*p - k ∨ j=0))∧w=wr) (fun _ u _=>(2000 - intOf u).toNat)
  case atStart=>exact ⟨0,-p,by omega,rfl,rfl,zH ⟨by simp,.inr rfl⟩,rfl⟩
  case round =>
   obtain ⟨j,a,hj,rfl,rfl,HD,rfl⟩:=hrel
   obtain ⟨ha,hd⟩:=HD.out
   have e2:IntKind.i64.wrap (a+k)=a+k:=IntWalk.i64_in _ (by omega)
   have e3:IntKind.i64.wrap (a+1)=a+1:=IntWalk.i64_in _ (by omega)
   have e4:IntKind.i64.wrap ((j:Int)+1)=(j:Int)+1:=IntWalk.i64_in _ (by omega)
   by_cases g:a+k≤n+p
   ·have y1:decide (a+k≤n+p)=true:=decide_eq_true g
    have ND:=zH (show a+1=-p+1*((j+1:Nat):Int)∧(1*(((j+1:Nat):Int) - 1)≤n+2*p - k ∨ j+1=0) by omega)
    have b1:(j:Int)+1≤1100:=by omega
    have b2:a≤1100:=by omega
    clear hd ha
    go_wp2_with fail
    exact ⟨⟨j+1,a+1,by omega,rfl,by simp,ND,by trivial⟩,by simp [intOf];omega⟩
   ·have y1:decide (a+k≤n+p)=false:=decide_eq_false g
    by_cases j0:j=0
    ·subst j0
     have R:=zH (stepsV_no C.out (by omega))
     clear hd ha g
     go_wp2_with fail
     go_ret2
     exact ⟨by rw [R.out];rfl,rfl⟩
    ·have y2:((j:Int) == 0)=false:=by simp;exact j0
     have R:=zH (stepsV_yes C.out (by omega))
     have Q:=zH (show (n+2*p - k).tdiv 1+1=j by rw [Int.tdiv_eq_ediv_of_nonneg (by omega)];omega)
     clear hd j0 ha g
     go_wp2_with fail
     go_ret2
     exact ⟨by rw [R.out,Q.out];rfl,rfl⟩
 ·go_enter Tryz.func113,Tryz.ntmps113
  go_wp2_with fail
  go_loopw [10,11] (fun v u wr=>∃ (j:Nat) (a:Int),(j:Int)≤1100∧u=.int .i64 a∧v=.int .i64 j∧Hid (a=-p+2*j∧(2*((j:Int) - 1)≤n+2*p - k ∨ j=0))∧w=wr) (fun _ u _=>(2000 - intOf u).toNat)
  case atStart=>exact ⟨0,-p,by omega,rfl,rfl,zH ⟨by simp,.inr rfl⟩,rfl⟩
  case round =>
   obtain ⟨j,a,hj,rfl,rfl,HD,rfl⟩:=hrel
   obtain ⟨ha,hd⟩:=HD.out
   have e2:IntKind.i64.wrap (a+k)=a+k:=IntWalk.i64_in _ (by omega)
   have e3:IntKind.i64.wrap (a+2)=a+2:=IntWalk.i64_in _ (by omega)
   have e4:IntKind.i64.wrap ((j:Int)+1)=(j:Int)+1:=IntWalk.i64_in _ (by omega)
   by_cases g:a+k≤n+p
   ·have y1:decide (a+k≤n+p)=true:=decide_eq_true g
    have ND:=zH (show a+2=-p+2*((j+1:Nat):Int)∧(2*(((j+1:Nat):Int) - 1)≤n+2*p - k ∨ j+1=0) by omega)
    have b1:(j:Int)+1≤1100:=by omega
    have b2:a≤1100:=by omega
    clear hd ha
    go_wp2_with fail
    exact ⟨⟨j+1,a+2,by omega,rfl,by simp,ND,by trivial⟩,by simp [intOf];omega⟩
   ·have y1:decide (a+k≤n+p)=false:=decide_eq_false g
    by_cases j0:j=0
    ·subst j0
     have R:=zH (stepsV_no C.out (by omega))
     clear hd ha g
     go_wp2_with fail
     go_ret2
     exact ⟨by rw [R.out];rfl,rfl⟩
    ·have y2:((j:Int) == 0)=false:=by simp;exact j0
     have R:=zH (stepsV_yes C.out (by omega))
     have Q:=zH (show (n+2*p - k).tdiv 2+1=j by rw [Int.tdiv_eq_ediv_of_nonneg (by omega)];omega)
     clear hd j0 ha g
     go_wp2_with fail
     go_ret2
     exact ⟨by rw [R.out,Q.out];rfl,rfl⟩
 ·go_enter Tryz.func113,Tryz.ntmps113
  go_wp2_with fail
  go_loopw [10,11] (fun v u wr=>∃ (j:Nat) (a:Int),(j:Int)≤1100∧u=.int .i64 a∧v=.int .i64 j∧Hid (a=-p+3*j∧(3*((j:Int) - 1)≤n+2*p - k ∨ j=0))∧w=wr) (fun _ u _=>(2000 - intOf u).toNat)
  case atStart=>exact ⟨0,-p,by omega,rfl,rfl,zH ⟨by simp,.inr rfl⟩,rfl⟩
  case round =>
   obtain ⟨j,a,hj,rfl,rfl,HD,rfl⟩:=hrel
   obtain ⟨ha,hd⟩:=HD.out
   have e2:IntKind.i64.wrap (a+k)=a+k:=IntWalk.i64_in _ (by omega)
   have e3:IntKind.i64.wrap (a+3)=a+3:=IntWalk.i64_in _ (by omega)
   have e4:IntKind.i64.wrap ((j:Int)+1)=(j:Int)+1:=IntWalk.i64_in _ (by omega)
   by_cases g:a+k≤n+p
   ·have y1:decide (a+k≤n+p)=true:=decide_eq_true g
    have ND:=zH (show a+3=-p+3*((j+1:Nat):Int)∧(3*(((j+1:Nat):Int) - 1)≤n+2*p - k ∨ j+1=0) by omega)
    have b1:(j:Int)+1≤1100:=by omega
    have b2:a≤1100:=by omega
    clear hd ha
    go_wp2_with fail
    exact ⟨⟨j+1,a+3,by omega,rfl,by simp,ND,by trivial⟩,by simp [intOf];omega⟩
   ·have y1:decide (a+k≤n+p)=false:=decide_eq_false g
    by_cases j0:j=0
    ·subst j0
     have R:=zH (stepsV_no C.out (by omega))
     clear hd ha g
     go_wp2_with fail
     go_ret2
     exact ⟨by rw [R.out];rfl,rfl⟩
    ·have y2:((j:Int) == 0)=false:=by simp;exact j0
     have R:=zH (stepsV_yes C.out (by omega))
     have Q:=zH (show (n+2*p - k).tdiv 3+1=j by rw [Int.tdiv_eq_ediv_of_nonneg (by omega)];omega)
     clear hd j0 ha g
     go_wp2_with fail
     go_ret2
     exact ⟨by rw [R.out,Q.out];rfl,rfl⟩
 ·go_enter Tryz.func113,Tryz.ntmps113
  go_wp2_with fail
  go_loopw [10,11] (fun v u wr=>∃ (j:Nat) (a:Int),(j:Int)≤1100∧u=.int .i64 a∧v=.int .i64 j∧Hid (a=-p+4*j∧(4*((j:Int) - 1)≤n+2*p - k ∨ j=0))∧w=wr) (fun _ u _=>(2000 - intOf u).toNat)
  case atStart=>exact ⟨0,-p,by omega,rfl,rfl,zH ⟨by simp,.inr rfl⟩,rfl⟩
  case round =>
   obtain ⟨j,a,hj,rfl,rfl,HD,rfl⟩:=hrel
   obtain ⟨ha,hd⟩:=HD.out
   have e2:IntKind.i64.wrap (a+k)=a+k:=IntWalk.i64_in _ (by omega)
   have e3:IntKind.i64.wrap (a+4)=a+4:=IntWalk.i64_in _ (by omega)
   have e4:IntKind.i64.wrap ((j:Int)+1)=(j:Int)+1:=IntWalk.i64_in _ (by omega)
   by_cases g:a+k≤n+p
   ·have y1:decide (a+k≤n+p)=true:=decide_eq_true g
    have ND:=zH (show a+4=-p+4*((j+1:Nat):Int)∧(4*(((j+1:Nat):Int) - 1)≤n+2*p - k ∨ j+1=0) by omega)
    have b1:(j:Int)+1≤1100:=by omega
    have b2:a≤1100:=by omega
    clear hd ha
    go_wp2_with fail
    exact ⟨⟨j+1,a+4,by omega,rfl,by simp,ND,by trivial⟩,by simp [intOf];omega⟩
   ·have y1:decide (a+k≤n+p)=false:=decide_eq_false g
    by_cases j0:j=0
    ·subst j0
     have R:=zH (stepsV_no C.out (by omega))
     clear hd ha g
     go_wp2_with fail
     go_ret2
     exact ⟨by rw [R.out];rfl,rfl⟩
    ·have y2:((j:Int) == 0)=false:=by simp;exact j0
     have R:=zH (stepsV_yes C.out (by omega))
     have Q:=zH (show (n+2*p - k).tdiv 4+1=j by rw [Int.tdiv_eq_ediv_of_nonneg (by omega)];omega)
     clear hd j0 ha g
     go_wp2_with fail
     go_ret2
     exact ⟨by rw [R.out,Q.out];rfl,rfl⟩
end Go.Proofs.YtppcjcigekoipaaGreat
