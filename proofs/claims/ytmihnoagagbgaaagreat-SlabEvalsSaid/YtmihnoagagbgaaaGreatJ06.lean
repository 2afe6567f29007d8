/-
  How often a window lies within (layer 4): shape.in, Steps, the document's Steps.
  The document's Steps, counted (layer 4).
  The shape of what a window makes (layer 4): shape.Slide, the document's Slide.
-/
import Derived.Test.YtmihnoagagbgaaaGreatJ01
set_option linter.unusedVariables false
set_option linter.unusedSimpArgs false
set_option maxRecDepth 100000
set_option maxHeartbeats 16000000
namespace Go.Proofs.YtmihnoagagbgaaaGreat
open Go.RowKit Go.ChangeShapes Go.WideShapes Tryz
set_option maxRecDepth 100000
set_option maxHeartbeats 16000000
def inB (v lo hi:Int):Bool:=decide (lo≤v∧v≤hi)
theorem fA {v lo hi:Int} (h:lo≤v∧v≤hi):inB v lo hi=true:=qT h
theorem iE {v lo hi:Int} (h:¬ (lo≤v∧v≤hi)):inB v lo hi=false:=dF h
theorem fT (v lo hi:Int) (w:World):Calls prog 160 (sN v lo hi) w fun e w'=>e=.returned (.bool (inB v lo hi))∧w=w':=by
 obtain ⟨r,hr⟩:∃ r,inB v lo hi=r:=⟨_,rfl⟩
 rw [hr]
 by_cases h1:lo≤v
 ·have t1:decide (lo≤v)=true:=qT h1
  by_cases h2:v≤hi
  ·have t2:decide (v≤hi)=true:=qT h2
   have R:=zH (show true=r by rw [← hr,fA ⟨h1,h2⟩])
   clear h1 h2 hr
   go_in
   go_wp2
   go_ret
   exact ⟨au R.o,rfl⟩
  ·have t2:decide (v≤hi)=false:=dF h2
   have R:=zH (show false=r by rw [← hr,iE (fun e=>h2 e.2)])
   clear h1 h2 hr
   go_in
   go_wp2
   go_ret
   exact ⟨au R.o,rfl⟩
 ·have t1:decide (lo≤v)=false:=dF h1
  have R:=zH (show false=r by rw [← hr,iE (fun e=>h1 e.1)])
  clear h1 hr
  go_in
  go_wp2
  go_ret
  exact ⟨au R.o,rfl⟩
def df (n k s p:Int):Prop:=1≤n∧n≤1024∧1≤k∧k≤5∧1≤s∧s≤4∧0≤p∧p≤4∧p < k
instance (n k s p:Int):Decidable (df n k s p):=inferInstanceAs (Decidable (_∧_))
def aG (n k s p:Int):Int × Int:=if df n k s p then (if n+2*p < k then (0,5) else ((n+2*p - k).tdiv s+1,0)) else (0,2)
theorem jK {n k s p:Int} (h:¬ df n k s p):aG n k s p=(0,2):=if_neg h
theorem fp {n k s p:Int} (h:df n k s p) (h2:n+2*p < k):aG n k s p=(0,5):=by unfold aG;rw [if_pos h,if_pos h2]
theorem eR {n k s p:Int} (h:df n k s p) (h2:¬ n+2*p < k):aG n k s p=((n+2*p - k).tdiv s+1,0):=by unfold aG;rw [if_pos h,if_neg h2]
theorem kD (n k s p:Int) (w:World):Calls prog 135 #[.int .i64 n,.int .i64 k,.int .i64 s,.int .i64 p] w fun e w'=>e=.returned (.tuple #[.int .i64 (aG n k s p).1,.int .i64 (aG n k s p).2])∧w=w':=by
 by_cases c:df n k s p
 ·have t1:=fA (v:=n) (lo:=1) (hi:=1024) ⟨c.1,c.2.1⟩
  have t2:=fA (v:=k) (lo:=1) (hi:=5) ⟨c.2.2.1,c.2.2.2.1⟩
  have t3:=fA (v:=s) (lo:=1) (hi:=4) ⟨c.2.2.2.2.1,c.2.2.2.2.2.1⟩
  have t4:=fA (v:=p) (lo:=0) (hi:=4) ⟨c.2.2.2.2.2.2.1,c.2.2.2.2.2.2.2.1⟩
  have C:=c
  unfold df at c
  have t5:decide (k≤p)=false:=by simp;omega
  have e1:IntKind.i64.wrap (2*p)=2*p:=wJ
  have e2:IntKind.i64.wrap (n+2*p)=n+2*p:=wJ
  by_cases h:n+2*p < k
  ·have t6:decide (n+2*p < k)=true:=qT h
   have R:=zH (fp C h)
   clear c C h
   go_in
   go_wp2_with (go_at_call 160;refine (fT _ _ _ _).mono ?_;rintro e w' ⟨rfl,rfl⟩)
   go_ret2
   exact ⟨by rw [R.o];rfl,rfl⟩
  ·have t6:decide (n+2*p < k)=false:=dF h
   have R:=zH (eR C h)
   have e3:IntKind.i64.wrap (n+2*p - k)=n+2*p - k:=wJ
   have d0:0≤(n+2*p - k).tdiv s∧(n+2*p - k).tdiv s≤2000:=by
    rw [Int.tdiv_eq_ediv_of_nonneg oM]
    refine ⟨Int.ediv_nonneg oM oM,?_⟩
    exact Int.le_trans (Int.ediv_le_self _ oM) oM
   have s0:(s == 0)=false:=by simp;omega
   have hs0:s ≠ 0:=oM
   have S0:=zH hs0
   generalize hd:(n+2*p - k).tdiv s=d at *
   have e4:IntKind.i64.wrap d=d:=wJ
   have e5:IntKind.i64.wrap (d+1)=d+1:=wJ
   clear c C h d0 hs0
   go_in
   go_wp2_with (go_at_call 160;refine (fT _ _ _ _).mono ?_;rintro e w' ⟨rfl,rfl⟩)
   go_ret2
   exact ⟨by rw [R.o];rfl,rfl⟩
 ·have R:=zH (jK c)
  by_cases h1:1≤n∧n≤1024
  rotate_left
  ·have t1:=iE h1
   clear c h1
   go_in
   go_wp2_with (go_at_call 160;refine (fT _ _ _ _).mono ?_;rintro e w' ⟨rfl,rfl⟩)
   go_ret2
   exact ⟨by rw [R.o];rfl,rfl⟩
  have t1:=fA h1
  by_cases h2:1≤k∧k≤5
  rotate_left
  ·have t2:=iE h2
   clear c h1 h2
   go_in
   go_wp2_with (go_at_call 160;refine (fT _ _ _ _).mono ?_;rintro e w' ⟨rfl,rfl⟩)
   go_ret2
   exact ⟨by rw [R.o];rfl,rfl⟩
  have t2:=fA h2
  by_cases h3:1≤s∧s≤4
  rotate_left
  ·have t3:=iE h3
   clear c h1 h2 h3
   go_in
   go_wp2_with (go_at_call 160;refine (fT _ _ _ _).mono ?_;rintro e w' ⟨rfl,rfl⟩)
   go_ret2
   exact ⟨by rw [R.o];rfl,rfl⟩
  have t3:=fA h3
  by_cases h4:0≤p∧p≤4
  rotate_left
  ·have t4:=iE h4
   clear c h1 h2 h3 h4
   go_in
   go_wp2_with (go_at_call 160;refine (fT _ _ _ _).mono ?_;rintro e w' ⟨rfl,rfl⟩)
   go_ret2
   exact ⟨by rw [R.o];rfl,rfl⟩
  have t4:=fA h4
  have t5:decide (k≤p)=true:=by simp;unfold df at c;omega
  clear c h1 h2 h3 h4
  go_in
  go_wp2_with (go_at_call 160;refine (fT _ _ _ _).mono ?_;rintro e w' ⟨rfl,rfl⟩)
  go_ret2
  exact ⟨by rw [R.o];rfl,rfl⟩
theorem jF (n k s p:Int) (w:World):Calls prog 94 #[.int .i64 n,.int .i64 k,.int .i64 s,.int .i64 p] w fun e w'=>e=.returned (.tuple #[.int .i64 (aG n k s p).1,.int .i64 (aG n k s p).2])∧w=w':=by
 by_cases c:df n k s p
 rotate_left
 ·have R:=zH (jK c)
  by_cases h0:n < 1
  ·have t0:decide (n < 1)=true:=qT h0
   clear c h0
   go_in
   go_wp2_with fail
   go_ret2
   exact ⟨by rw [R.o];rfl,rfl⟩
  have t0:decide (n < 1)=false:=dF h0
  by_cases h1:1024 < n
  ·have t1:decide (1024 < n)=true:=qT h1
   clear c h0 h1
   go_in
   go_wp2_with fail
   go_ret2
   exact ⟨by rw [R.o];rfl,rfl⟩
  have t1:decide (1024 < n)=false:=dF h1
  by_cases h2:k < 1
  ·have t2:decide (k < 1)=true:=qT h2
   clear c h0 h1 h2
   go_in
   go_wp2_with fail
   go_ret2
   exact ⟨by rw [R.o];rfl,rfl⟩
  have t2:decide (k < 1)=false:=dF h2
  by_cases h3:5 < k
  ·have t3:decide (5 < k)=true:=qT h3
   clear c h0 h1 h2 h3
   go_in
   go_wp2_with fail
   go_ret2
   exact ⟨by rw [R.o];rfl,rfl⟩
  have t3:decide (5 < k)=false:=dF h3
  by_cases h4:s < 1
  ·have t4:decide (s < 1)=true:=qT h4
   clear c h0 h1 h2 h3 h4
   go_in
   go_wp2_with fail
   go_ret2
   exact ⟨by rw [R.o];rfl,rfl⟩
  have t4:decide (s < 1)=false:=dF h4
  by_cases h5:4 < s
  ·have t5:decide (4 < s)=true:=qT h5
   clear c h0 h1 h2 h3 h4 h5
   go_in
   go_wp2_with fail
   go_ret2
   exact ⟨by rw [R.o];rfl,rfl⟩
  have t5:decide (4 < s)=false:=dF h5
  by_cases h6:p < 0
  ·have t6:decide (p < 0)=true:=qT h6
   clear c h0 h1 h2 h3 h4 h5 h6
   go_in
   go_wp2_with fail
   go_ret2
   exact ⟨by rw [R.o];rfl,rfl⟩
  have t6:decide (p < 0)=false:=dF h6
  by_cases h7:4 < p
  ·have t7:decide (4 < p)=true:=qT h7
   clear c h0 h1 h2 h3 h4 h5 h6 h7
   go_in
   go_wp2_with fail
   go_ret2
   exact ⟨by rw [R.o];rfl,rfl⟩
  have t7:decide (4 < p)=false:=dF h7
  have t8:decide (k≤p)=true:=by simp;unfold df at c;omega
  clear c h0 h1 h2 h3 h4 h5 h6 h7
  go_in
  go_wp2_with fail
  go_ret2
  exact ⟨by rw [R.o];rfl,rfl⟩
 have C:=zH c
 unfold df at c
 have t0:decide (n < 1)=false:=by simp;omega
 have t1:decide (1024 < n)=false:=by simp;omega
 have t2:decide (k < 1)=false:=by simp;omega
 have t3:decide (5 < k)=false:=by simp;omega
 have t4:decide (s < 1)=false:=by simp;omega
 have t5:decide (4 < s)=false:=by simp;omega
 have t6:decide (p < 0)=false:=by simp;omega
 have t7:decide (4 < p)=false:=by simp;omega
 have t8:decide (k≤p)=false:=by simp;omega
 have e0:IntKind.i64.wrap (-p)=-p:=wJ
 have e1:IntKind.i64.wrap (n+p)=n+p:=wJ
 obtain ⟨c1,c2,c3,c4,c5,c6,c7,c8,c9⟩:=c
 have hs:s=1 ∨ s=2 ∨ s=3 ∨ s=4:=oM
 rcases hs with rfl|rfl|rfl|rfl
 ·go_in
  go_wp2
  go_loopw [10,11] (fun v u wr=>∃ (j:Nat) (a:Int),(j:Int)≤1100∧u=.int .i64 a∧v=.int .i64 j∧Hid (a=-p+1*j∧(1*((j:Int) - 1)≤n+2*p - k ∨ j=0))∧w=wr) (fun _ u _=>(2000 - intOf u).toNat)
  case atStart=>exact ⟨0,-p,by omega,rfl,rfl,zH ⟨by simp,.inr rfl⟩,rfl⟩
  case round =>
   obtain ⟨j,a,hj,rfl,rfl,HD,rfl⟩:=hrel
   obtain ⟨ha,hd⟩:=HD.o
   have e2:IntKind.i64.wrap (a+k)=a+k:=wJ
   have e3:IntKind.i64.wrap (a+1)=a+1:=wJ
   have e4:IntKind.i64.wrap ((j:Int)+1)=(j:Int)+1:=wJ
   by_cases g:a+k≤n+p
   ·have y1:decide (a+k≤n+p)=true:=qT g
    have ND:=zH (show a+1=-p+1*((j+1:Nat):Int)∧(1*(((j+1:Nat):Int) - 1)≤n+2*p - k ∨ j+1=0) by omega)
    have b1:(j:Int)+1≤1100:=oM
    have b2:a≤1100:=oM
    clear hd ha
    go_wp2
    exact ⟨⟨j+1,a+1,by omega,rfl,by simp,ND,by trivial⟩,by simp [intOf];omega⟩
   ·have y1:decide (a+k≤n+p)=false:=dF g
    by_cases j0:j=0
    ·subst j0
     have R:=zH (fp C.o oM)
     clear hd ha g
     go_wp2_with fail
     go_ret2
     exact ⟨by rw [R.o];rfl,rfl⟩
    ·have y2:((j:Int) == 0)=false:=by simp;exact j0
     have R:=zH (eR C.o oM)
     have Q:=zH (show (n+2*p - k).tdiv 1+1=j by rw [Int.tdiv_eq_ediv_of_nonneg oM];omega)
     clear hd j0 ha g
     go_wp2_with fail
     go_ret2
     exact ⟨by rw [R.o,Q.o];rfl,rfl⟩
 ·go_in
  go_wp2
  go_loopw [10,11] (fun v u wr=>∃ (j:Nat) (a:Int),(j:Int)≤1100∧u=.int .i64 a∧v=.int .i64 j∧Hid (a=-p+2*j∧(2*((j:Int) - 1)≤n+2*p - k ∨ j=0))∧w=wr) (fun _ u _=>(2000 - intOf u).toNat)
  case atStart=>exact ⟨0,-p,by omega,rfl,rfl,zH ⟨by simp,.inr rfl⟩,rfl⟩
  case round =>
   obtain ⟨j,a,hj,rfl,rfl,HD,rfl⟩:=hrel
   obtain ⟨ha,hd⟩:=HD.o
   have e2:IntKind.i64.wrap (a+k)=a+k:=wJ
   have e3:IntKind.i64.wrap (a+2)=a+2:=wJ
   have e4:IntKind.i64.wrap ((j:Int)+1)=(j:Int)+1:=wJ
   by_cases g:a+k≤n+p
   ·have y1:decide (a+k≤n+p)=true:=qT g
    have ND:=zH (show a+2=-p+2*((j+1:Nat):Int)∧(2*(((j+1:Nat):Int) - 1)≤n+2*p - k ∨ j+1=0) by omega)
    have b1:(j:Int)+1≤1100:=oM
    have b2:a≤1100:=oM
    clear hd ha
    go_wp2
    exact ⟨⟨j+1,a+2,by omega,rfl,by simp,ND,by trivial⟩,by simp [intOf];omega⟩
   ·have y1:decide (a+k≤n+p)=false:=dF g
    by_cases j0:j=0
    ·subst j0
     have R:=zH (fp C.o oM)
     clear hd ha g
     go_wp2_with fail
     go_ret2
     exact ⟨by rw [R.o];rfl,rfl⟩
    ·have y2:((j:Int) == 0)=false:=by simp;exact j0
     have R:=zH (eR C.o oM)
     have Q:=zH (show (n+2*p - k).tdiv 2+1=j by rw [Int.tdiv_eq_ediv_of_nonneg oM];omega)
     clear hd j0 ha g
     go_wp2_with fail
     go_ret2
     exact ⟨by rw [R.o,Q.o];rfl,rfl⟩
 ·go_in
  go_wp2
  go_loopw [10,11] (fun v u wr=>∃ (j:Nat) (a:Int),(j:Int)≤1100∧u=.int .i64 a∧v=.int .i64 j∧Hid (a=-p+3*j∧(3*((j:Int) - 1)≤n+2*p - k ∨ j=0))∧w=wr) (fun _ u _=>(2000 - intOf u).toNat)
  case atStart=>exact ⟨0,-p,by omega,rfl,rfl,zH ⟨by simp,.inr rfl⟩,rfl⟩
  case round =>
   obtain ⟨j,a,hj,rfl,rfl,HD,rfl⟩:=hrel
   obtain ⟨ha,hd⟩:=HD.o
   have e2:IntKind.i64.wrap (a+k)=a+k:=wJ
   have e3:IntKind.i64.wrap (a+3)=a+3:=wJ
   have e4:IntKind.i64.wrap ((j:Int)+1)=(j:Int)+1:=wJ
   by_cases g:a+k≤n+p
   ·have y1:decide (a+k≤n+p)=true:=qT g
    have ND:=zH (show a+3=-p+3*((j+1:Nat):Int)∧(3*(((j+1:Nat):Int) - 1)≤n+2*p - k ∨ j+1=0) by omega)
    have b1:(j:Int)+1≤1100:=oM
    have b2:a≤1100:=oM
    clear hd ha
    go_wp2
    exact ⟨⟨j+1,a+3,by omega,rfl,by simp,ND,by trivial⟩,by simp [intOf];omega⟩
   ·have y1:decide (a+k≤n+p)=false:=dF g
    by_cases j0:j=0
    ·subst j0
     have R:=zH (fp C.o oM)
     clear hd ha g
     go_wp2_with fail
     go_ret2
     exact ⟨by rw [R.o];rfl,rfl⟩
    ·have y2:((j:Int) == 0)=false:=by simp;exact j0
     have R:=zH (eR C.o oM)
     have Q:=zH (show (n+2*p - k).tdiv 3+1=j by rw [Int.tdiv_eq_ediv_of_nonneg oM];omega)
     clear hd j0 ha g
     go_wp2_with fail
     go_ret2
     exact ⟨by rw [R.o,Q.o];rfl,rfl⟩
 ·go_in
  go_wp2
  go_loopw [10,11] (fun v u wr=>∃ (j:Nat) (a:Int),(j:Int)≤1100∧u=.int .i64 a∧v=.int .i64 j∧Hid (a=-p+4*j∧(4*((j:Int) - 1)≤n+2*p - k ∨ j=0))∧w=wr) (fun _ u _=>(2000 - intOf u).toNat)
  case atStart=>exact ⟨0,-p,by omega,rfl,rfl,zH ⟨by simp,.inr rfl⟩,rfl⟩
  case round =>
   obtain ⟨j,a,hj,rfl,rfl,HD,rfl⟩:=hrel
   obtain ⟨ha,hd⟩:=HD.o
   have e2:IntKind.i64.wrap (a+k)=a+k:=wJ
   have e3:IntKind.i64.wrap (a+4)=a+4:=wJ
   have e4:IntKind.i64.wrap ((j:Int)+1)=(j:Int)+1:=wJ
   by_cases g:a+k≤n+p
   ·have y1:decide (a+k≤n+p)=true:=qT g
    have ND:=zH (show a+4=-p+4*((j+1:Nat):Int)∧(4*(((j+1:Nat):Int) - 1)≤n+2*p - k ∨ j+1=0) by omega)
    have b1:(j:Int)+1≤1100:=oM
    have b2:a≤1100:=oM
    clear hd ha
    go_wp2
    exact ⟨⟨j+1,a+4,by omega,rfl,by simp,ND,by trivial⟩,by simp [intOf];omega⟩
   ·have y1:decide (a+k≤n+p)=false:=dF g
    by_cases j0:j=0
    ·subst j0
     have R:=zH (fp C.o oM)
     clear hd ha g
     go_wp2_with fail
     go_ret2
     exact ⟨by rw [R.o];rfl,rfl⟩
    ·have y2:((j:Int) == 0)=false:=by simp;exact j0
     have R:=zH (eR C.o oM)
     have Q:=zH (show (n+2*p - k).tdiv 4+1=j by rw [Int.tdiv_eq_ediv_of_nonneg oM];omega)
     clear hd j0 ha g
     go_wp2_with fail
     go_ret2
     exact ⟨by rw [R.o,Q.o];rfl,rfl⟩
abbrev ShE:=(Int × Int × Int) × Int
def aL (x:ShE):Ending:=.returned (.tuple #[.agg (sN x.1.1 x.1.2.1 x.1.2.2),.int .i64 x.2])
def noS (e:Int):ShE:=((0,0,0),e)
theorem gi (n k s p:Int):0≤(aG n k s p).1∧(aG n k s p).1≤2001:=by
 unfold aG
 split
 ·rename_i c
  unfold df at c
  split
  ·simp
  ·have h1:0≤(n+2*p - k).tdiv s:=by rw [Int.tdiv_eq_ediv_of_nonneg oM];exact Int.ediv_nonneg oM oM
   have h2:(n+2*p - k).tdiv s≤2000:=by rw [Int.tdiv_eq_ediv_of_nonneg oM];exact Int.le_trans (Int.ediv_le_self _ oM) oM
   simp only;omega
 ·simp
def aw (h v c k s p o:Int):ShE :=
 if ab h v c=0 then noS 5 else if (aG h k s p).2 ≠ 0 then noS (aG h k s p).2 else if (aG v k s p).2 ≠ 0 then noS (aG v k s p).2
 else if ab (aG h k s p).1 (aG v k s p).1 o=0 then noS 5 else (((aG h k s p).1,(aG v k s p).1,o),0)
theorem dQ (h v c k s p o:Int) (w:World) (h0:InK .i64 h) (h1:InK .i64 v) (h2:InK .i64 c) (h3:InK .i64 o) :
  Calls prog 107 #[.agg (sN h v c),.int .i64 k,.int .i64 s,.int .i64 p,.int .i64 o] w fun e w'=>e=aL (aw h v c k s p o)∧Below w w w':=by
 have RI:=zH (fun w=>aP h c v w h0 h1 h2)
 obtain ⟨r,hr⟩:∃ r,aw h v c k s p o=r:=⟨_,rfl⟩
 rw [hr]
 unfold aw at hr
 have V:=zH hr.symm
 clear hr
 have ST1:=zH (fun w=>kD h k s p w)
 have ST2:=zH (fun w=>kD v k s p w)
 have bd1:=gi h k s p
 have bd2:=gi v k s p
 have HO:=zH h3
 clear h0 h1 h2 h3
 obtain ⟨m,hm⟩:∃ m,ab h v c=m:=⟨_,rfl⟩
 have m0:=(aC h v c).1
 obtain ⟨⟨x1,e1⟩,hs1⟩:∃ x,aG h k s p=x:=⟨_,rfl⟩
 obtain ⟨⟨x2,e2⟩,hs2⟩:∃ x,aG v k s p=x:=⟨_,rfl⟩
 rw [hm] at RI V m0
 rw [hs1] at V ST1 bd1
 rw [hs2] at V ST2 bd2
 simp only at V ST1 ST2 bd1 bd2
 clear hm hs1 hs2
 have R3:=zH (fun w=>aP x1 o x2 w (by rw [ah];omega) (by rw [ah];omega) HO.o)
 have y0:=(aC x1 x2 o).1
 obtain ⟨y,hy⟩:∃ y,ab x1 x2 o=y:=⟨_,rfl⟩
 rw [hy] at V R3 y0
 clear hy
 have FR:=zW w
 obtain ⟨w1,w2,yw1,yw2,_,_,BA,BC,yk2⟩:=bk2 w (sN h v c) 24 (sN 0 0 0) 24
 replace FR:=zF yk2 FR
 clear yk2
 have lt0:w.heap.size≤w1.heap.size:=by rw [← yw1];simp
 have cA:=fun i=>BA.o.cell i
 by_cases c1:m=0
 ·have t1:decide (0 < m)=false:=by simp;omega
  have R:=zH (show r=noS 5 by rw [V.o,if_pos c1])
  clear c1 V
  go_in
  go_wp2_with (refine lG BA.o ?_)
  clear yw1 yw2 cA
  refine qM (RI.o _) fun w3 hb=>?_
  obtain ⟨FR,BA,BC⟩:=uz3 hb FR BA BC
  clear hb
  have fC:=fun i=>BC.o.frozen i
  have cC:=fun i=>BC.o.cell i
  go_wp2_with fail
  refine ret_cell_tmp rfl (((BC.o.set_ 0 _).set_ 1 _).set_ 2 _) rfl underlying24 kM rfl ⟨?_,?_⟩
  ·rw [R.o];rfl
  ·exact (((FR.o.set ⟨w1.heap.size,0,none⟩ _ lt0).set ⟨w1.heap.size,1,none⟩ _ lt0).set ⟨w1.heap.size,2,none⟩ _ lt0).out
 have t1:decide (0 < m)=true:=by simp;omega
 by_cases c2:e1=0
 rotate_left
 ·have t2:(e1 != 0)=true:=by simp;exact c2
  have R:=zH (show r=noS e1 by rw [V.o,if_neg c1,if_pos c2])
  clear c1 c2 V
  go_in
  go_wp2_with (refine lG BA.o ?_)
  clear yw1 yw2 cA
  refine qM (RI.o _) fun w3 hb=>?_
  obtain ⟨FR,BA,BC⟩:=uz3 hb FR BA BC
  clear hb
  obtain ⟨cA0,cA1⟩:=uc2 BA 0 1
  go_wp2_with fail
  refine (ST1.o _).mono ?_
  rintro e w4 ⟨rfl,rfl⟩
  have fC:=fun i=>BC.o.frozen i
  have cC:=fun i=>BC.o.cell i
  go_wp2_with fail
  refine ret_cell_tmp rfl (((BC.o.set_ 0 _).set_ 1 _).set_ 2 _) rfl underlying24 kM rfl ⟨?_,?_⟩
  ·rw [R.o];rfl
  ·exact (((FR.o.set ⟨w1.heap.size,0,none⟩ _ lt0).set ⟨w1.heap.size,1,none⟩ _ lt0).set ⟨w1.heap.size,2,none⟩ _ lt0).out
 have t2:(e1 != 0)=false:=by simp;exact c2
 by_cases c3:e2=0
 rotate_left
 ·have t3:(e2 != 0)=true:=by simp;exact c3
  have R:=zH (show r=noS e2 by rw [V.o,if_neg c1,if_neg (fun h=>h c2),if_pos c3])
  clear c1 c2 c3 V
  go_in
  go_wp2_with (refine lG BA.o ?_)
  clear yw1 yw2 cA
  refine qM (RI.o _) fun w3 hb=>?_
  obtain ⟨FR,BA,BC⟩:=uz3 hb FR BA BC
  clear hb
  obtain ⟨cA0,cA1⟩:=uc2 BA 0 1
  go_wp2_with fail
  refine (ST1.o _).mono ?_
  rintro e w4 ⟨rfl,rfl⟩
  go_wp2_with fail
  refine (ST2.o _).mono ?_
  rintro e w4 ⟨rfl,rfl⟩
  have fC:=fun i=>BC.o.frozen i
  have cC:=fun i=>BC.o.cell i
  go_wp2_with fail
  refine ret_cell_tmp rfl (((BC.o.set_ 0 _).set_ 1 _).set_ 2 _) rfl underlying24 kM rfl ⟨?_,?_⟩
  ·rw [R.o];rfl
  ·exact (((FR.o.set ⟨w1.heap.size,0,none⟩ _ lt0).set ⟨w1.heap.size,1,none⟩ _ lt0).set ⟨w1.heap.size,2,none⟩ _ lt0).out
 have t3:(e2 != 0)=false:=by simp;exact c3
 by_cases c4:y=0
 ·have t4:decide (0 < y)=false:=by simp;omega
  have R:=zH (show r=noS 5 by rw [V.o,if_neg c1,if_neg (fun h=>h c2),if_neg (fun h=>h c3),if_pos c4])
  clear c1 c2 c3 c4 V
  go_in
  go_wp2_with (refine lG BA.o ?_)
  clear yw1 yw2 cA
  refine qM (RI.o _) fun w3 hb=>?_
  obtain ⟨FR,BA,BC⟩:=uz3 hb FR BA BC
  clear hb
  obtain ⟨cA0,cA1⟩:=uc2 BA 0 1
  go_wp2_with fail
  refine (ST1.o _).mono ?_
  rintro e w4 ⟨rfl,rfl⟩
  go_wp2_with fail
  refine (ST2.o _).mono ?_
  rintro e w4 ⟨rfl,rfl⟩
  clear cA0 cA1
  obtain ⟨w5,yw5,BD,yk5⟩:=nB w3 (sN x1 x2 o) 24
  obtain ⟨FR,BA,BC⟩:=uz3 yk5 FR BA BC
  clear yk5
  have cD:=fun i=>BD.o.cell i
  go_wp2_with (refine lG BD.o ?_)
  clear yw5 cD
  refine qM (R3.o _) fun w6 hb=>?_
  obtain ⟨FR,BC,BD⟩:=uz3 hb FR BC BD
  clear hb
  have fC:=fun i=>BC.o.frozen i
  have cC:=fun i=>BC.o.cell i
  go_wp2_with fail
  refine ret_cell_tmp rfl (((BC.o.set_ 0 _).set_ 1 _).set_ 2 _) rfl underlying24 kM rfl ⟨?_,?_⟩
  ·rw [R.o];rfl
  ·exact (((FR.o.set ⟨w1.heap.size,0,none⟩ _ lt0).set ⟨w1.heap.size,1,none⟩ _ lt0).set ⟨w1.heap.size,2,none⟩ _ lt0).out
 have t4:decide (0 < y)=true:=by simp;omega
 have R:=zH (show r=((x1,x2,o),0) by rw [V.o,if_neg c1,if_neg (fun h=>h c2),if_neg (fun h=>h c3),if_neg c4])
 clear c1 c2 c3 c4 V
 go_in
 go_wp2_with (refine lG BA.o ?_)
 clear yw1 yw2 cA
 refine qM (RI.o _) fun w3 hb=>?_
 obtain ⟨FR,BA,BC⟩:=uz3 hb FR BA BC
 clear hb
 obtain ⟨cA0,cA1⟩:=uc2 BA 0 1
 go_wp2_with fail
 refine (ST1.o _).mono ?_
 rintro e w4 ⟨rfl,rfl⟩
 go_wp2_with fail
 refine (ST2.o _).mono ?_
 rintro e w4 ⟨rfl,rfl⟩
 clear cA0 cA1
 obtain ⟨w5,yw5,BD,yk5⟩:=nB w3 (sN x1 x2 o) 24
 obtain ⟨FR,BA,BC⟩:=uz3 yk5 FR BA BC
 clear yk5
 have cD:=fun i=>BD.o.cell i
 go_wp2_with (refine lG BD.o ?_)
 clear yw5 cD
 refine qM (R3.o _) fun w6 hb=>?_
 obtain ⟨FR,BC,BD⟩:=uz3 hb FR BC BD
 clear hb
 have fC:=fun i=>BC.o.frozen i
 have cC:=fun i=>BC.o.cell i
 go_wp2_with (refine lG BD.o ?_)
 refine ret_cell_tmp rfl (((BC.o.set_ 0 _).set_ 1 _).set_ 2 _) rfl underlying24 kM rfl ⟨?_,?_⟩
 ·rw [R.o];rfl
 ·exact (((FR.o.set ⟨w1.heap.size,0,none⟩ _ lt0).set ⟨w1.heap.size,1,none⟩ _ lt0).set ⟨w1.heap.size,2,none⟩ _ lt0).out
theorem dU (h v c k s p o:Int) (w:World) (h0:InK .i64 h) (h1:InK .i64 v) (h2:InK .i64 c) (h3:InK .i64 o) :
  Calls prog 59 #[.agg (sN h v c),.int .i64 k,.int .i64 s,.int .i64 p,.int .i64 o] w fun e w'=>e=aL (aw h v c k s p o)∧Below w w w':=by
 have RI:=zH (fun w=>aQ h c v w h0 h1 h2)
 obtain ⟨r,hr⟩:∃ r,aw h v c k s p o=r:=⟨_,rfl⟩
 rw [hr]
 unfold aw at hr
 have V:=zH hr.symm
 clear hr
 have ST1:=zH (fun w=>jF h k s p w)
 have ST2:=zH (fun w=>jF v k s p w)
 have bd1:=gi h k s p
 have bd2:=gi v k s p
 have HO:=zH h3
 clear h0 h1 h2 h3
 obtain ⟨m,hm⟩:∃ m,ab h v c=m:=⟨_,rfl⟩
 have m0:=(aC h v c).1
 obtain ⟨⟨x1,e1⟩,hs1⟩:∃ x,aG h k s p=x:=⟨_,rfl⟩
 obtain ⟨⟨x2,e2⟩,hs2⟩:∃ x,aG v k s p=x:=⟨_,rfl⟩
 rw [hm] at RI V m0
 rw [hs1] at V ST1 bd1
 rw [hs2] at V ST2 bd2
 simp only at V ST1 ST2 bd1 bd2
 clear hm hs1 hs2
 have R3:=zH (fun w=>aQ x1 o x2 w (by rw [ah];omega) (by rw [ah];omega) HO.o)
 have y0:=(aC x1 x2 o).1
 obtain ⟨y,hy⟩:∃ y,ab x1 x2 o=y:=⟨_,rfl⟩
 rw [hy] at V R3 y0
 clear hy
 have FR:=zW w
 obtain ⟨w1,w2,yw1,yw2,_,_,BA,BC,yk2⟩:=bk2 w (sN h v c) 24 (sN 0 0 0) 24
 replace FR:=zF yk2 FR
 clear yk2
 have lt0:w.heap.size≤w1.heap.size:=by rw [← yw1];simp
 have cA:=fun i=>BA.o.cell i
 by_cases c1:m=0
 ·have t1:((m:Int) == 0)=true:=by simp;omega
  have R:=zH (show r=noS 5 by rw [V.o,if_pos c1])
  clear c1 V
  go_in
  go_wp2_with (refine lG BA.o ?_)
  clear yw1 yw2 cA
  refine qM (RI.o _) fun w3 hb=>?_
  obtain ⟨FR,BA,BC⟩:=uz3 hb FR BA BC
  clear hb
  have fC:=fun i=>BC.o.frozen i
  have cC:=fun i=>BC.o.cell i
  go_wp2_with fail
  refine ret_cell_tmp rfl (((BC.o.set_ 0 _).set_ 1 _).set_ 2 _) rfl underlying24 kM rfl ⟨?_,?_⟩
  ·rw [R.o];rfl
  ·exact (((FR.o.set ⟨w1.heap.size,0,none⟩ _ lt0).set ⟨w1.heap.size,1,none⟩ _ lt0).set ⟨w1.heap.size,2,none⟩ _ lt0).out
 have t1:((m:Int) == 0)=false:=by simp;omega
 by_cases c2:e1=0
 rotate_left
 ·have t2:(e1 != 0)=true:=by simp;exact c2
  have R:=zH (show r=noS e1 by rw [V.o,if_neg c1,if_pos c2])
  clear c1 c2 V
  go_in
  go_wp2_with (refine lG BA.o ?_)
  clear yw1 yw2 cA
  refine qM (RI.o _) fun w3 hb=>?_
  obtain ⟨FR,BA,BC⟩:=uz3 hb FR BA BC
  clear hb
  obtain ⟨cA0,cA1⟩:=uc2 BA 0 1
  go_wp2_with fail
  refine (ST1.o _).mono ?_
  rintro e w4 ⟨rfl,rfl⟩
  have fC:=fun i=>BC.o.frozen i
  have cC:=fun i=>BC.o.cell i
  go_wp2_with fail
  refine ret_cell_tmp rfl (((BC.o.set_ 0 _).set_ 1 _).set_ 2 _) rfl underlying24 kM rfl ⟨?_,?_⟩
  ·rw [R.o];rfl
  ·exact (((FR.o.set ⟨w1.heap.size,0,none⟩ _ lt0).set ⟨w1.heap.size,1,none⟩ _ lt0).set ⟨w1.heap.size,2,none⟩ _ lt0).out
 have t2:(e1 != 0)=false:=by simp;exact c2
 by_cases c3:e2=0
 rotate_left
 ·have t3:(e2 != 0)=true:=by simp;exact c3
  have R:=zH (show r=noS e2 by rw [V.o,if_neg c1,if_neg (fun h=>h c2),if_pos c3])
  clear c1 c2 c3 V
  go_in
  go_wp2_with (refine lG BA.o ?_)
  clear yw1 yw2 cA
  refine qM (RI.o _) fun w3 hb=>?_
  obtain ⟨FR,BA,BC⟩:=uz3 hb FR BA BC
  clear hb
  obtain ⟨cA0,cA1⟩:=uc2 BA 0 1
  go_wp2_with fail
  refine (ST1.o _).mono ?_
  rintro e w4 ⟨rfl,rfl⟩
  go_wp2_with fail
  refine (ST2.o _).mono ?_
  rintro e w4 ⟨rfl,rfl⟩
  have fC:=fun i=>BC.o.frozen i
  have cC:=fun i=>BC.o.cell i
  go_wp2_with fail
  refine ret_cell_tmp rfl (((BC.o.set_ 0 _).set_ 1 _).set_ 2 _) rfl underlying24 kM rfl ⟨?_,?_⟩
  ·rw [R.o];rfl
  ·exact (((FR.o.set ⟨w1.heap.size,0,none⟩ _ lt0).set ⟨w1.heap.size,1,none⟩ _ lt0).set ⟨w1.heap.size,2,none⟩ _ lt0).out
 have t3:(e2 != 0)=false:=by simp;exact c3
 by_cases c4:y=0
 ·have t4:((y:Int) == 0)=true:=by simp;omega
  have R:=zH (show r=noS 5 by rw [V.o,if_neg c1,if_neg (fun h=>h c2),if_neg (fun h=>h c3),if_pos c4])
  clear c1 c2 c3 c4 V
  go_in
  go_wp2_with (refine lG BA.o ?_)
  clear yw1 yw2 cA
  refine qM (RI.o _) fun w3 hb=>?_
  obtain ⟨FR,BA,BC⟩:=uz3 hb FR BA BC
  clear hb
  obtain ⟨cA0,cA1⟩:=uc2 BA 0 1
  go_wp2_with fail
  refine (ST1.o _).mono ?_
  rintro e w4 ⟨rfl,rfl⟩
  go_wp2_with fail
  refine (ST2.o _).mono ?_
  rintro e w4 ⟨rfl,rfl⟩
  clear cA0 cA1
  obtain ⟨w5,yw5,BD,yk5⟩:=nB w3 (sN x1 x2 o) 24
  obtain ⟨FR,BA,BC⟩:=uz3 yk5 FR BA BC
  clear yk5
  have cD:=fun i=>BD.o.cell i
  go_wp2_with (refine lG BD.o ?_)
  clear yw5 cD
  refine qM (R3.o _) fun w6 hb=>?_
  obtain ⟨FR,BC,BD⟩:=uz3 hb FR BC BD
  clear hb
  have fC:=fun i=>BC.o.frozen i
  have cC:=fun i=>BC.o.cell i
  go_wp2_with fail
  refine ret_cell_tmp rfl (((BC.o.set_ 0 _).set_ 1 _).set_ 2 _) rfl underlying24 kM rfl ⟨?_,?_⟩
  ·rw [R.o];rfl
  ·exact (((FR.o.set ⟨w1.heap.size,0,none⟩ _ lt0).set ⟨w1.heap.size,1,none⟩ _ lt0).set ⟨w1.heap.size,2,none⟩ _ lt0).out
 have t4:((y:Int) == 0)=false:=by simp;omega
 have R:=zH (show r=((x1,x2,o),0) by rw [V.o,if_neg c1,if_neg (fun h=>h c2),if_neg (fun h=>h c3),if_neg c4])
 clear c1 c2 c3 c4 V
 go_in
 go_wp2_with (refine lG BA.o ?_)
 clear yw1 yw2 cA
 refine qM (RI.o _) fun w3 hb=>?_
 obtain ⟨FR,BA,BC⟩:=uz3 hb FR BA BC
 clear hb
 obtain ⟨cA0,cA1⟩:=uc2 BA 0 1
 go_wp2_with fail
 refine (ST1.o _).mono ?_
 rintro e w4 ⟨rfl,rfl⟩
 go_wp2_with fail
 refine (ST2.o _).mono ?_
 rintro e w4 ⟨rfl,rfl⟩
 clear cA0 cA1
 obtain ⟨w5,yw5,BD,yk5⟩:=nB w3 (sN x1 x2 o) 24
 obtain ⟨FR,BA,BC⟩:=uz3 yk5 FR BA BC
 clear yk5
 have cD:=fun i=>BD.o.cell i
 go_wp2_with (refine lG BD.o ?_)
 clear yw5 cD
 refine qM (R3.o _) fun w6 hb=>?_
 obtain ⟨FR,BC,BD⟩:=uz3 hb FR BC BD
 clear hb
 have fC:=fun i=>BC.o.frozen i
 have cC:=fun i=>BC.o.cell i
 go_wp2_with (refine lG BD.o ?_)
 refine ret_cell_tmp rfl (((BC.o.set_ 0 _).set_ 1 _).set_ 2 _) rfl underlying24 kM rfl ⟨?_,?_⟩
 ·rw [R.o];rfl
 ·exact (((FR.o.set ⟨w1.heap.size,0,none⟩ _ lt0).set ⟨w1.heap.size,1,none⟩ _ lt0).set ⟨w1.heap.size,2,none⟩ _ lt0).out
end Go.Proofs.YtmihnoagagbgaaaGreat
