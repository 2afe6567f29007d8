/- The document's Steps, counted (layer 4). -/
import Derived.Test.YtbecbfpoahhpnaaGreatJ00
import Derived.Laws.AppendOwnNone
import Derived.Sort.LotA
set_option linter.unusedVariables false
set_option linter.unusedSimpArgs false
set_option maxRecDepth 100000
set_option maxHeartbeats 16000000
namespace Go.Proofs.YtbecbfpoahhpnaaGreat
open Go.RowKit Go.ChangeShapes Go.WideShapes Tryz
theorem pB (n k s p:Int) (w:World):Calls prog 128 #[.int .i64 n,.int .i64 k,.int .i64 s,.int .i64 p] w fun e w'=>e=.returned (.tuple #[.int .i64 (aK n k s p).1,.int .i64 (aK n k s p).2])∧w=w':=by
 by_cases c:eE n k s p;rotate_left
 ·have R:=zH (pG c);by_cases r:n < 1
  ·have J:decide (n < 1)=true:=qT r;clear c r;go_in;go_wp2_with fail
   go_ret2
   exact ⟨by rw [R.o];rfl,rfl⟩
  have J:decide (n < 1)=false:=dF r;by_cases d:1024 < n
  ·have K:decide (1024 < n)=true:=qT d;clear c r d;go_in;go_wp2_with fail
   go_ret2
   exact ⟨by rw [R.o];rfl,rfl⟩
  have K:decide (1024 < n)=false:=dF d;by_cases l:k < 1
  ·have L:decide (k < 1)=true:=qT l;clear c r d l;go_in;go_wp2_with fail
   go_ret2
   exact ⟨by rw [R.o];rfl,rfl⟩
  have L:decide (k < 1)=false:=dF l;by_cases m:5 < k
  ·have t3:decide (5 < k)=true:=qT m;clear c r d l m;go_in;go_wp2_with fail
   go_ret2
   exact ⟨by rw [R.o];rfl,rfl⟩
  have t3:decide (5 < k)=false:=dF m;by_cases b:s < 1
  ·have M:decide (s < 1)=true:=qT b;clear c r d l m b;go_in;go_wp2_with fail
   go_ret2
   exact ⟨by rw [R.o];rfl,rfl⟩
  have M:decide (s < 1)=false:=dF b;by_cases x:4 < s
  ·have N:decide (4 < s)=true:=qT x;clear c r d l m b x;go_in;go_wp2_with fail
   go_ret2
   exact ⟨by rw [R.o];rfl,rfl⟩
  have N:decide (4 < s)=false:=dF x;by_cases z:p < 0
  ·have O:decide (p < 0)=true:=qT z;clear c r d l m b x z;go_in;go_wp2_with fail
   go_ret2
   exact ⟨by rw [R.o];rfl,rfl⟩
  have O:decide (p < 0)=false:=dF z;by_cases A:4 < p
  ·have P:decide (4 < p)=true:=qT A;clear c r d l m b x z A;go_in;go_wp2_with fail
   go_ret2
   exact ⟨by rw [R.o];rfl,rfl⟩
  have P:decide (4 < p)=false:=dF A;have T:decide (k≤p)=true:=by simp;unfold eE at c;omega
  clear c r d l m b x z A;go_in;go_wp2_with fail
  go_ret2
  exact ⟨by rw [R.o];rfl,rfl⟩
 have C:=zH c;unfold eE at c;have J:decide (n < 1)=false:=sO;have K:decide (1024 < n)=false:=sO;have L:decide (k < 1)=false:=sO;have t3:decide (5 < k)=false:=sO;have M:decide (s < 1)=false:=sO;have N:decide (4 < s)=false:=sO;have O:decide (p < 0)=false:=sO;have P:decide (4 < p)=false:=sO;have T:decide (k≤p)=false:=sO;have e0:IntKind.i64.wrap (-p)=-p:=wJ;have e1:IntKind.i64.wrap (n+p)=n+p:=wJ;obtain ⟨U,V,W,c4,X,Y,Z,c8,c9⟩:=c;have S:s=1 ∨ s=2 ∨ s=3 ∨ s=4:=oM;rcases S with rfl|rfl|rfl|rfl
 ·go_in;go_wp2;go_loopw [10,11] (fun v u wr=>∃ (j:Nat) (a:Int),(j:Int)≤1100∧u=.int .i64 a∧v=.int .i64 j∧Hid (a=-p+1*j∧(1*((j:Int) - 1)≤n+2*p - k ∨ j=0))∧w=wr) (fun _ u _=>(2000 - intOf u).toNat)
  case atStart=>exact ⟨0,-p,by omega,rfl,rfl,zH ⟨by simp,.inr rfl⟩,rfl⟩
  case round =>
   obtain ⟨j,a,H,rfl,rfl,f,rfl⟩:=hrel;obtain ⟨t,i⟩:=f.o;have E:IntKind.i64.wrap (a+k)=a+k:=wJ;have F:IntKind.i64.wrap (a+1)=a+1:=wJ;have G:IntKind.i64.wrap ((j:Int)+1)=(j:Int)+1:=wJ;by_cases g:a+k≤n+p
   ·have q:decide (a+k≤n+p)=true:=qT g;have y:=zH (show a+1=-p+1*((j+1:Nat):Int)∧(1*(((j+1:Nat):Int) - 1)≤n+2*p - k ∨ j+1=0) by omega);have B:(j:Int)+1≤1100:=oM;have D:a≤1100:=oM;clear i t;go_wp2;exact ⟨⟨j+1,a+1,by omega,rfl,by simp,y,by trivial⟩,by simp [intOf];omega⟩
   ·have q:decide (a+k≤n+p)=false:=dF g;by_cases h:j=0
    ·subst h;have R:=zH (iU C.o oM);clear i t g;go_wp2_with fail
     go_ret2
     exact ⟨by rw [R.o];rfl,rfl⟩
    ·have I:((j:Int) == 0)=false:=by simp;exact h
     obtain ⟨R,Q⟩:=zh2 (ig C.o oM) (show (n+2*p - k).tdiv 1+1=j by rw [Int.tdiv_eq_ediv_of_nonneg oM];omega);clear i h t g;go_wp2_with fail
     go_ret2
     exact ⟨by rw [R.o,Q.o];rfl,rfl⟩
 ·go_in;go_wp2;go_loopw [10,11] (fun v u wr=>∃ (j:Nat) (a:Int),(j:Int)≤1100∧u=.int .i64 a∧v=.int .i64 j∧Hid (a=-p+2*j∧(2*((j:Int) - 1)≤n+2*p - k ∨ j=0))∧w=wr) (fun _ u _=>(2000 - intOf u).toNat)
  case atStart=>exact ⟨0,-p,by omega,rfl,rfl,zH ⟨by simp,.inr rfl⟩,rfl⟩
  case round =>
   obtain ⟨j,a,H,rfl,rfl,f,rfl⟩:=hrel;obtain ⟨t,i⟩:=f.o;have E:IntKind.i64.wrap (a+k)=a+k:=wJ;have F:IntKind.i64.wrap (a+2)=a+2:=wJ;have G:IntKind.i64.wrap ((j:Int)+1)=(j:Int)+1:=wJ;by_cases g:a+k≤n+p
   ·have q:decide (a+k≤n+p)=true:=qT g;have y:=zH (show a+2=-p+2*((j+1:Nat):Int)∧(2*(((j+1:Nat):Int) - 1)≤n+2*p - k ∨ j+1=0) by omega);have B:(j:Int)+1≤1100:=oM;have D:a≤1100:=oM;clear i t;go_wp2;exact ⟨⟨j+1,a+2,by omega,rfl,by simp,y,by trivial⟩,by simp [intOf];omega⟩
   ·have q:decide (a+k≤n+p)=false:=dF g;by_cases h:j=0
    ·subst h;have R:=zH (iU C.o oM);clear i t g;go_wp2_with fail
     go_ret2
     exact ⟨by rw [R.o];rfl,rfl⟩
    ·have I:((j:Int) == 0)=false:=by simp;exact h
     obtain ⟨R,Q⟩:=zh2 (ig C.o oM) (show (n+2*p - k).tdiv 2+1=j by rw [Int.tdiv_eq_ediv_of_nonneg oM];omega);clear i h t g;go_wp2_with fail
     go_ret2
     exact ⟨by rw [R.o,Q.o];rfl,rfl⟩
 ·go_in;go_wp2;go_loopw [10,11] (fun v u wr=>∃ (j:Nat) (a:Int),(j:Int)≤1100∧u=.int .i64 a∧v=.int .i64 j∧Hid (a=-p+3*j∧(3*((j:Int) - 1)≤n+2*p - k ∨ j=0))∧w=wr) (fun _ u _=>(2000 - intOf u).toNat)
  case atStart=>exact ⟨0,-p,by omega,rfl,rfl,zH ⟨by simp,.inr rfl⟩,rfl⟩
  case round =>
   obtain ⟨j,a,H,rfl,rfl,f,rfl⟩:=hrel;obtain ⟨t,i⟩:=f.o;have E:IntKind.i64.wrap (a+k)=a+k:=wJ;have F:IntKind.i64.wrap (a+3)=a+3:=wJ;have G:IntKind.i64.wrap ((j:Int)+1)=(j:Int)+1:=wJ;by_cases g:a+k≤n+p
   ·have q:decide (a+k≤n+p)=true:=qT g;have y:=zH (show a+3=-p+3*((j+1:Nat):Int)∧(3*(((j+1:Nat):Int) - 1)≤n+2*p - k ∨ j+1=0) by omega);have B:(j:Int)+1≤1100:=oM;have D:a≤1100:=oM;clear i t;go_wp2;exact ⟨⟨j+1,a+3,by omega,rfl,by simp,y,by trivial⟩,by simp [intOf];omega⟩
   ·have q:decide (a+k≤n+p)=false:=dF g;by_cases h:j=0
    ·subst h;have R:=zH (iU C.o oM);clear i t g;go_wp2_with fail
     go_ret2
     exact ⟨by rw [R.o];rfl,rfl⟩
    ·have I:((j:Int) == 0)=false:=by simp;exact h
     obtain ⟨R,Q⟩:=zh2 (ig C.o oM) (show (n+2*p - k).tdiv 3+1=j by rw [Int.tdiv_eq_ediv_of_nonneg oM];omega);clear i h t g;go_wp2_with fail
     go_ret2
     exact ⟨by rw [R.o,Q.o];rfl,rfl⟩
 ·go_in;go_wp2;go_loopw [10,11] (fun v u wr=>∃ (j:Nat) (a:Int),(j:Int)≤1100∧u=.int .i64 a∧v=.int .i64 j∧Hid (a=-p+4*j∧(4*((j:Int) - 1)≤n+2*p - k ∨ j=0))∧w=wr) (fun _ u _=>(2000 - intOf u).toNat)
  case atStart=>exact ⟨0,-p,by omega,rfl,rfl,zH ⟨by simp,.inr rfl⟩,rfl⟩
  case round =>
   obtain ⟨j,a,H,rfl,rfl,f,rfl⟩:=hrel;obtain ⟨t,i⟩:=f.o;have E:IntKind.i64.wrap (a+k)=a+k:=wJ;have F:IntKind.i64.wrap (a+4)=a+4:=wJ;have G:IntKind.i64.wrap ((j:Int)+1)=(j:Int)+1:=wJ;by_cases g:a+k≤n+p
   ·have q:decide (a+k≤n+p)=true:=qT g;have y:=zH (show a+4=-p+4*((j+1:Nat):Int)∧(4*(((j+1:Nat):Int) - 1)≤n+2*p - k ∨ j+1=0) by omega);have B:(j:Int)+1≤1100:=oM;have D:a≤1100:=oM;clear i t;go_wp2;exact ⟨⟨j+1,a+4,by omega,rfl,by simp,y,by trivial⟩,by simp [intOf];omega⟩
   ·have q:decide (a+k≤n+p)=false:=dF g;by_cases h:j=0
    ·subst h;have R:=zH (iU C.o oM);clear i t g;go_wp2_with fail
     go_ret2
     exact ⟨by rw [R.o];rfl,rfl⟩
    ·have I:((j:Int) == 0)=false:=by simp;exact h
     obtain ⟨R,Q⟩:=zh2 (ig C.o oM) (show (n+2*p - k).tdiv 4+1=j by rw [Int.tdiv_eq_ediv_of_nonneg oM];omega);clear i h t g;go_wp2_with fail
     go_ret2
     exact ⟨by rw [R.o,Q.o];rfl,rfl⟩
abbrev ShE:=(Int × Int × Int) × Int
def aY (x:ShE):Ending:=.returned (.tuple #[.agg (sN x.1.1 x.1.2.1 x.1.2.2),.int .i64 x.2])
def noS (e:Int):ShE:=((0,0,0),e)
theorem jZ (n k s p:Int):0≤(aK n k s p).1∧(aK n k s p).1≤2001:=by
 unfold aK;split
 ·rename_i c;unfold eE at c;split
  ·simp
  ·have e:0≤(n+2*p - k).tdiv s:=by rw [Int.tdiv_eq_ediv_of_nonneg oM];exact Int.ediv_nonneg oM oM
   have t:(n+2*p - k).tdiv s≤2000:=by rw [Int.tdiv_eq_ediv_of_nonneg oM];exact Int.le_trans (Int.ediv_le_self _ oM) oM
   simp only;omega
 ·simp
def aH (h v c k s p o:Int):ShE :=
 if ag h v c=0 then noS 5 else if (aK h k s p).2 ≠ 0 then noS (aK h k s p).2 else if (aK v k s p).2 ≠ 0 then noS (aK v k s p).2
 else if ag (aK h k s p).1 (aK v k s p).1 o=0 then noS 5 else (((aK h k s p).1,(aK v k s p).1,o),0)
theorem fG (h v c k s p o:Int) (w:World) (h0:InK .i64 h) (h1:InK .i64 v) (h2:InK .i64 c) (h3:InK .i64 o) :
  Calls prog 142 #[.agg (sN h v c),.int .i64 k,.int .i64 s,.int .i64 p,.int .i64 o] w fun e w'=>e=aY (aH h v c k s p o)∧Below w w w':=by
 have H:=zH (fun w=>aV h c v w h0 h1 h2);obtain ⟨r,X⟩:∃ r,aH h v c k s p o=r:=⟨_,rfl⟩;rw [X];unfold aH at X;have V:=zH X.symm;clear X;obtain ⟨b,j⟩:=zh2 (fun w=>rt h k s p w) (fun w=>rt v k s p w);have L:=jZ h k s p;have M:=jZ v k s p;have HO:=zH h3;clear h0 h1 h2 h3;obtain ⟨m,hm⟩:∃ m,ag h v c=m:=⟨_,rfl⟩;have m0:=(aF h v c).1;obtain ⟨⟨J,T⟩,O⟩:∃ x,aK h k s p=x:=⟨_,rfl⟩;obtain ⟨⟨K,U⟩,P⟩:∃ x,aK v k s p=x:=⟨_,rfl⟩;rw [hm] at H V m0;rw [O] at V b L;rw [P] at V j M;simp only at V b j L M;clear hm O P;have Y:=zH (fun w=>aV J o K w (by rw [ai];omega) (by rw [ai];omega) HO.o);have y0:=(aF J K o).1;obtain ⟨y,hy⟩:∃ y,ag J K o=y:=⟨_,rfl⟩;rw [hy] at V Y y0;clear hy;have n:=zW w;obtain ⟨f,w2,g,B,_,_,d,t,Q⟩:=bk2 w (sN h v c) 23 (sN 0 0 0) 23;replace n:=zF Q n;clear Q;have a:w.heap.size≤f.heap.size:=by rw [← g];simp
 have N:=fun i=>d.o.cell i;by_cases D:m=0
 ·have t1:decide (0 < m)=false:=sO;have R:=zH (show r=noS 5 by rw [V.o,if_pos D]);clear D V;go_in
  go_wp2_with (refine lG d.o ?_)
  clear g B N;refine qM (H.o _) fun I l=>?_;obtain ⟨n,d,t⟩:=uz3 l n d t;clear l;have W:=fun i=>t.o.frozen i;have S:=fun i=>t.o.cell i;go_wp2_with fail;refine ret_cell_tmp rfl (((t.o.set_ 0 _).set_ 1 _).set_ 2 _) rfl underlying23 kM rfl ⟨?_,?_⟩
  ·rw [R.o];rfl
  ·exact (((n.o.set ⟨f.heap.size,0,none⟩ _ a).set ⟨f.heap.size,1,none⟩ _ a).set ⟨f.heap.size,2,none⟩ _ a).out
 have t1:decide (0 < m)=true:=sO;by_cases E:T=0;rotate_left
 ·have t2:(T != 0)=true:=by simp;exact E
  have R:=zH (show r=noS T by rw [V.o,if_neg D,if_pos E]);clear D E V;go_in
  go_wp2_with (refine lG d.o ?_)
  clear g B N;refine qM (H.o _) fun I l=>?_;obtain ⟨n,d,t⟩:=uz3 l n d t;clear l;obtain ⟨q,z⟩:=uc2 d 0 1;go_wp2_with fail;refine (b.o _).mono ?_;rintro e w4 ⟨rfl,rfl⟩;have W:=fun i=>t.o.frozen i;have S:=fun i=>t.o.cell i;go_wp2_with fail;refine ret_cell_tmp rfl (((t.o.set_ 0 _).set_ 1 _).set_ 2 _) rfl underlying23 kM rfl ⟨?_,?_⟩
  ·rw [R.o];rfl
  ·exact (((n.o.set ⟨f.heap.size,0,none⟩ _ a).set ⟨f.heap.size,1,none⟩ _ a).set ⟨f.heap.size,2,none⟩ _ a).out
 have t2:(T != 0)=false:=by simp;exact E
 by_cases F:U=0;rotate_left
 ·have t3:(U != 0)=true:=by simp;exact F
  have R:=zH (show r=noS U by rw [V.o,if_neg D,if_neg (fun h=>h E),if_pos F]);clear D E F V;go_in
  go_wp2_with (refine lG d.o ?_)
  clear g B N;refine qM (H.o _) fun I l=>?_;obtain ⟨n,d,t⟩:=uz3 l n d t;clear l;obtain ⟨q,z⟩:=uc2 d 0 1;go_wp2_with fail;refine (b.o _).mono ?_;rintro e w4 ⟨rfl,rfl⟩;go_wp2_with fail;refine (j.o _).mono ?_;rintro e w4 ⟨rfl,rfl⟩;have W:=fun i=>t.o.frozen i;have S:=fun i=>t.o.cell i;go_wp2_with fail;refine ret_cell_tmp rfl (((t.o.set_ 0 _).set_ 1 _).set_ 2 _) rfl underlying23 kM rfl ⟨?_,?_⟩
  ·rw [R.o];rfl
  ·exact (((n.o.set ⟨f.heap.size,0,none⟩ _ a).set ⟨f.heap.size,1,none⟩ _ a).set ⟨f.heap.size,2,none⟩ _ a).out
 have t3:(U != 0)=false:=by simp;exact F
 by_cases c4:y=0
 ·have t4:decide (0 < y)=false:=sO;have R:=zH (show r=noS 5 by rw [V.o,if_neg D,if_neg (fun h=>h E),if_neg (fun h=>h F),if_pos c4]);clear D E F c4 V;go_in
  go_wp2_with (refine lG d.o ?_)
  clear g B N;refine qM (H.o _) fun I l=>?_;obtain ⟨n,d,t⟩:=uz3 l n d t;clear l;obtain ⟨q,z⟩:=uc2 d 0 1;go_wp2_with fail;refine (b.o _).mono ?_;rintro e w4 ⟨rfl,rfl⟩;go_wp2_with fail;refine (j.o _).mono ?_;rintro e w4 ⟨rfl,rfl⟩;clear q z;obtain ⟨w5,G,C,A⟩:=nB I (sN J K o) 23;obtain ⟨n,d,t⟩:=uz3 A n d t;clear A;have Z:=fun i=>C.o.cell i
  go_wp2_with (refine lG C.o ?_)
  clear G Z;refine qM (Y.o _) fun w6 l=>?_;obtain ⟨n,t,C⟩:=uz3 l n t C;clear l;have W:=fun i=>t.o.frozen i;have S:=fun i=>t.o.cell i;go_wp2_with fail;refine ret_cell_tmp rfl (((t.o.set_ 0 _).set_ 1 _).set_ 2 _) rfl underlying23 kM rfl ⟨?_,?_⟩
  ·rw [R.o];rfl
  ·exact (((n.o.set ⟨f.heap.size,0,none⟩ _ a).set ⟨f.heap.size,1,none⟩ _ a).set ⟨f.heap.size,2,none⟩ _ a).out
 have t4:decide (0 < y)=true:=sO;have R:=zH (show r=((J,K,o),0) by rw [V.o,if_neg D,if_neg (fun h=>h E),if_neg (fun h=>h F),if_neg c4]);clear D E F c4 V;go_in
 go_wp2_with (refine lG d.o ?_)
 clear g B N;refine qM (H.o _) fun I l=>?_;obtain ⟨n,d,t⟩:=uz3 l n d t;clear l;obtain ⟨q,z⟩:=uc2 d 0 1;go_wp2_with fail;refine (b.o _).mono ?_;rintro e w4 ⟨rfl,rfl⟩;go_wp2_with fail;refine (j.o _).mono ?_;rintro e w4 ⟨rfl,rfl⟩;clear q z;obtain ⟨w5,G,C,A⟩:=nB I (sN J K o) 23;obtain ⟨n,d,t⟩:=uz3 A n d t;clear A;have Z:=fun i=>C.o.cell i
 go_wp2_with (refine lG C.o ?_)
 clear G Z;refine qM (Y.o _) fun w6 l=>?_;obtain ⟨n,t,C⟩:=uz3 l n t C;clear l;have W:=fun i=>t.o.frozen i;have S:=fun i=>t.o.cell i
 go_wp2_with (refine lG C.o ?_)
 refine ret_cell_tmp rfl (((t.o.set_ 0 _).set_ 1 _).set_ 2 _) rfl underlying23 kM rfl ⟨?_,?_⟩
 ·rw [R.o];rfl
 ·exact (((n.o.set ⟨f.heap.size,0,none⟩ _ a).set ⟨f.heap.size,1,none⟩ _ a).set ⟨f.heap.size,2,none⟩ _ a).out
theorem jk (h v c k s p o:Int) (w:World) (h0:InK .i64 h) (h1:InK .i64 v) (h2:InK .i64 c) (h3:InK .i64 o) :
  Calls prog 102 #[.agg (sN h v c),.int .i64 k,.int .i64 s,.int .i64 p,.int .i64 o] w fun e w'=>e=aY (aH h v c k s p o)∧Below w w w':=by
 have H:=zH (fun w=>bX h c v w h0 h1 h2);obtain ⟨r,X⟩:∃ r,aH h v c k s p o=r:=⟨_,rfl⟩;rw [X];unfold aH at X;have V:=zH X.symm;clear X;obtain ⟨b,j⟩:=zh2 (fun w=>pB h k s p w) (fun w=>pB v k s p w);have L:=jZ h k s p;have M:=jZ v k s p;have HO:=zH h3;clear h0 h1 h2 h3;obtain ⟨m,hm⟩:∃ m,ag h v c=m:=⟨_,rfl⟩;have m0:=(aF h v c).1;obtain ⟨⟨J,T⟩,O⟩:∃ x,aK h k s p=x:=⟨_,rfl⟩;obtain ⟨⟨K,U⟩,P⟩:∃ x,aK v k s p=x:=⟨_,rfl⟩;rw [hm] at H V m0;rw [O] at V b L;rw [P] at V j M;simp only at V b j L M;clear hm O P;have Y:=zH (fun w=>bX J o K w (by rw [ai];omega) (by rw [ai];omega) HO.o);have y0:=(aF J K o).1;obtain ⟨y,hy⟩:∃ y,ag J K o=y:=⟨_,rfl⟩;rw [hy] at V Y y0;clear hy;have n:=zW w;obtain ⟨f,w2,g,B,_,_,d,t,Q⟩:=bk2 w (sN h v c) 23 (sN 0 0 0) 23;replace n:=zF Q n;clear Q;have a:w.heap.size≤f.heap.size:=by rw [← g];simp
 have N:=fun i=>d.o.cell i;by_cases D:m=0
 ·have t1:((m:Int) == 0)=true:=sO;have R:=zH (show r=noS 5 by rw [V.o,if_pos D]);clear D V;go_in
  go_wp2_with (refine lG d.o ?_)
  clear g B N;refine qM (H.o _) fun I l=>?_;obtain ⟨n,d,t⟩:=uz3 l n d t;clear l;have W:=fun i=>t.o.frozen i;have S:=fun i=>t.o.cell i;go_wp2_with fail;refine ret_cell_tmp rfl (((t.o.set_ 0 _).set_ 1 _).set_ 2 _) rfl underlying23 kM rfl ⟨?_,?_⟩
  ·rw [R.o];rfl
  ·exact (((n.o.set ⟨f.heap.size,0,none⟩ _ a).set ⟨f.heap.size,1,none⟩ _ a).set ⟨f.heap.size,2,none⟩ _ a).out
 have t1:((m:Int) == 0)=false:=sO;by_cases E:T=0;rotate_left
 ·have t2:(T != 0)=true:=by simp;exact E
  have R:=zH (show r=noS T by rw [V.o,if_neg D,if_pos E]);clear D E V;go_in
  go_wp2_with (refine lG d.o ?_)
  clear g B N;refine qM (H.o _) fun I l=>?_;obtain ⟨n,d,t⟩:=uz3 l n d t;clear l;obtain ⟨q,z⟩:=uc2 d 0 1;go_wp2_with fail;refine (b.o _).mono ?_;rintro e w4 ⟨rfl,rfl⟩;have W:=fun i=>t.o.frozen i;have S:=fun i=>t.o.cell i;go_wp2_with fail;refine ret_cell_tmp rfl (((t.o.set_ 0 _).set_ 1 _).set_ 2 _) rfl underlying23 kM rfl ⟨?_,?_⟩
  ·rw [R.o];rfl
  ·exact (((n.o.set ⟨f.heap.size,0,none⟩ _ a).set ⟨f.heap.size,1,none⟩ _ a).set ⟨f.heap.size,2,none⟩ _ a).out
 have t2:(T != 0)=false:=by simp;exact E
 by_cases F:U=0;rotate_left
 ·have t3:(U != 0)=true:=by simp;exact F
  have R:=zH (show r=noS U by rw [V.o,if_neg D,if_neg (fun h=>h E),if_pos F]);clear D E F V;go_in
  go_wp2_with (refine lG d.o ?_)
  clear g B N;refine qM (H.o _) fun I l=>?_;obtain ⟨n,d,t⟩:=uz3 l n d t;clear l;obtain ⟨q,z⟩:=uc2 d 0 1;go_wp2_with fail;refine (b.o _).mono ?_;rintro e w4 ⟨rfl,rfl⟩;go_wp2_with fail;refine (j.o _).mono ?_;rintro e w4 ⟨rfl,rfl⟩;have W:=fun i=>t.o.frozen i;have S:=fun i=>t.o.cell i;go_wp2_with fail;refine ret_cell_tmp rfl (((t.o.set_ 0 _).set_ 1 _).set_ 2 _) rfl underlying23 kM rfl ⟨?_,?_⟩
  ·rw [R.o];rfl
  ·exact (((n.o.set ⟨f.heap.size,0,none⟩ _ a).set ⟨f.heap.size,1,none⟩ _ a).set ⟨f.heap.size,2,none⟩ _ a).out
 have t3:(U != 0)=false:=by simp;exact F
 by_cases c4:y=0
 ·have t4:((y:Int) == 0)=true:=sO;have R:=zH (show r=noS 5 by rw [V.o,if_neg D,if_neg (fun h=>h E),if_neg (fun h=>h F),if_pos c4]);clear D E F c4 V;go_in
  go_wp2_with (refine lG d.o ?_)
  clear g B N;refine qM (H.o _) fun I l=>?_;obtain ⟨n,d,t⟩:=uz3 l n d t;clear l;obtain ⟨q,z⟩:=uc2 d 0 1;go_wp2_with fail;refine (b.o _).mono ?_;rintro e w4 ⟨rfl,rfl⟩;go_wp2_with fail;refine (j.o _).mono ?_;rintro e w4 ⟨rfl,rfl⟩;clear q z;obtain ⟨w5,G,C,A⟩:=nB I (sN J K o) 23;obtain ⟨n,d,t⟩:=uz3 A n d t;clear A;have Z:=fun i=>C.o.cell i
  go_wp2_with (refine lG C.o ?_)
  clear G Z;refine qM (Y.o _) fun w6 l=>?_;obtain ⟨n,t,C⟩:=uz3 l n t C;clear l;have W:=fun i=>t.o.frozen i;have S:=fun i=>t.o.cell i;go_wp2_with fail;refine ret_cell_tmp rfl (((t.o.set_ 0 _).set_ 1 _).set_ 2 _) rfl underlying23 kM rfl ⟨?_,?_⟩
  ·rw [R.o];rfl
  ·exact (((n.o.set ⟨f.heap.size,0,none⟩ _ a).set ⟨f.heap.size,1,none⟩ _ a).set ⟨f.heap.size,2,none⟩ _ a).out
 have t4:((y:Int) == 0)=false:=sO;have R:=zH (show r=((J,K,o),0) by rw [V.o,if_neg D,if_neg (fun h=>h E),if_neg (fun h=>h F),if_neg c4]);clear D E F c4 V;go_in
 go_wp2_with (refine lG d.o ?_)
 clear g B N;refine qM (H.o _) fun I l=>?_;obtain ⟨n,d,t⟩:=uz3 l n d t;clear l;obtain ⟨q,z⟩:=uc2 d 0 1;go_wp2_with fail;refine (b.o _).mono ?_;rintro e w4 ⟨rfl,rfl⟩;go_wp2_with fail;refine (j.o _).mono ?_;rintro e w4 ⟨rfl,rfl⟩;clear q z;obtain ⟨w5,G,C,A⟩:=nB I (sN J K o) 23;obtain ⟨n,d,t⟩:=uz3 A n d t;clear A;have Z:=fun i=>C.o.cell i
 go_wp2_with (refine lG C.o ?_)
 clear G Z;refine qM (Y.o _) fun w6 l=>?_;obtain ⟨n,t,C⟩:=uz3 l n t C;clear l;have W:=fun i=>t.o.frozen i;have S:=fun i=>t.o.cell i
 go_wp2_with (refine lG C.o ?_)
 refine ret_cell_tmp rfl (((t.o.set_ 0 _).set_ 1 _).set_ 2 _) rfl underlying23 kM rfl ⟨?_,?_⟩
 ·rw [R.o];rfl
 ·exact (((n.o.set ⟨f.heap.size,0,none⟩ _ a).set ⟨f.heap.size,1,none⟩ _ a).set ⟨f.heap.size,2,none⟩ _ a).out
theorem Sl.inAll {k:IntKind} {w:World} {S:Nat → Prop} {A:QA} {n e:Nat} {l:List Int} (h:Sl (ab k) w S A n e l):∀ x ∈ l,InK k x:=by
 intro x a;obtain ⟨j,t,rfl⟩:=List.getElem_of_mem a;have:=h.allK j;rwa [gD,List.getElem?_eq_getElem t] at this
section
variable {P:Program} {ops:Array Oper} {rest:List Oper} {o:Oper} {a:Act} {Q:Exit → Act → World → Prop} {T E:TypeId} {z:Value} {bytes base n m c:Nat} {v:Value} {k:IntKind} {l l2:List Int} {A:QA} {S:Nat → Prop}
theorem fu {W:World} (q:o.guard=none) (s x:Operand) (L:o.op=.call { callee:=.builtin .append,args:=#[s,x],argTypes:=#[T,T] }) (p:EI P T E z 1 bytes)
  (M:a.eval s=v) (D:Own (ab k) W (fun _=>False) base E v n l) (N:a.eval x=.slice A m c) (sl:Sl (ab k) W S A m c l2)
  (F:n+m≤maxLen) (e:(n+m)*bytes≤140737488355328) (t:base≤W.heap.size)
  (h:∀ w w',Own (ab k) w' (fun _=>False) base E w (n+m) (l ++ l2) → W.grownBy w' v.ownBlock → (w.ownBlock=v.ownBlock ∨ w.ownBlock=some W.heap.size) → wpList P ops Q rest (a.put o.dst w) w') :
  wpList P ops Q (o :: rest) a W:=by
 obtain ⟨i,hi,G,H,I⟩:=info_parts p.hi;obtain ⟨vs,J,O⟩:=D.out;have B:=sl.n_eq;cases A with
 | none =>
  have X:=sl.nil_ rfl;have hm:=sl.cap_le;obtain rfl:c=0:=X;obtain rfl:m=0:=oM;obtain rfl:l2=[]:=List.length_eq_zero_iff.1 B;refine wpList_append_own_none q s x T L base E i 1 p.ht hi v n vs M J N ?_;refine h v W ?_ ⟨rfl,rfl,rfl,lR _,fun _ _ _=>rfl⟩ (.inl rfl);rw [List.append_nil];exact D
 | some ad =>
  have d:∀ j u,(l2.map (Value.int k))[j]?=some u → W.cell? (ad.add j)=some u:=by
   intro j u f;rw [List.getElem?_map] at f;have Y:j < m:=by
    rcases Nat.lt_or_ge j m with h|h
    ·exact h
    ·rw [List.getElem?_eq_none oM] at f;cases f
   obtain ⟨b,off,R,_,_,r,_⟩:=sl.int_at j Y;cases R;have g:(⟨b,off,none⟩:Addr).add j=⟨b,off+j,none⟩:=by unfold Addr.add;split <;> simp_all
   rw [g,r,gD];rw [List.getElem?_eq_getElem oM] at f ⊢;simpa using f
  obtain ⟨w,w',C,k1,k2,_,Z⟩:=run_append_own_at (P:=P) W base T o.type E i z 1 bytes p.ht hi G H I p.hz p.hp v n vs J ad m c (l2.map (Value.int k))
   (by rw [List.length_map,B,Nat.mul_one]) d (by intro u f;obtain ⟨y,_,rfl⟩:=List.mem_map.1 f;rfl) F e t
  refine wpList_plain q fun K U=>?_;unfold Oper.wp execOp;simp only [L,resolve,invoke,builtin,Sem.run_bind,Sem.run_pure,Result.andThen_ok,List.map_toArray,List.map_cons,List.map_nil,M,N,C];refine U _ _ (h w w' ⟨vs ++ l2.map (Value.int k),k1,?_⟩ k2 Z);exact (O.keep fun b V=>V.elim).append (RowsOf.ints sl.inAll)
end
open Go
theorem uo {P:Program} {t e:TypeId} {k:IntKind} (w:World) (A:P.underlying t=some (.array 4 e)) (z:P.underlying e=some (.int k)) (q:(P.info? e).map (·.size)=some 1) (B:P.plainKey e=true) (n s r d l c m f:Int) :
  (Op.equalIn 10000 t (.agg #[.int k n,.int k s,.int k r,.int k d]) (.agg #[.int k l,.int k c,.int k m,.int k f])).run P w=.ok ([n,s,r,d] == [l,c,m,f]) w:=by
 have p:(Go.sizeOf e).run P w=.ok 1 w:=by
  cases o:P.info? e with
  | none=>simp [o] at q
  | some i =>
   have:i.size=1:=by simpa [o] using q
   simp [Go.sizeOf,typeInfo,o,this]
 have a:∀ (xs:Array Value) (off:Nat),off < xs.size → (part e xs off).run P w=.ok xs[off]! w:=fun xs off h=>run_part_plain (w:=w) B (by simp [h]);have o:∀ x y:Int,(Op.equalIn 9999 e (.int k x) (.int k y)).run P w=.ok (x == y) w:=fun x y=>by
  show (Op.equalIn (9998+1) e _ _).run P w=_;exact run_equalIn_int w 9998 e k k x y z
 show (Op.equalIn (9999+1) t _ _).run P w=_;unfold Op.equalIn;simp only [Sem.run_bind,run_underlying A w,Result.andThen_ok];simp [Std.Legacy.Range.forIn_eq_forIn_range',Std.Legacy.Range.size,List.range',Sem.run_bind,a,o,p];by_cases v:n=l;rotate_left
 ·simp [v]
 subst v;try simp
 by_cases b:s=c;rotate_left
 ·simp [b]
 subst b;try simp
 by_cases g:r=m;rotate_left
 ·simp [g]
 subst g;try simp
 by_cases j:d=f;rotate_left
 ·simp [j]
 subst j;try simp
theorem uq {P:Program} {t e:TypeId} {k:IntKind} (w:World) (M:P.underlying t=some (.array 8 e)) (L:P.underlying e=some (.int k)) (K:(P.info? e).map (·.size)=some 1) (N:P.plainKey e=true) (n s r d l c m f p v b g j q z A:Int) :
  (Op.equalIn 10000 t (.agg #[.int k n,.int k s,.int k r,.int k d,.int k l,.int k c,.int k m,.int k f]) (.agg #[.int k p,.int k v,.int k b,.int k g,.int k j,.int k q,.int k z,.int k A])).run P w=.ok ([n,s,r,d,l,c,m,f] == [p,v,b,g,j,q,z,A]) w:=by
 have B:(Go.sizeOf e).run P w=.ok 1 w:=by
  cases o:P.info? e with
  | none=>simp [o] at K
  | some i =>
   have:i.size=1:=by simpa [o] using K
   simp [Go.sizeOf,typeInfo,o,this]
 have a:∀ (xs:Array Value) (off:Nat),off < xs.size → (part e xs off).run P w=.ok xs[off]! w:=fun xs off h=>run_part_plain (w:=w) N (by simp [h]);have o:∀ x y:Int,(Op.equalIn 9999 e (.int k x) (.int k y)).run P w=.ok (x == y) w:=fun x y=>by
  show (Op.equalIn (9998+1) e _ _).run P w=_;exact run_equalIn_int w 9998 e k k x y L
 show (Op.equalIn (9999+1) t _ _).run P w=_;unfold Op.equalIn;simp only [Sem.run_bind,run_underlying M w,Result.andThen_ok];simp [Std.Legacy.Range.forIn_eq_forIn_range',Std.Legacy.Range.size,List.range',Sem.run_bind,a,o,B];by_cases C:n=p;rotate_left
 ·simp [C]
 subst C;try simp
 by_cases D:s=v;rotate_left
 ·simp [D]
 subst D;try simp
 by_cases E:r=b;rotate_left
 ·simp [E]
 subst E;try simp
 by_cases F:d=g;rotate_left
 ·simp [F]
 subst F;try simp
 by_cases G:l=j;rotate_left
 ·simp [G]
 subst G;try simp
 by_cases H:c=q;rotate_left
 ·simp [H]
 subst H;try simp
 by_cases I:m=z;rotate_left
 ·simp [I]
 subst I;try simp
 by_cases J:f=A;rotate_left
 ·simp [J]
 subst J;try simp
theorem gg {P : Program} {t : TypeId} {f0 f1 f2 : Field} {k0 k1 k2 : IntKind} (w : World) (hT : P.underlying t = some (.struct #[f0, f1, f2])) (hst : P.stoodInHeld t = false) (hn : f0.name ≠ "_" ∧ f1.name ≠ "_" ∧ f2.name ≠ "_") (ho : f0.offset = 0 ∧ f1.offset = 1 ∧ f2.offset = 2)
  (h0:P.underlying f0.type=some (.int k0)) (h1:P.underlying f1.type=some (.int k1)) (h2:P.underlying f2.type=some (.int k2)) (p0:P.plainKey f0.type=true) (p1:P.plainKey f1.type=true) (p2:P.plainKey f2.type=true) (a0 a1 a2 b0 b1 b2:Int) :
  (Op.equalIn 10000 t (.agg #[.int k0 a0,.int k1 a1,.int k2 a2]) (.agg #[.int k0 b0,.int k1 b1,.int k2 b2])).run P w=.ok ([a0,a1,a2] == [b0,b1,b2]) w:=by
 have q0:∀ (xs:Array Value) (off:Nat),off < xs.size → (part f0.type xs off).run P w=.ok xs[off]! w:=fun xs off h=>run_part_plain (w:=w) p0 (by simp [h]);have q1:∀ (xs:Array Value) (off:Nat),off < xs.size → (part f1.type xs off).run P w=.ok xs[off]! w:=fun xs off h=>run_part_plain (w:=w) p1 (by simp [h]);have q2:∀ (xs:Array Value) (off:Nat),off < xs.size → (part f2.type xs off).run P w=.ok xs[off]! w:=fun xs off h=>run_part_plain (w:=w) p2 (by simp [h]);have e0:∀ x y:Int,(Op.equalIn 9999 f0.type (.int k0 x) (.int k0 y)).run P w=.ok (x == y) w:=fun x y=>by
  show (Op.equalIn (9998+1) _ _ _).run P w=_;exact run_equalIn_int w 9998 f0.type k0 k0 x y h0
 have e1:∀ x y:Int,(Op.equalIn 9999 f1.type (.int k1 x) (.int k1 y)).run P w=.ok (x == y) w:=fun x y=>by
  show (Op.equalIn (9998+1) _ _ _).run P w=_;exact run_equalIn_int w 9998 f1.type k1 k1 x y h1
 have e2:∀ x y:Int,(Op.equalIn 9999 f2.type (.int k2 x) (.int k2 y)).run P w=.ok (x == y) w:=fun x y=>by
  show (Op.equalIn (9998+1) _ _ _).run P w=_;exact run_equalIn_int w 9998 f2.type k2 k2 x y h2
 show (Op.equalIn (9999+1) t _ _).run P w=_;unfold Op.equalIn;simp only [Sem.run_bind,run_underlying hT w,Result.andThen_ok];simp [Sem.run_bind,q0,q1,q2,e0,e1,e2,hst,hn.1,hn.2.1,hn.2.2,ho.1,ho.2.1,ho.2.2,run_program];by_cases h0:a0=b0;rotate_left
 ·simp [h0]
 subst h0;try simp
 by_cases h1:a1=b1;rotate_left
 ·simp [h1]
 subst h1;try simp
 by_cases h2:a2=b2;rotate_left
 ·simp [h2]
 subst h2;try simp
theorem dI {P:Program} {ops:Array Oper} {e:List Oper} {o:Oper} {a:Act} {w:World} {Q:Exit → Act → World → Prop} (t u:TypeId) (x y:Operand) (d:o.op=.binOp .eql t x y u) (xs n:Array Value) (c:a.eval x=.agg xs) (m:a.eval y=.agg n)
  (l:Region.wanted o (yielded ops a.tmps)=true) (r:P.eqGuardType P.depth t=false) (b:Bool) (i:(Op.equalIn 10000 t (.agg xs) (.agg n)).run P w=.ok b w) (h:wpList P ops Q e (a.put o.dst (.bool b)) w):wpList P ops Q (o :: e) a w:=by
 refine BigFrame.wpList_want l fun K s=>?_;unfold Oper.wp execOp;simp only [d,c,m,Sem.run_bind,fun w=>run_eqGuard_agg (P:=P) w .eql t x y xs n r,run_eql_struct,i,Result.andThen_ok,Sem.run_pure];exact s _ _ (by simpa using h)
theorem dJ {P:Program} {ops:Array Oper} {e:List Oper} {o:Oper} {a:Act} {w:World} {Q:Exit → Act → World → Prop} (t u:TypeId) (x y:Operand) (d:o.op=.binOp .neq t x y u) (xs n:Array Value) (c:a.eval x=.agg xs) (m:a.eval y=.agg n)
  (l:Region.wanted o (yielded ops a.tmps)=true) (r:P.eqGuardType P.depth t=false) (b:Bool) (i:(Op.equalIn 10000 t (.agg xs) (.agg n)).run P w=.ok b w) (h:wpList P ops Q e (a.put o.dst (.bool (!b))) w):wpList P ops Q (o :: e) a w:=by
 refine BigFrame.wpList_want l fun K s=>?_;unfold Oper.wp execOp;simp only [d,c,m,Sem.run_bind,fun w=>run_eqGuard_agg (P:=P) w .neq t x y xs n r,run_neq_struct,i,Result.andThen_ok,Sem.run_pure];exact s _ _ (by simpa using h)
theorem eD {h v c k s p o:Int} (e:(aH h v c k s p o).2=0):1≤k∧k≤5∧1≤o∧o≤1024∧1≤c∧c≤1024:=by
 unfold aH at e;by_cases a:ag h v c=0
 ·rw [if_pos a] at e;cases e
 rw [if_neg a] at e;by_cases t:(aK h k s p).2 ≠ 0
 ·rw [if_pos t] at e;exact absurd e t
 rw [if_neg t] at e;by_cases i:(aK v k s p).2 ≠ 0
 ·rw [if_pos i] at e;exact absurd e i
 rw [if_neg i] at e;by_cases c4:ag (aK h k s p).1 (aK v k s p).1 o=0
 ·rw [if_pos c4] at e;cases e
 rw [cO] at a c4;have n:1≤c∧c≤1024:=by
  split at a
  ·omega
  ·exact absurd rfl a
 have r:1≤o∧o≤1024:=by
  split at c4
  ·omega
  ·exact absurd rfl c4
 have d:1≤k∧k≤5:=by
  unfold aK at t;split at t
  ·rename_i q;unfold eE at q;omega
  ·exact absurd dM t
 omega
def gI (x:ShE) (want out:Int) (d:af):ShE:=if x.2 ≠ 0 then noS x.2 else if ¬ (d.w.length:Int)=want ∨ 16384 < d.w.length ∨ ¬ (d.bias.length:Int)=out then noS 9 else x
def bq (h v c:Int) (d:af):ShE:=gI (aH h v c d.k d.s d.p d.out) (d.out*d.k*d.k*c) d.out d
def bF (h v c:Int) (d:af):ShE:=gI (aH h v c d.k d.s d.p c) (c*d.k*d.k) c d
theorem et {a b:Int} {m n:Int} (t:0≤a) (o:a≤m) (e:0≤b) (i:b≤n) (s:0≤m):0≤a*b∧a*b≤m*n :=
 ⟨Int.mul_nonneg t e,Int.mul_le_mul o i e s⟩
def d9 (h v c:Int) (d:af):ShE:=if ag h v c=0 ∨ ag 1 1 d.out=0 then noS 5
 else if ¬ (d.w.length:Int)=d.out*ag h v c ∨ 16384 < d.w.length ∨ ¬ (d.bias.length:Int)=d.out then noS 9 else ((1,1,d.out),0)
def dt (h v c p:Int):ShE:=if p < 0 ∨ 4 < p then noS 2 else if ag (h+2*p) (v+2*p) c=0 then noS 5 else ((h+2*p,v+2*p,c),0)
def cG (k h v c h2 v2 c2 p:Int):ShE:=if ag h v c=0 then noS 5 else if k=6∧([h,v,c] == [h2,v2,c2])=false then noS 5
 else if k=8 then dt h v c p else if k=9 then ((1,1,ag h v c),0) else ((h,v,c),0)
def aE (h v c h2 v2 c2:Int) (d:af):ShE:=if d.kind=1 then bq h v c d else if d.kind=2 then bF h v c d else if d.kind=3 then d9 h v c d
 else if d.kind=4 ∨ d.kind=5 then aH h v c d.k d.s d.p c else cG d.kind h v c h2 v2 c2 d.p
theorem eX {h v c:Int} (e:¬ ag h v c=0):1≤h∧h≤16∧1≤v∧v≤16∧1≤c∧c≤1024:=by
 rw [cO] at e;split at e
 ·omega
 ·exact absurd rfl e
theorem ip (w:World) (h v c a o e:Int):(Op.equalIn 10000 23 (.agg (sN h v c)) (.agg (sN a o e))).run prog w=.ok ([h,v,c] == [a,o,e]) w :=
 gg (P:=prog) (t:=23) (k0:=.i64) (k1:=.i64) (k2:=.i64) w underlying23 kM dM ⟨rfl,rfl,rfl⟩ underlying3 underlying3 underlying3 kM kM kM h v c a o e
def fh (m:Nat) (s:Nat):Nat:=m / 2 ^ s+if s=0 then 0 else m / 2 ^ (s - 1) % 2
def dr (v s:Int):Int:=if s < 0 ∨ 62 < s then 0 else if v < 0 then -(fh v.natAbs s.toNat:Int) else (fh v.natAbs s.toNat:Int)
theorem lA (m s:Nat):fh m s≤m:=by
 unfold fh;split
 ·rename_i h;subst h;simp
 ·rename_i h;obtain ⟨k,rfl⟩:∃ k,s=k+1:=⟨s - 1,by omega⟩;rw [Nat.add_sub_cancel,Nat.pow_succ,← Nat.div_div_eq_div_mul];have:=Nat.div_le_self m (2 ^ k);omega
theorem Au (m k:Nat) (i:m < 18446744073709551616) (o:k < 63):bits .and .u64 (m:Int) ((2 ^ k:Nat):Int) / ((2:Int) ^ k)=((m / 2 ^ k % 2:Nat):Int):=by
 have n:2 ^ k < 18446744073709551616:=Nat.lt_of_lt_of_le (Nat.pow_lt_pow_right dM o) dM;rw [bits_and_u64_nat m (2 ^ k) i n];have:m &&& 2 ^ k=m / 2 ^ k % 2*2 ^ k:=by
  have e:=and_bit_var 64 m (k:Int) oM;rw [Int.toNat_natCast,Nat.min_eq_left oM,if_neg oM] at e;have t:((2:Int) ^ k % 2 ^ 64).toNat=2 ^ k:=by
   have a:((2:Int) ^ k)=((2 ^ k:Nat):Int):=by simp
   rw [a];generalize 2 ^ k=p at *;omega
  rw [t] at e;exact e
 rw [this,show ((2:Int) ^ k)=((2 ^ k:Nat):Int) by simp,← Int.natCast_ediv,Nat.mul_div_cancel _ (Nat.two_pow_pos k)]
theorem vW (m k:Nat) (o:m≤9223372036854775808) (e:k < 63):IntKind.u64.wrap ((m:Int) / 2 ^ (k+1)+bits BinOp.and IntKind.u64 (m:Int) (IntKind.u64.wrap (2 ^ k)) / 2 ^ k)=(fh m (k+1):Int):=by
 have i:2 ^ k < 18446744073709551616:=Nat.lt_of_lt_of_le (Nat.pow_lt_pow_right dM e) dM;have t:IntKind.u64.wrap (2 ^ k)=((2 ^ k:Nat):Int):=by
  rw [show ((2:Int) ^ k)=((2 ^ k:Nat):Int) by simp,IntKind.wrap_u64];generalize 2 ^ k=p at *;omega
 rw [t,Au m k oM e,show ((2:Int) ^ (k+1))=((2 ^ (k+1):Nat):Int) by simp,← Int.natCast_ediv,← Int.natCast_add];have a:m / 2 ^ (k+1)+m / 2 ^ k % 2=fh m (k+1):=by unfold fh;rw [if_neg oM,Nat.add_sub_cancel]
 have:=lA m (k+1);rw [a,IntKind.wrap_u64];omega
theorem zK (v s:Int) (w:World) (g:InK .i64 v):Calls prog 236 #[.int .i64 v,.int .i64 s] w fun e w'=>e=.returned (.int .i64 (dr v s))∧Below w w w':=by
 rw [ai] at g;obtain ⟨q,z⟩:=g;unfold dr;by_cases c:s < 0
 ·rw [if_pos (.inl c)];go_in;go_wp2_with fail;go_step3;go_wp2_with fail;rw [Exit.noGoto_ret];go_ret;exact ⟨rfl,qB _ _⟩
 ·by_cases f:62 < s
  ·rw [if_pos (.inr f)];go_in;go_wp2_with fail;go_step3;go_wp2_with fail;rw [Exit.noGoto_ret];go_ret;exact ⟨rfl,qB _ _⟩
  ·rw [if_neg oM];obtain ⟨n,rfl⟩:∃ n:Nat,s=n:=⟨s.toNat,by omega⟩;rw [Int.toNat_natCast];have b:n≤62:=oM;clear c f;by_cases p:v < 0
   ·rw [if_pos p];obtain ⟨m,rfl⟩:∃ m:Nat,v=-(m:Int):=⟨v.natAbs,by omega⟩;rw [show (-(m:Int)).natAbs=m by omega];have A:¬ m=0:=oM;have j:m≤9223372036854775808:=oM;obtain ⟨x,l⟩:∃ x:Int,18446744073709551616 - (m:Int)=x:=⟨_,rfl⟩;have u1:IntKind.u64.wrap (-(m:Int))=x:=by rw [IntKind.wrap_u64];omega
    have u2:IntKind.u64.wrap (-x)=(m:Int):=by rw [IntKind.wrap_u64];omega
    have u5:wrap64 x=-(m:Int):=by rw [← l];unfold wrap64;omega
    obtain ⟨r,t⟩:∃ r,fh m n=r:=⟨_,rfl⟩;have d:r≤m:=by rw [← t];exact lA m n
    obtain ⟨y,i⟩:∃ y:Int,(-(r:Int)) % 18446744073709551616=y:=⟨_,rfl⟩;have u3:IntKind.u64.wrap (-(r:Int))=y:=by rw [IntKind.wrap_u64,i]
    have u4:IntKind.i64.wrap y=-(r:Int):=by rw [IntKind.wrap_i64,← i];omega
    rw [t];have B:¬ (0:Int)≤-(m:Int):=oM;by_cases h:n=0
    ·subst h;obtain rfl:m=r:=by rw [← t];simp [fh]
     clear l i t;go_in;go_wp2_with fail;go_step3;go_wp2_with fail;go_step3;go_wp2_with fail;rw [Exit.noGoto_ret];go_ret;exact ⟨by show Ending.returned (.int .i64 (wrap64 x))=_;rw [u5],qB _ _⟩
    ·obtain ⟨k,rfl⟩:∃ k,n=k+1:=⟨n - 1,by omega⟩;have a:=zH (vW m k j oM);rw [t] at a;clear l i t;go_in;go_wp2_with fail;go_step3;go_wp2_with fail;go_step3;go_wp2_with fail;go_quiet (fail);rw [a.o];go_wp2_with fail;rw [Exit.noGoto_ret];go_ret;exact ⟨rfl,aI (qB _ _) _⟩
   ·rw [if_neg p];obtain ⟨m,rfl⟩:∃ m:Nat,v=(m:Int):=⟨v.natAbs,by omega⟩;rw [show ((m:Int)).natAbs=m by omega];obtain ⟨r,t⟩:∃ r,fh m n=r:=⟨_,rfl⟩;have d:r≤m:=by rw [← t];exact lA m n
    rw [t];by_cases h:n=0
    ·subst h;obtain rfl:m=r:=by rw [← t];simp [fh]
     clear t;go_in;go_wp2_with fail;refine gE 0 rfl ?_;go_wp2_with fail;go_step3;refine ⟨rfl,?_⟩;go_wp2_with fail;rw [Exit.noGoto_ret];go_ret;exact ⟨rfl,qB _ _⟩
    ·obtain ⟨k,rfl⟩:∃ k,n=k+1:=⟨n - 1,by omega⟩;have a:=zH (vW m k oM oM);rw [t] at a;clear t;go_in;go_wp2_with fail;refine gE 0 rfl ?_;go_wp2_with fail;go_step3;refine ⟨rfl,?_⟩;go_wp2_with fail;go_quiet (fail);rw [a.o];go_wp2_with fail;rw [Exit.noGoto_ret];go_ret;exact ⟨rfl,aI (qB _ _) _⟩
theorem Bf (m k:Nat):m / 2 ^ k % 2=if 2 ^ (k+1)≤2*(m % 2 ^ (k+1)) then 1 else 0:=by
 have t:0 < 2 ^ k:=Nat.two_pow_pos k;rw [Nat.pow_succ];generalize 2 ^ k=p at *;have a:=Nat.div_add_mod m (p*2);have i:m % (p*2) < p*2:=Nat.mod_lt _ oM;have o:m / p=2*(m / (p*2))+m % (p*2) / p:=by
  have e:m=p*(2*(m / (p*2)))+m % (p*2):=by rw [← Nat.mul_assoc];exact a.symm
  conv=>lhs;rw [e]
  rw [Nat.mul_add_div t]
 rw [o];generalize m % (p*2)=b at *;split
 ·have:b / p=1:=by
   rw [Nat.div_eq_iff t];omega
  omega
 ·have:b / p=0:=Nat.div_eq_of_lt oM;omega
theorem Cj (m n:Nat):fh m n=m / 2 ^ n+if 1 < 2 ^ n∧2 ^ n - m % 2 ^ n≤m % 2 ^ n then 1 else 0:=by
 unfold fh;have t:m % 2 ^ n < 2 ^ n:=Nat.mod_lt _ (Nat.two_pow_pos n);cases n with
 | zero=>simp
 | succ k =>
  rw [if_neg oM,Nat.add_sub_cancel,Bf];have a:0 < 2 ^ k:=Nat.two_pow_pos k;have e:2 ^ (k+1)=2 ^ k*2:=Nat.pow_succ 2 k;generalize m % 2 ^ (k+1)=b at *;congr 1;by_cases h:2 ^ (k+1)≤2*b
  ·rw [if_pos h,if_pos oM]
  ·rw [if_neg h,if_neg oM]
theorem ll (v s:Int) (w:World) (N:InK .i64 v):Calls prog 166 #[.int .i64 v,.int .i64 s] w fun e w'=>e=.returned (.int .i64 (dr v s))∧Below w w w':=by
 rw [ai] at N;obtain ⟨U,V⟩:=N;unfold dr;by_cases I:s < 0
 ·rw [if_pos (.inl I)];go_in;go_wp2;go_ret;exact ⟨rfl,qB _ _⟩
 ·by_cases J:62 < s
  ·rw [if_pos (.inr J)];go_in;go_wp2;go_ret;exact ⟨rfl,qB _ _⟩
  ·rw [if_neg oM];obtain ⟨n,rfl⟩:∃ n:Nat,s=n:=⟨s.toNat,by omega⟩;rw [Int.toNat_natCast];have M:(n:Int)≤62:=oM;have H:=zH (fun i (h:i≤n)=>show 1≤2 ^ i∧2 ^ i≤4611686018427387904 from ⟨Nat.two_pow_pos i,lT (Nat.pow_le_pow_right dM (show i≤62 by omega)) dM⟩);clear I J;obtain ⟨f,d⟩:∃ f:Int,(if v < 0 then -(fh v.natAbs n:Int) else (fh v.natAbs n:Int))=f:=⟨_,rfl⟩;rw [d];have y:=zH d;clear d;go_in;go_wp2;go_loopw [5,6] (fun u F wr=>∃ i:Nat,i≤n∧F=.int .i64 i∧u=.int .i64 ((2 ^ i:Nat):Int)∧w=wr) (fun _ F _=>n - (intOf F).toNat)
   case atStart=>exact ⟨0,zl _,rfl,rfl,rfl⟩
   case round =>
    obtain ⟨i,hi,rfl,rfl,rfl⟩:=hrel;have D:=H.o i hi;by_cases C:i < n
    ·have Y:(i:Int) < (n:Int):=oM;have E:=H.o (i+1) C;have G:=zH (Nat.pow_succ 2 i);rw [G.o] at E;generalize 2 ^ i=p at *;go_wp2;exact ⟨⟨i+1,by omega,by go_num,by rw [G.o];go_num,by trivial⟩,by simp [intOf];omega⟩
    ·obtain rfl:i=n:=oM;have g:=zH (Cj v.natAbs i);generalize 2 ^ i=p at *;obtain ⟨S,T⟩:=D;have Z:¬ p=0:=oM;by_cases K:v < 0
     ·have t:=y.o;rw [if_pos K,g.o] at t;obtain ⟨m,rfl⟩:∃ m:Nat,v=-(m:Int):=⟨v.natAbs,by omega⟩;rw [show (-(m:Int)).natAbs=m by omega] at t;have x:(-(m:Int)).tdiv (p:Int)=-((m / p:Nat):Int):=by rw [Int.neg_tdiv,Int.tdiv_eq_ediv_of_nonneg oM];simp
      have k:(-(m:Int)).tmod (p:Int)=-((m % p:Nat):Int):=by rw [Int.neg_tmod,Int.tmod_eq_emod_of_nonneg oM];simp
      obtain ⟨a,l⟩:∃ a,m / p=a:=⟨_,rfl⟩;obtain ⟨b,c⟩:∃ b,m % p=b:=⟨_,rfl⟩;have z:a≤m:=by rw [← l];exact Nat.div_le_self _ _
      have B:b < p:=by rw [← c];exact Nat.mod_lt _ oM
      rw [l] at x t;rw [c] at k t;have r:1 < p → a≤4611686018427387904:=by
       intro h;rw [← l];have R:m / p≤m / 2:=Nat.div_le_div_left h dM;omega
      have r:=zH r;clear l c g y;have Q:IntKind.i64.wrap (-(a:Int))=-(a:Int):=by rw [IntKind.wrap_i64];omega
      have L:IntKind.i64.wrap (-(b:Int))=-(b:Int):=by rw [IntKind.wrap_i64];omega
      by_cases O:b=0
      ·subst O;rw [if_neg oM,Nat.add_zero] at t;subst t;have j:¬ p≤0:=oM;have q:¬ (p:Int)≤0:=oM;simp only [Int.natCast_zero,Int.neg_zero,Int.ofNat_zero] at k L;go_wp2_with fail;go_quiet (fail);go_wp2;go_ret;exact ⟨rfl,aI (qB _ _) _⟩
      ·by_cases P:p - b≤b
       ·rw [if_pos oM] at t;subst t;have A:=r.out oM;have j:(p:Int)+-(b:Int)≤(b:Int):=oM;have q:(p:Int) - (b:Int)≤(b:Int):=oM;have t3:0 < b:=oM;have W:¬ (0:Int)≤-(b:Int):=oM;have X:-(b:Int) < 0:=oM;go_wp2_with fail;go_quiet (fail);go_wp2;go_ret;exact ⟨by show Ending.returned (.int .i64 _)=_;go_num,aI (qB _ _) _⟩
       ·rw [if_neg oM,Nat.add_zero] at t;subst t;have j:¬ (p:Int)+-(b:Int)≤(b:Int):=oM;have q:¬ (p:Int) - (b:Int)≤(b:Int):=oM;have t3:0 < b:=oM;have W:¬ (0:Int)≤-(b:Int):=oM;have X:-(b:Int) < 0:=oM;go_wp2_with fail;go_quiet (fail);go_wp2;go_ret;exact ⟨rfl,aI (qB _ _) _⟩
     ·have t:=y.o;rw [if_neg K,g.o] at t;obtain ⟨m,rfl⟩:∃ m:Nat,v=(m:Int):=⟨v.natAbs,by omega⟩;rw [show ((m:Int)).natAbs=m by omega] at t;have x:(m:Int).tdiv (p:Int)=((m / p:Nat):Int):=by rw [Int.tdiv_eq_ediv_of_nonneg oM];simp
      have k:(m:Int).tmod (p:Int)=((m % p:Nat):Int):=by rw [Int.tmod_eq_emod_of_nonneg oM];simp
      obtain ⟨a,l⟩:∃ a,m / p=a:=⟨_,rfl⟩;obtain ⟨b,c⟩:∃ b,m % p=b:=⟨_,rfl⟩;have z:a≤m:=by rw [← l];exact Nat.div_le_self _ _
      have B:b < p:=by rw [← c];exact Nat.mod_lt _ oM
      rw [l] at x t;rw [c] at k t;have r:1 < p → a≤4611686018427387904:=by
       intro h;rw [← l];have R:m / p≤m / 2:=Nat.div_le_div_left h dM;omega
      clear l c g y;have Q:IntKind.i64.wrap (a:Int)=(a:Int):=by rw [IntKind.wrap_i64];omega
      have L:IntKind.i64.wrap (b:Int)=(b:Int):=by rw [IntKind.wrap_i64];omega
      have t3:¬ (b:Int) < 0:=oM;by_cases P:p - b≤b
      ·rw [if_pos oM] at t;subst t;have j:(p:Int) - (b:Int)≤(b:Int):=oM;have q:1 < p:=oM;have A:=r q;clear r;go_wp2_with fail;go_quiet (fail);go_wp2;go_ret;exact ⟨by show Ending.returned (.int .i64 _)=_;go_num,aI (qB _ _) _⟩
      ·rw [if_neg oM,Nat.add_zero] at t;subst t;have j:¬ (p:Int) - (b:Int)≤(b:Int):=oM;clear r;go_wp2_with fail;go_quiet (fail);go_wp2;go_ret;exact ⟨rfl,aI (qB _ _) _⟩
theorem cM {w w':World} {p:Addr} {v:Value} {row:Option Nat} (g:w.grownBy w' row) (h:w.cell? p=some v) (t:some p.block ≠ row):w'.cell? p=some v:=by
 have e:=World.block_lt_of_cell? w p h;unfold World.cell? at *;rw [g.block p.block e t];exact h
section
variable {α:Type} {t:Ty α} {w w':World} {S S':Nat → Prop} {l:List α} {base n:Nat} {E:TypeId} {v:Value}
variable {P:Program} {ops:Array Oper} {rest:List Oper} {o:Oper} {a:Act} {Q:Go.Exit → Act → World → Prop} {T:TypeId} {z:Value} {bytes:Nat}
theorem iT {K:Act → World → Prop} {W:World} {cs:Array Value} (s x:Operand) (N:o.op=.call { callee:=.builtin .append,args:=#[s,x],argTypes:=#[T,T] }) (g:EI P T E z t.size bytes)
  (O:a.eval s=v) (I:Own t W S base E v n l) (c:Nat) (U:a.eval x=.slice (some ⟨W.heap.size,0,none⟩) 1 c) (y:α) (D:t.rep W S cs.toList y)
  (q:n+1≤maxLen) (e:(n+1)*bytes≤140737488355328) (A:base≤W.heap.size) (r:∀ b,S b → b < W.heap.size∧some b ≠ v.ownBlock)
  (h:∀ m w',Own t w' S base E m (n+1) (l ++ [y]) → W.grownBy w' v.ownBlock → (m.ownBlock=v.ownBlock ∨ m.ownBlock=some (W.heap.size+1)) → K (a.put o.dst m) w') :
  Oper.wp P o a (W.alloc (.cells cs E)) K Q:=by
 obtain ⟨i,hi,F,G,H⟩:=info_parts g.hi;obtain ⟨vs,J,L⟩:=I.out;have d:∀ j u,cs.toList[j]?=some u → (W.alloc (.cells cs E)).cell? ((⟨W.heap.size,0,none⟩:Addr).add j)=some u:=by
  intro j u R;have f:(⟨W.heap.size,0,none⟩:Addr).add j=⟨W.heap.size,j,none⟩:=by unfold Addr.add;split <;> simp_all
  rw [f,cell_of_row (W.alloc (.cells cs E)) W.heap.size j cs E (0,0) (heap_alloc_new W _)];simpa using R
 obtain ⟨m,w',p,k1,k2,_,V⟩:=run_append_own_at (P:=P) (W.alloc (.cells cs E)) base T o.type E i z t.size bytes g.ht hi F G H g.hz g.hp v n vs (J.alloc _) ⟨W.heap.size,0,none⟩ 1 c cs.toList
  (by rw [t.len D,Nat.one_mul]) d (t.one D) q e (by simp;omega)
 have B:W.grownBy w' v.ownBlock:=⟨k2.os,k2.tape,k2.output,lT sM k2.size,fun k M C=>(k2.block k (by simp;omega) C).trans (Below.heap_alloc W _ k M)⟩;unfold Oper.wp execOp;simp only [N,resolve,invoke,builtin,Sem.run_bind,Sem.run_pure,Result.andThen_ok,List.map_toArray,List.map_cons,List.map_nil,O,U,p];refine (h m w' ⟨vs ++ cs.toList,k1,?_⟩ B (by simpa using V));refine (L.keep fun b w=>B.block b (r b w).1 (r b w).2).snoc (t.keep D fun b w=>B.block b (r b w).1 (r b w).2)
end
open Go.Deep Go.ChangeAt
section
variable {H:Type} {enc:TypeId × Value → H} {P:Program}
theorem lJ (s:laidOutB P=true) {W i:World} (n:Below W.heap.size W i):∀ {a:List TypeId} {vs:List Value} {e:List (DataW H)} {p:List MemPlace},
  (a.all fun t=>P.readableRec t && decide (t < P.types.size))=true → DataW.TrodAll enc P W 0 (fun _=>true) true a vs e p → (∀ x ∈ p,x.block < W.heap.size) →
  DataW.TrodAll enc P i 0 (fun b=>decide (b < W.heap.size)) true a vs e p
 | [],vs,e,p,_,h,_=>by obtain ⟨rfl,rfl,rfl⟩:=trodAll_nil h;exact trodAll_mk0
 | t :: a,vs,e,p,ht,h,hlt=>by
  obtain ⟨v,w,d,r,m,f,rfl,rfl,rfl,l,c⟩:=trodAll_cons h;simp only [List.all_cons,Bool.and_eq_true,decide_eq_true_eq] at ht;exact ⟨m,f,Below.trod s ht.1.1 ht.1.2 l n (fun x o=>hlt x (by simp [o])),lJ s n (by simpa using ht.2) c (fun x o=>hlt x (by simp [o])),rfl⟩
theorem kJ:∀ {w:World} {base:Nat} {spare:Nat → Bool} {held:Bool} {e:List TypeId} {vs:List Value} {t:List (DataW H)} {p:List MemPlace},DataW.TrodAll enc P w base spare held e vs t p → vs.length=e.length∧t.length=e.length
 | _,_,_,_,[],_,_,_,h=>by obtain ⟨rfl,rfl,rfl⟩:=trodAll_nil h;exact ⟨rfl,rfl⟩
 | _,_,_,_,_ :: _,_,_,_,h=>by
  obtain ⟨v,n,d,o,r,l,rfl,rfl,rfl,s,i⟩:=trodAll_cons h;obtain ⟨a,b⟩:=kJ i;simp [a,b]
theorem Bi {C:Checked} {os:Os} {f:FuncId} {l:Func} {s:ChangeSpec} {T:TypeId}
  (E:ownKnob C.prog.godebug=none) (r:os.Started) (c:C.prog.inits.idxOf? f=none) (B:C.prog.funcs[f]?=some l)
  (d:∃ (w:World) (o:Tape) (i:Input),w.os=os∧(w.forCall o i).Shaped C.prog∧i.vars=[]∧Input.okWide C.prog (w.forCall o i) .any w.heap.size f i ∧
   s.pre6 enc C.prog l [] false (w.forCall o i).memory i.args∧({}:Assume).holds C.prog (lone (Frame.enter C.prog f i.args .normal) [] (w.forCall o i)))
  (R:laidOutB C.prog=true) (y:(l.params.toList.all fun t=>C.prog.readableRec t && decide (t < C.prog.types.size))=true)
  (b:l.resultTypes=#[T]) (O:C.prog.underlying T=some .bool) (K:s.vars=[])
  (U:∀ (n:List (DataW H)),n.length=l.params.size → (s.fn H n).results=[.lit (.bool true)]∧(s.fn H n).args=n∧(s.fn H n).vars=[])
  (k:∀ (W:World) (base:Nat) (a:Array Value) (n:List (DataW H)) (p:List MemPlace),
   (∀ (j:Nat) t v,l.params[j]?=some t → a[j]?=some v → Value.okWide C.prog W .any base t v) →
   DataW.TrodAll enc C.prog W 0 (fun _=>true) true l.params.toList a.toList n p →
   Calls C.prog f a W fun e F=>e=.returned (.bool true)∧Below W.heap.size W F) :
  ReturnsInHanded {} C os f .any (s.pre6 enc C.prog l [] false) (s.post enc C.prog l false true false false):=by
 refine returnsInHanded_of_change E r c B d ?_;intro W base a n X z g I _ _;have m:=I;obtain ⟨p,q,A,G,rfl,Q,S⟩:=I;rw [K] at G;obtain ⟨rfl,rfl⟩:=trodVars_none G;refine (k W base a n p g A).mono fun e F ⟨P,J⟩=>⟨_,P,?_⟩
 obtain ⟨L,M,N⟩:=U n (by have:=(kJ A).2;simpa using this);have D:∀ x ∈ p,x.block < W.heap.size:=fun x V=>m.lt x (by simp [V]);refine ⟨n,[],p ++ [],[],p,[],m,?_,?_,?_,J.frame _,fun h=>by cases h⟩
 ·rw [b,List.append_nil,L];exact trodAll_mk1 (shut_bool O true)
 ·rw [List.append_nil,M];exact lJ R J y A D
 ·rw [List.append_nil,N,K];exact rfl
variable {w:World} {spare:Nat → Bool} {held:Bool} {base:Nat}
theorem wj {α:Type} {T:TypeId} {a:Array Field} {t:Ty α} {r:Reach} {e:Nat} {v:Value} {d:DataW H} {p:List MemPlace} (o:P.underlying T=some (.struct a)) (i:Opens P T t) (n:Value.okWide P w r e T v) (h:DataW.Trod enc P w base spare held T v d p) :
  ∃ cs y,v=.agg cs∧t.rep w (blo w) cs.toList y:=by
 obtain ⟨cs,rfl,_⟩:=okWide_struct o n;obtain ⟨y,s⟩:=i.trod h;exact ⟨cs,y,rfl,s⟩
theorem CG {T:TypeId} {k:IntKind} {r:Reach} {t:Nat} {v:Value} {d:DataW H} {p:List MemPlace} (a:P.underlying T=some (.int k)) (o:Value.okWide P w r t T v) (h:DataW.Trod enc P w base spare held T v d p) :
  ∃ n,v=.int k n∧InK k n:=by
 obtain ⟨n,rfl,_,_,e⟩:=open_int a o h;exact ⟨n,rfl,by simp only [Lit.wf,Bool.and_eq_true,decide_eq_true_eq] at e;exact e⟩
end
end Go.Proofs.YtbecbfpoahhpnaaGreat
namespace Go.Proofs.YtbecbfpoahhpnaaGreat.Sta
open Tryz
open Go.Sort
variable {α:Type} [Inhabited α]
def swpRange (d:Array α) (a b:Nat):Nat → Array α
 | 0=>d
 | n+1=>swp (swpRange d a b n) (a+n) (b+n)
theorem swpRange_size (d:Array α) (a b n:Nat):(swpRange d a b n).size=d.size:=by
 induction n with
 | zero=>rfl
 | succ n ih=>rw [swpRange,swp_size,ih]
theorem swpRange_get (d:Array α) (a b n:Nat) (h:a+n≤b) (t:b+n≤d.size) (k:Nat) :
  (swpRange d a b n)[k]! = if a≤k∧k < a+n then d[k+(b - a)]! else if b≤k∧k < b+n then d[k - (b - a)]! else d[k]!:=by
 induction n generalizing k with
 | zero=>rw [if_neg oM,if_neg oM];rfl
 | succ n e =>
  have e:=fun k=>e oM oM k;rw [swpRange,swp_get _ (by rw [swpRange_size];omega) (by rw [swpRange_size];omega)];simp only [e]
  (repeat' split) <;> first|rfl|(exfalso;omega)|(congr 1;omega)|exact absurd trivial (by assumption)
theorem swpRange_perm (d:Array α) (a b n lo hi:Nat) (e:lo≤a) (t:a≤b) (o:b+n≤hi) (i:hi≤d.size):PermIn lo hi d (swpRange d a b n):=by
 induction n with
 | zero=>exact permIn_refl _ _ _
 | succ n ih =>
  refine permIn_trans _ _ _ _ _ (ih oM) (swp_permIn _ _ _ _ _ oM oM oM oM (by rw [swpRange_size];omega))
def rotIdx (a m b k:Nat):Nat:=if a≤k∧k < a+(b - m) then k+(m - a) else if a+(b - m)≤k∧k < b then k - (b - m) else k
structure Rot (a m b:Nat) (d0:Array α) (i j:Nat) (d:Array α):Prop where
 size:d.size=d0.size
 hi:0 < i
 hj:0 < j
 la:a+i≤m
 lb:m+j≤b
 get:∀ k,d[rotIdx (m - i) m (m+j) k]! = d0[rotIdx a m b k]!
 perm:PermIn a b d0 d
theorem Rot.start {a m b:Nat} (e:Array α) (t:a < m) (o:m < b):Rot a m b e (m - a) (b - m) e :=
 ⟨rfl,by omega,by omega,by omega,by omega,fun k=>by rw [show m - (m - a)=a by omega,show m+(b - m)=b by omega],permIn_refl _ _ _⟩
theorem Rot.left {a m b:Nat} {e d:Array α} {i j:Nat} (h:Rot a m b e i j d) (l:b≤e.size) (t:j < i):Rot a m b e (i - j) j (swpRange d (m - i) m j):=by
 have o:=h.la;have n:=h.lb;have s:=h.hj;have r:=h.size;refine ⟨by rw [swpRange_size];exact h.size,by omega,h.hj,by omega,h.lb,fun k=>?_,permIn_trans _ _ _ _ _ h.perm (swpRange_perm _ _ _ _ _ _ oM oM oM oM)⟩;rw [← h.get k,swpRange_get _ _ _ _ oM oM];unfold rotIdx
 (repeat' split) <;> first|rfl|(exfalso;omega)|(congr 1;omega)|exact absurd trivial (by assumption)
theorem Rot.right {a m b:Nat} {e d:Array α} {i j:Nat} (h:Rot a m b e i j d) (l:b≤e.size) (t:i < j):Rot a m b e i (j - i) (swpRange d (m - i) (m+j - i) i):=by
 have o:=h.la;have n:=h.lb;have s:=h.hi;have r:=h.size;refine ⟨by rw [swpRange_size];exact h.size,h.hi,by omega,by omega,by omega,fun k=>?_,permIn_trans _ _ _ _ _ h.perm (swpRange_perm _ _ _ _ _ _ oM oM oM oM)⟩;rw [← h.get k,swpRange_get _ _ _ _ oM oM];unfold rotIdx
 (repeat' split) <;> first|rfl|(exfalso;omega)|(congr 1;omega)|exact absurd trivial (by assumption)
structure Turned (a m b:Nat) (d0 d:Array α):Prop where
 size:d.size=d0.size
 get:∀ k,d[k]! = d0[rotIdx a m b k]!
 perm:PermIn a b d0 d
theorem Rot.done {a m b:Nat} {e d:Array α} {i:Nat} (h:Rot a m b e i i d) (r:b≤e.size):Turned a m b e (swpRange d (m - i) m i):=by
 have t:=h.la;have o:=h.lb;have n:=h.hi;have s:=h.size;refine ⟨by rw [swpRange_size];exact h.size,fun k=>?_,permIn_trans _ _ _ _ _ h.perm (swpRange_perm _ _ _ _ _ _ oM oM oM oM)⟩;rw [← h.get k,swpRange_get _ _ _ _ oM oM];unfold rotIdx
 (repeat' split) <;> first|rfl|(exfalso;omega)|(congr 1;omega)|exact absurd trivial (by assumption)
/-! ### A strict total order on what lies there, and the merge -/
def Asc (L:α → α → Bool) (a b:Nat) (d:Array α):Prop:=∀ i j,a≤i → i < j → j < b → L d[i]! d[j]! = true
def Cross (lt L:α → α → Bool) (a m b:Nat) (d:Array α):Prop:=∀ i j,a≤i → i < m → m≤j → j < b → lt d[j]! d[i]! = L d[j]! d[i]!∧(L d[j]! d[i]! = false → L d[i]! d[j]! = true)
def Tr (L:α → α → Bool):Prop:=∀ x y z,L x y=true → L y z=true → L x z=true
structure Merged (L:α → α → Bool) (a b:Nat) (d d':Array α):Prop where
 perm:PermIn a b d d'
 asc:Asc L a b d'
theorem PermIn.size {a b:Nat} {d e:Array α} (h:PermIn a b d e):e.size=d.size:=h.1
theorem PermIn.out {a b:Nat} {d e:Array α} (h:PermIn a b d e) (i:Nat) (hi:i < a ∨ b≤i):e[i]! = d[i]!:=h.2.1 i hi
/-! ### one element on the left: moved to the right -/
/-! ### one element on the right: moved to the left -/
def shiftL (d:Array α) (m:Nat):Nat → Array α
 | 0=>d
 | n+1=>swp (shiftL d m n) (m - n) (m - n - 1)
theorem shiftL_size (d:Array α) (m n:Nat):(shiftL d m n).size=d.size:=by
 induction n with
 | zero=>rfl
 | succ n ih=>rw [shiftL,swp_size,ih]
theorem shiftL_get (d:Array α) (m n:Nat) (h:m < d.size) (t:n≤m) (k:Nat):(shiftL d m n)[k]! = if k=m - n then d[m]! else if m - n < k∧k≤m then d[k - 1]! else d[k]!:=by
 induction n generalizing k with
 | zero =>
  by_cases c:k=m - 0
  ·rw [if_pos c,shiftL,c];rfl
  ·rw [if_neg c,if_neg oM];rfl
 | succ n e =>
  have e:=fun k=>e oM k;rw [shiftL,swp_get _ (by rw [shiftL_size];omega) (by rw [shiftL_size];omega)];simp only [e]
  (repeat' split) <;> first|rfl|(exfalso;omega)|(congr 1;omega)|exact absurd trivial (by assumption)
theorem shiftL_perm (d:Array α) (m n lo hi:Nat) (e:lo+n≤m) (t:m < hi) (a:hi≤d.size):PermIn lo hi d (shiftL d m n):=by
 induction n with
 | zero=>exact permIn_refl _ _ _
 | succ n ih=>exact permIn_trans _ _ _ _ _ (ih oM) (swp_permIn _ _ _ _ _ oM oM oM oM (by rw [shiftL_size];omega))
theorem merge_one_right {lt L:α → α → Bool} {a m i:Nat} {d:Array α} (l:m < d.size) (t:Asc L a m d) (r:Cross lt L a m (m+1) d) (v:a≤i) (b:i≤m)
  (c:∀ h,a≤h → h < i → lt d[m]! d[h]! = false) (w:∀ h,i≤h → h < m → lt d[m]! d[h]! = true):Merged L a (m+1) d (shiftL d m (m - i)):=by
 refine ⟨shiftL_perm _ _ _ _ _ oM oM l,fun p q g f k=>?_⟩;rw [shiftL_get _ _ _ oM oM,shiftL_get _ _ _ oM oM];rw [show m - (m - i)=i by omega];by_cases o:p=i
 ·rw [if_pos o,if_neg oM,if_pos oM];obtain ⟨e,s⟩:=r (q - 1) m oM oM oM oM;rw [← e];exact w (q - 1) oM oM
 ·rw [if_neg o];by_cases n:q=i
  ·rw [if_pos n,if_neg oM];obtain ⟨e,s⟩:=r p m oM oM oM oM;exact s (by rw [← e];exact c p oM oM)
  ·rw [if_neg n];by_cases y:p < i
   ·rw [if_neg oM];by_cases c4:q < i
    ·rw [if_neg oM];exact t _ _ oM oM oM
    ·rw [if_pos oM];exact t _ _ oM oM oM
   ·rw [if_pos oM,if_pos oM];exact t _ _ oM oM oM
/-! ### the cut in the middle -/
structure Halves (lt L:α → α → Bool) (a b s mid e:Nat) (d:Array α):Prop where
 l1:Asc L a s d
 l2:Asc L s mid d
 r1:Asc L mid e d
 r2:Asc L e b d
 cl:Cross lt L a s mid d
 cr:Cross lt L mid e b d
 ahead:∀ i j,a≤i → i < mid → mid≤j → j < b → L d[i]! d[j]! = true
theorem PermIn.all {a b:Nat} {d e:Array α} (h:PermIn a b d e) (t:b≤d.size) (p:α → Prop) (o:∀ i,a≤i → i < b → p d[i]!):∀ i,a≤i → i < b → p e[i]!:=permIn_all _ _ _ _ p t h o
theorem Halves.left {lt L:α → α → Bool} {a b s t e:Nat} {d r:Array α} (h:Halves lt L a b s t e d) (p:a≤t) (v:t≤b) (g:t≤e) (q:e≤b) (z:b≤d.size) (y:Merged L a t d r) :
  Asc L t e r∧Asc L e b r∧Cross lt L t e b r∧∀ i j,a≤i → i < t → t≤j → j < b → L r[i]! r[j]! = true:=by
 have o:∀ k,t≤k → r[k]! = d[k]!:=fun k f=>PermIn.out y.perm k (.inr f);refine ⟨fun i j hi l n=>?_,fun i j hi l n=>?_,fun i j hi c n m=>?_,fun i j hi c n m=>?_⟩
 ·rw [o i oM,o j oM];exact h.r1 i j hi l n
 ·rw [o i oM,o j oM];exact h.r2 i j hi l n
 ·rw [o i oM,o j oM];exact h.cr i j hi c n m
 ·rw [o j n];exact PermIn.all y.perm oM (fun x=>L x d[j]! = true) (fun k f w=>h.ahead k j f w n m) i hi c
/-! ### halving searches -/
structure Bin (p:Nat → Bool) (lo hi i j:Nat):Prop where
 l:lo≤i
 m:i≤j
 h:j≤hi
 yes:∀ h,lo≤h → h < i → p h=true
 no:∀ h,j≤h → h < hi → p h=false
def Mono (p:Nat → Bool) (lo hi:Nat):Prop:=∀ h h',lo≤h → h < h' → h' < hi → p h'=true → p h=true
theorem Bin.start (p:Nat → Bool) (lo hi:Nat) (h:lo≤hi):Bin p lo hi lo hi:=⟨lR _,h,lR _,fun _ _ _=>by omega,fun _ _ _=>by omega⟩
theorem Bin.up {p:Nat → Bool} {lo hi i j c:Nat} (b:Bin p lo hi i j) (a:Mono p lo hi) (n:i≤c) (s:c < j) (t:p c=true):Bin p lo hi (c+1) j:=by
 have:=b.l;have:=b.m;have:=b.h;refine ⟨by omega,by omega,b.h,fun h o r=>?_,b.no⟩;by_cases e:h=c
 ·rw [e];exact t
 ·exact a h c o oM oM t
def As (L:α → α → Bool):Prop:=∀ x y,L x y=true → L y x=false
theorem mono_two {lt L:α → α → Bool} (y:Tr L) (w:As L) {a m:Nat} {d:Array α} (f:Asc L a m d) (o:Cross lt L a m (m+1) d):Mono (fun h=>!lt d[m]! d[h]!) a m:=by
 intro h t r l c e;obtain ⟨i,s⟩:=(o t m oM oM oM oM);have n:=(o h m oM oM oM oM).1;simp only [Bool.not_eq_true'] at e ⊢;rw [n];rw [i] at e;exact w _ _ (y _ _ _ (f h t r l c) (s e))
/-! ### insertion -/
theorem insInner_merge_aux {lt L:α → α → Bool} (a i:Nat) (d:Array α) (hi:i < d.size) (j:Nat) (w:a≤j) (o:j≤i) (n:∀ h,j≤h → h < i → lt d[i]! d[h]! = true) :
  ∃ t,a≤t∧t≤i∧insInner lt a j (shiftL d i (i - j))=shiftL d i (i - t)∧(∀ h,t≤h → h < i → lt d[i]! d[h]! = true)∧(t=a ∨ lt d[i]! d[t - 1]! = false):=by
 induction j with
 | zero =>
  obtain rfl:a=0:=oM;exact ⟨0,lR _,by omega,rfl,n,.inl rfl⟩
 | succ j ih =>
  rw [insInner];have m:(shiftL d i (i - (j+1)))[j+1]! = d[i]!:=by rw [shiftL_get _ _ _ hi oM,if_pos oM]
  have f:(shiftL d i (i - (j+1)))[j]! = d[j]!:=by rw [shiftL_get _ _ _ hi oM,if_neg oM,if_neg oM]
  rw [m,f];by_cases c:a < j+1
  ·cases r:lt d[i]! d[j]! with
   | true =>
    rw [if_pos (by simp;omega)];have e:swp (shiftL d i (i - (j+1))) (j+1) j=shiftL d i (i - j):=by
     rw [show i - j=(i - (j+1))+1 by omega,shiftL,show i - (i - (j+1))=j+1 by omega];rfl
    rw [e];refine ih oM oM (fun h y s=>?_);by_cases l:h=j
    ·rw [l];exact r
    ·exact n h oM s
   | false =>
    rw [if_neg sM];exact ⟨j+1,by omega,o,rfl,n,.inr r⟩
  ·rw [if_neg (by simp;omega)];exact ⟨j+1,by omega,o,rfl,n,.inl oM⟩
theorem insInner_merge {lt L:α → α → Bool} (y:Tr L) (w:As L) {a i:Nat} {d:Array α} (s:a≤i) (hi:i < d.size) (r:Asc L a i d) (l:Cross lt L a i (i+1) d):Merged L a (i+1) d (insInner lt a i d):=by
 obtain ⟨o,c,m,n,f,t⟩:=insInner_merge_aux (lt:=lt) (L:=L) a i d hi i s (lR _) (fun h _ _=>by omega);rw [Nat.sub_self] at n;change insInner lt a i d=_ at n;rw [n];refine merge_one_right hi r l c m (fun h p v=>?_) f;rcases t with t|t
 ·omega
 ·by_cases e:h=o - 1
  ·rw [e];exact t
  ·have:=mono_two y w r l h (o - 1) p oM oM (by simpa using t);simpa using this
def Agree (lt L:α → α → Bool) (x y:α):Prop:=lt x y=L x y∧(L x y=false → L y x=true)
theorem insOuter_merge {lt L:α → α → Bool} (f:Tr L) (m:As L) {a b:Nat} {e:Array α} (z:b≤e.size) (c:∀ p q,a≤p → p < q → q < b → Agree lt L e[q]! e[p]!) (k:Nat) :
  ∀ i d,b - i=k → a≤i → i≤b → Merged L a i e d → Merged L a b e (insOuter lt a b i d):=by
 induction k with
 | zero =>
  intro i d w o n t;obtain rfl:i=b:=oM;rw [insOuter,if_neg oM];exact t
 | succ k ih =>
  intro i d w o n t;rw [insOuter,if_pos oM];have j:d.size=e.size:=t.perm.1;have l:Cross lt L a i (i+1) d:=by
   intro p q y s A v;obtain rfl:q=i:=oM;rw [PermIn.out t.perm q (.inr (lR _))];exact PermIn.all t.perm oM (fun x=>lt e[q]! x=L e[q]! x∧(L e[q]! x=false → L x e[q]! = true)) (fun r g h=>c r q g h oM) p y s
  have:=insInner_merge f m o oM t.asc l;refine ih (i+1) _ oM oM oM ⟨permIn_trans _ _ _ _ _ (permIn_mono _ _ a i a (i+1) (lR _) oM oM t.perm) this.perm,this.asc⟩
theorem insertion_merged {lt L:α → α → Bool} (s:Tr L) (n:As L) {a b:Nat} {e:Array α} (h:a≤b) (r:b≤e.size) (o:∀ p q,a≤p → p < q → q < b → Agree lt L e[q]! e[p]!):Merged L a b e (insertionSort lt e a b):=by
 unfold insertionSort;by_cases c:a < b
 ·exact insOuter_merge s n r o _ (a+1) e rfl oM oM ⟨permIn_refl _ _ _,fun i j hi t d=>by omega⟩
 ·rw [insOuter,if_neg oM];exact ⟨permIn_refl _ _ _,fun i j hi t d=>by omega⟩
/-! ### blocks -/
structure Loc (L:α → α → Bool) (d0:Array α) (a b:Nat) (d:Array α):Prop where
 perm:(d.extract a b).toList.Perm (d0.extract a b).toList
 asc:Asc L a b d
theorem extract_congr {a b:Nat} {d e:Array α} (i:e.size=d.size) (o:b≤d.size) (h:∀ k,a≤k → k < b → e[k]! = d[k]!):(e.extract a b).toList=(d.extract a b).toList:=by
 rw [extract_toList e a b oM,extract_toList d a b o];exact List.map_congr_left fun k t=>h k (List.mem_range'_1.1 t).1 (by have:=(List.mem_range'_1.1 t);omega)
theorem Loc.same {L:α → α → Bool} {n d e:Array α} {a b:Nat} (h:Loc L n a b d) (l:e.size=d.size) (r:b≤d.size) (t:∀ k,a≤k → k < b → e[k]! = d[k]!):Loc L n a b e :=
 ⟨by rw [extract_congr l r t];exact h.perm,fun i j hi o s=>by rw [t i hi oM,t j oM s];exact h.asc i j hi o s⟩
theorem Loc.merged {L:α → α → Bool} {t d e:Array α} {a b:Nat} (o:(d.extract a b).toList.Perm (t.extract a b).toList) (h:Merged L a b d e):Loc L t a b e:=⟨h.perm.2.2.trans o,h.asc⟩
theorem Loc.all {L:α → α → Bool} {t d:Array α} {a b:Nat} (m:d.size=t.size) (n:b≤t.size) (h:Loc L t a b d) (p:α → Prop) (c:∀ i,a≤i → i < b → p t[i]!) (i:Nat) (hi:a≤i) (s:i < b):p d[i]!:=by
 have l:d[i]! ∈ (d.extract a b).toList:=by
  rw [extract_toList d a b oM];exact List.mem_map.2 ⟨i,List.mem_range'_1.2 ⟨hi,by omega⟩,rfl⟩
 have o:=h.perm.mem_iff.1 l;rw [extract_toList t a b n] at o;obtain ⟨k,r,e⟩:=List.mem_map.1 o;rw [← e];have:=List.mem_range'_1.1 r;exact c k this.1 oM
def BlocksFrom (L:α → α → Bool) (d0:Array α) (s a:Nat) (d:Array α):Prop:=∀ k,a≤k*s → k*s < d0.size → Loc L d0 (k*s) (min (k*s+s) d0.size) d
def BlocksTo (L:α → α → Bool) (d0:Array α) (s a:Nat) (d:Array α):Prop:=∀ k,k*s+s≤a → Loc L d0 (k*s) (k*s+s) d
theorem BlocksTo.same {L:α → α → Bool} {e d t:Array α} {s a b:Nat} (h:BlocksTo L e s a d) (c:d.size=e.size) (l:a≤e.size) (o:PermIn a b d t):BlocksTo L e s a t :=
 fun k r=>(h k r).same o.1 oM (fun i hi n=>o.2.1 i (.inl oM))
theorem BlocksFrom.same {L:α → α → Bool} {e d o:Array α} {s a b:Nat} (h:BlocksFrom L e s a d) (m:d.size=e.size) (r:a≤b) (n:PermIn a b d o):BlocksFrom L e s b o :=
 fun k c t=>(h k oM t).same n.1 oM (fun i hi l=>n.2.1 i (.inr oM))
theorem BlocksTo.next {L:α → α → Bool} {a d:Array α} {s t:Nat} (h:BlocksTo L a s (t*s) d) (o:Loc L a (t*s) (t*s+s) d) (n:0 < s):BlocksTo L a s (t*s+s) d:=by
 intro k i;by_cases e:k=t
 ·rw [e];exact o
 ·refine h k ?_;have:k+1≤t:=by
   rcases Nat.lt_trichotomy k t with c|c|c
   ·omega
   ·omega
   ·have:(t+1)*s≤k*s:=Nat.mul_le_mul_right s c;rw [Nat.add_mul,Nat.one_mul] at this;omega
  have:=Nat.mul_le_mul_right s this;rw [Nat.add_mul,Nat.one_mul] at this;omega
theorem BlocksTo.all {L:α → α → Bool} {a d:Array α} {s t:Nat} (h:BlocksTo L a s (t*s) d) (l:0 < s) (i:t*s≤a.size) (n:a.size < t*s+s) (o:Loc L a (t*s) a.size d):BlocksFrom L a s 0 d:=by
 intro k _ r;by_cases e:k < t
 ·have:=Nat.mul_le_mul_right s e;rw [Nat.succ_mul] at this;rw [Nat.min_eq_left oM];exact h k this
 ·have:k=t:=by
   rcases Nat.lt_trichotomy k t with c|c|c
   ·omega
   ·omega
   ·have:(t+1)*s≤k*s:=Nat.mul_le_mul_right s c;rw [Nat.add_mul,Nat.one_mul] at this;omega
  subst this;rw [Nat.min_eq_right oM];exact o
theorem BlocksFrom.whole {L:α → α → Bool} {e d:Array α} {s:Nat} (h:BlocksFrom L e s 0 d) (a:d.size=e.size) (t:e.size≤s):Loc L e 0 e.size d:=by
 by_cases c:e.size=0
 ·refine ⟨?_,fun i j _ _ _=>by omega⟩;rw [extract_toList d _ _ oM,extract_toList e _ _ oM];rw [c];simp
 ·have:=h 0 oM oM;rw [Nat.zero_mul,Nat.zero_add,Nat.min_eq_right t] at this;exact this
theorem Loc.perm_whole {L:α → α → Bool} {e d:Array α} (h:Loc L e 0 e.size d) (t:d.size=e.size):d.toList.Perm e.toList:=by
 have:=h.perm;rw [show d.extract 0 e.size=d by rw [← t];simp,show e.extract 0 e.size=e by simp] at this;exact this
end Go.Proofs.YtbecbfpoahhpnaaGreat.Sta
