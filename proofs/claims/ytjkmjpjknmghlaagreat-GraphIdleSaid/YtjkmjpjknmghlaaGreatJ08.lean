/-
  How often a window lies within (layer 4): shape.in, Steps, the document's Steps.
  A window's sum (layers 10, 13, 16): the plain form, flat over rows, columns, channels; by three channels' rows (lane).
  A node that is handed back (layer 25).
  The document's comparison of equal tensors (layer 5).
-/
import Derived.Test.YtjkmjpjknmghlaaGreatJ05
import Derived.Test.YtjkmjpjknmghlaaGreatJ07
set_option linter.unusedVariables false
set_option linter.unusedSimpArgs false
namespace Go.Proofs.YtjkmjpjknmghlaaGreat
open Go.RowKit Go.ChangeShapes Go.WideShapes
set_option maxRecDepth 100000
def inB (v lo hi:Int):Bool:=decide (lo≤v∧v≤hi)
theorem inB_t {v lo hi:Int} (h:lo≤v∧v≤hi):inB v lo hi=true:=decide_eq_true h
theorem inB_f {v lo hi:Int} (h:¬ (lo≤v∧v≤hi)):inB v lo hi=false:=decide_eq_false h
theorem in_any (v lo hi:Int) (w:World):Calls Tryz.prog 126 #[.int .i64 v,.int .i64 lo,.int .i64 hi] w fun e w'=>e=.returned (.bool (inB v lo hi))∧w=w':=by
 obtain ⟨r,hr⟩:∃ r,inB v lo hi=r:=⟨_,rfl⟩
 rw [hr]
 by_cases h1:lo≤v
 ·have t1:decide (lo≤v)=true:=decide_eq_true h1
  by_cases h2:v≤hi
  ·have t2:decide (v≤hi)=true:=decide_eq_true h2
   have R:=zH (show true=r by rw [← hr,inB_t ⟨h1,h2⟩])
   clear h1 h2 hr
   go_enter Tryz.func126,Tryz.ntmps126
   go_wp2_with fail
   go_ret
   exact ⟨ret_bool R.out,rfl⟩
  ·have t2:decide (v≤hi)=false:=decide_eq_false h2
   have R:=zH (show false=r by rw [← hr,inB_f (fun e=>h2 e.2)])
   clear h1 h2 hr
   go_enter Tryz.func126,Tryz.ntmps126
   go_wp2_with fail
   go_ret
   exact ⟨ret_bool R.out,rfl⟩
 ·have t1:decide (lo≤v)=false:=decide_eq_false h1
  have R:=zH (show false=r by rw [← hr,inB_f (fun e=>h1 e.1)])
  clear h1 hr
  go_enter Tryz.func126,Tryz.ntmps126
  go_wp2_with fail
  go_ret
  exact ⟨ret_bool R.out,rfl⟩
def stepOk (n k s p:Int):Prop:=1≤n∧n≤1024∧1≤k∧k≤5∧1≤s∧s≤4∧0≤p∧p≤4∧p < k
instance (n k s p:Int):Decidable (stepOk n k s p):=inferInstanceAs (Decidable (_∧_))
def stepsV (n k s p:Int):Int × Int:=if stepOk n k s p then (if n+2*p < k then (0,5) else ((n+2*p - k).tdiv s+1,0)) else (0,2)
theorem stepsV_bad {n k s p:Int} (h:¬ stepOk n k s p):stepsV n k s p=(0,2):=if_neg h
theorem stepsV_no {n k s p:Int} (h:stepOk n k s p) (h2:n+2*p < k):stepsV n k s p=(0,5):=by unfold stepsV;rw [if_pos h,if_pos h2]
theorem stepsV_yes {n k s p:Int} (h:stepOk n k s p) (h2:¬ n+2*p < k):stepsV n k s p=((n+2*p - k).tdiv s+1,0):=by unfold stepsV;rw [if_pos h,if_neg h2]
set_option maxHeartbeats 2000000 in
theorem steps_any (n k s p:Int) (w:World):Calls Tryz.prog 107 #[.int .i64 n,.int .i64 k,.int .i64 s,.int .i64 p] w fun e w'=>e=.returned (.tuple #[.int .i64 (stepsV n k s p).1,.int .i64 (stepsV n k s p).2])∧w=w':=by
 by_cases c:stepOk n k s p
 ·have t1:=inB_t (v:=n) (lo:=1) (hi:=1024) ⟨c.1,c.2.1⟩
  have t2:=inB_t (v:=k) (lo:=1) (hi:=5) ⟨c.2.2.1,c.2.2.2.1⟩
  have t3:=inB_t (v:=s) (lo:=1) (hi:=4) ⟨c.2.2.2.2.1,c.2.2.2.2.2.1⟩
  have t4:=inB_t (v:=p) (lo:=0) (hi:=4) ⟨c.2.2.2.2.2.2.1,c.2.2.2.2.2.2.2.1⟩
  have C:=c
  unfold stepOk at c
  have t5:decide (k≤p)=false:=by simp;omega
  have e1:IntKind.i64.wrap (2*p)=2*p:=IntWalk.i64_in _ (by omega)
  have e2:IntKind.i64.wrap (n+2*p)=n+2*p:=IntWalk.i64_in _ (by omega)
  by_cases h:n+2*p < k
  ·have t6:decide (n+2*p < k)=true:=decide_eq_true h
   have R:=zH (stepsV_no C h)
   clear c C h
   go_enter Tryz.func107,Tryz.ntmps107
   go_wp2_with (go_at_call 126;refine (in_any _ _ _ _).mono ?_;rintro e w' ⟨rfl,rfl⟩)
   go_ret2
   exact ⟨by rw [R.out];rfl,rfl⟩
  ·have t6:decide (n+2*p < k)=false:=decide_eq_false h
   have R:=zH (stepsV_yes C h)
   have e3:IntKind.i64.wrap (n+2*p - k)=n+2*p - k:=IntWalk.i64_in _ (by omega)
   have d0:0≤(n+2*p - k).tdiv s∧(n+2*p - k).tdiv s≤2000:=by
    rw [Int.tdiv_eq_ediv_of_nonneg (by omega)]
    refine ⟨Int.ediv_nonneg (by omega) (by omega),?_⟩
    exact Int.le_trans (Int.ediv_le_self _ (by omega)) (by omega)
   have s0:(s == 0)=false:=by simp;omega
   have hs0:s ≠ 0:=by omega
   have S0:=zH hs0
   generalize hd:(n+2*p - k).tdiv s=d at *
   have e4:IntKind.i64.wrap d=d:=IntWalk.i64_in _ (by omega)
   have e5:IntKind.i64.wrap (d+1)=d+1:=IntWalk.i64_in _ (by omega)
   clear c C h d0 hs0
   go_enter Tryz.func107,Tryz.ntmps107
   go_wp2_with (go_at_call 126;refine (in_any _ _ _ _).mono ?_;rintro e w' ⟨rfl,rfl⟩)
   go_ret2
   exact ⟨by rw [R.out];rfl,rfl⟩
 ·have R:=zH (stepsV_bad c)
  by_cases h1:1≤n∧n≤1024
  rotate_left
  ·have t1:=inB_f h1
   clear c h1
   go_enter Tryz.func107,Tryz.ntmps107
   go_wp2_with (go_at_call 126;refine (in_any _ _ _ _).mono ?_;rintro e w' ⟨rfl,rfl⟩)
   go_ret2
   exact ⟨by rw [R.out];rfl,rfl⟩
  have t1:=inB_t h1
  by_cases h2:1≤k∧k≤5
  rotate_left
  ·have t2:=inB_f h2
   clear c h1 h2
   go_enter Tryz.func107,Tryz.ntmps107
   go_wp2_with (go_at_call 126;refine (in_any _ _ _ _).mono ?_;rintro e w' ⟨rfl,rfl⟩)
   go_ret2
   exact ⟨by rw [R.out];rfl,rfl⟩
  have t2:=inB_t h2
  by_cases h3:1≤s∧s≤4
  rotate_left
  ·have t3:=inB_f h3
   clear c h1 h2 h3
   go_enter Tryz.func107,Tryz.ntmps107
   go_wp2_with (go_at_call 126;refine (in_any _ _ _ _).mono ?_;rintro e w' ⟨rfl,rfl⟩)
   go_ret2
   exact ⟨by rw [R.out];rfl,rfl⟩
  have t3:=inB_t h3
  by_cases h4:0≤p∧p≤4
  rotate_left
  ·have t4:=inB_f h4
   clear c h1 h2 h3 h4
   go_enter Tryz.func107,Tryz.ntmps107
   go_wp2_with (go_at_call 126;refine (in_any _ _ _ _).mono ?_;rintro e w' ⟨rfl,rfl⟩)
   go_ret2
   exact ⟨by rw [R.out];rfl,rfl⟩
  have t4:=inB_t h4
  have t5:decide (k≤p)=true:=by simp;unfold stepOk at c;omega
  clear c h1 h2 h3 h4
  go_enter Tryz.func107,Tryz.ntmps107
  go_wp2_with (go_at_call 126;refine (in_any _ _ _ _).mono ?_;rintro e w' ⟨rfl,rfl⟩)
  go_ret2
  exact ⟨by rw [R.out];rfl,rfl⟩
end Go.Proofs.YtjkmjpjknmghlaaGreat
namespace Go.Proofs.YtjkmjpjknmghlaaGreat
def px (H V C:Nat) (l:List Int) (za:Int) (y x:Int) (c:Nat):Int:=if 0≤y∧y < H∧0≤x∧x < V then l.getD ((y.toNat*V+x.toNat)*C+c) 0 - za else 0
def convN (H V C:Nat) (l:List Int) (za:Int) (w:List Int) (K S P:Nat) (o y x:Nat):Int :=
 sumN (K*K*C) fun q=>w.getD (o*(K*K*C)+q) 0*px H V C l za ((y*S+q / C / K:Nat) - P) ((x*S+q / C % K:Nat) - P) (q % C)
theorem nest_div (i j K C c:Nat) (hj:j < K) (hc:c < C):((i*K+j)*C+c) / C / K=i∧((i*K+j)*C+c) / C % K=j∧((i*K+j)*C+c) % C=c:=by
 have h1:((i*K+j)*C+c) / C=i*K+j:=by
  rw [Nat.mul_comm,Nat.mul_add_div (by omega),Nat.div_eq_of_lt hc,Nat.add_zero]
 have h2:((i*K+j)*C+c) % C=c:=by
  rw [Nat.mul_comm,Nat.mul_add_mod,Nat.mod_eq_of_lt hc]
 rw [h1,h2]
 refine ⟨?_,?_,rfl⟩
 ·rw [Nat.mul_comm,Nat.mul_add_div (by omega),Nat.div_eq_of_lt hj,Nat.add_zero]
 ·rw [Nat.mul_comm,Nat.mul_add_mod,Nat.mod_eq_of_lt hj]
theorem convN_nest (H V C:Nat) (l:List Int) (za:Int) (w:List Int) (K S P:Nat) (o y x:Nat) :
  convN H V C l za w K S P o y x=sumN K fun i=>sumN K fun j=>sumN C fun c=>w.getD (((o*K+i)*K+j)*C+c) 0*px H V C l za ((y*S+i:Nat) - P) ((x*S+j:Nat) - P) c:=by
 unfold convN
 rw [sumN_mul,sumN_mul]
 refine sumN_congr fun i hi=>sumN_congr fun j hj=>sumN_congr fun c hc=>?_
 obtain ⟨h1,h2,h3⟩:=nest_div i j K C c hj hc
 rw [h1,h2,h3]
 congr 2
 rw [show o*(K*K*C)+((i*K+j)*C+c)=((o*K+i)*K+j)*C+c from ?_]
 simp only [Nat.add_mul,Nat.mul_assoc,Nat.mul_add]
 ac_rfl
theorem winV_sum (xs:List (List Int)) (ws:List W3) (p:Nat):∀ k,winV xs ws p k=sumN k fun r=>(xs.getD r []).getD p 0*(ws.getD r (0,0,0)).1+(xs.getD r []).getD (p+1) 0*(ws.getD r (0,0,0)).2.1+(xs.getD r []).getD (p+2) 0*(ws.getD r (0,0,0)).2.2
 | 0=>rfl
 | k+1=>by rw [winV,sumN,winV_sum xs ws p k]
def rowV (H V C:Nat) (l:List Int) (za:Int) (P:Nat) (y:Int) (c:Nat):List Int:=(List.range (V+2*P)).map fun j:Nat=>px H V C l za y ((j:Int) - (P:Int)) c
def tapV (w:List Int) (C:Nat) (o i c:Nat):W3:=(w.getD (((o*3+i)*3+0)*C+c) 0,w.getD (((o*3+i)*3+1)*C+c) 0,w.getD (((o*3+i)*3+2)*C+c) 0)
def rowsV (H V C:Nat) (l:List Int) (za:Int) (P y:Nat):List (List Int):=(List.range (3*C)).map fun r:Nat=>rowV H V C l za P ((y+r / C:Nat) - P) (r % C)
def tapsV (w:List Int) (C o:Nat):List W3:=(List.range (3*C)).map fun r:Nat=>tapV w C o (r / C) (r % C)
theorem rowV_at (H V C:Nat) (l:List Int) (za:Int) (P:Nat) (y:Int) (c j:Nat) (hj:j < V+2*P):(rowV H V C l za P y c).getD j 0=px H V C l za y ((j:Int) - P) c:=by
 unfold rowV
 rw [List.getD_eq_getElem?_getD,List.getElem?_map,List.getElem?_range hj];rfl
theorem getD_range {α:Type} (n:Nat) (f:Nat → α) (z:α) (i:Nat) (h:i < n):((List.range n).map f).getD i z=f i:=by
 rw [List.getD_eq_getElem?_getD,List.getElem?_map,List.getElem?_range h];rfl
theorem lane_conv (H V C:Nat) (l:List Int) (za:Int) (w:List Int) (P o y x:Nat) (hx:x+2 < V+2*P) :
  winV (rowsV H V C l za P y) (tapsV w C o) x (3*C)=convN H V C l za w 3 1 P o y x:=by
 rw [winV_sum,convN_nest,sumN_mul]
 refine sumN_congr fun i hi=>?_
 rw [sumN_swap,]
 refine sumN_congr fun c hc=>?_
 have hr:i*C+c < 3*C:=by
  have:i*C≤2*C:=Nat.mul_le_mul_right C (by omega)
  omega
 have h1:(i*C+c) / C=i:=by rw [Nat.mul_comm,Nat.mul_add_div (by omega),Nat.div_eq_of_lt hc,Nat.add_zero]
 have h2:(i*C+c) % C=c:=by rw [Nat.mul_comm,Nat.mul_add_mod,Nat.mod_eq_of_lt hc]
 unfold rowsV tapsV
 rw [getD_range _ _ _ _ hr,getD_range _ _ _ _ hr,h1,h2,rowV_at _ _ _ _ _ _ _ _ _ (by omega),rowV_at _ _ _ _ _ _ _ _ _ (by omega),rowV_at _ _ _ _ _ _ _ _ _ (by omega),sumN_three]
 simp only [tapV,Nat.mul_one,Nat.add_zero]
 rw [Int.mul_comm (px _ _ _ _ _ _ ((x:Nat) - (P:Int)) _),Int.mul_comm (px _ _ _ _ _ _ ((((x+1:Nat)):Int) - (P:Int)) _),Int.mul_comm (px _ _ _ _ _ _ ((((x+2:Nat)):Int) - (P:Int)) _)]
end Go.Proofs.YtjkmjpjknmghlaaGreat
namespace Go.Proofs.YtjkmjpjknmghlaaGreat
open Go.RowKit Go.ChangeShapes Go.WideShapes
set_option maxRecDepth 100000
def RetNode (d:Node) (w:World) (e:Ending) (w':World):Prop :=
 ∃ (W:Option Addr) (nw cw:Nat) (B:Option Addr) (nb cb:Nat),e=.returned (.agg (nN d.kind d.a d.b d.k d.s d.p d.out d.za d.zb W nw cw B nb cb d.qm d.qs d.qz d.rm d.rs d.rz d.lo d.hi))∧Sl (tInt .i8) w' (bin w.heap.size w'.heap.size) W nw cw d.w∧Sl (tInt .i32) w' (bin w.heap.size w'.heap.size) B nb cb d.bias∧Below w.heap.size w w'
set_option maxHeartbeats 1000000
theorem same05_eq (t:Tensor) (A B:Option Addr) (n c m d:Nat) (w:World) (h:Sl (tInt .i8) w (blo w.heap.size) A n c t.data) (h':Sl (tInt .i8) w (blo w.heap.size) B m d t.data) :
  Calls Tryz.prog 10 #[.agg #[.int .i64 t.h,.int .i64 t.v,.int .i64 t.c,.slice A n c],.agg #[.int .i64 t.h,.int .i64 t.v,.int .i64 t.c,.slice B m d]] w fun e w'=>e=.returned (.bool true)∧Below w.heap.size w w':=by
 have hm:n≤9223372036854775807:=Nat.le_trans h.cap_le h.max_le
 have hnm:m=n:=h'.n_eq.symm.trans h.n_eq
 subst hnm
 have H:=zH h
 have H':=zH h'
 clear h h'
 obtain ⟨W2,hW2⟩:∃ W2,(w.alloc (.cells #[.int .i64 t.h,.int .i64 t.v,.int .i64 t.c,.slice A m c] 27)).alloc (.cells #[.int .i64 t.h,.int .i64 t.v,.int .i64 t.c,.slice B m d] 27)=W2:=⟨_,rfl⟩
 have g2:Below w.heap.size w W2:=by rw [← hW2];exact ((Below.refl _ _).alloc (Nat.le_refl _) _).alloc (by simp) _
 have BA:=zH (show Blk W2 w.heap.size 27 #[.int .i64 t.h,.int .i64 t.v,.int .i64 t.c,.slice A m c] by rw [← hW2];exact (Blk.now _ _ _ _ rfl).past _)
 have BB:=zH (show Blk W2 (w.heap.size+1) 27 #[.int .i64 t.h,.int .i64 t.v,.int .i64 t.c,.slice B m d] by rw [← hW2];exact Blk.now _ _ _ _ (by simp))
 have HW:=zH hW2
 clear hW2
 go_enter Tryz.func10,Tryz.ntmps10
 go_wp2_with fail
 rw [HW.out]
 clear HW
 have G2:=zH g2
 clear g2
 go_loopw [5] (fun i wr=>∃ k:Nat,k≤m∧i=.int .i64 k∧Below W2.heap.size W2 wr) (fun i _=>m - (intOf i).toNat)
 case atStart=>exact ⟨0,Nat.zero_le _,rfl,Below.refl _ _⟩
 case round =>
  obtain ⟨k,hk,rfl,hb⟩:=hrel
  have HB:=zH hb
  have bA:=BA.out.later hb
  have bB:=BB.out.later hb
  have a3:wr.cell? ⟨w.heap.size,3,none⟩=some (.slice A m c):=bA.cell 3
  have b3:wr.cell? ⟨w.heap.size+1,3,none⟩=some (.slice B m d):=bB.cell 3
  have g3:=below_call G2.out hb G2.out.size
  have G3:=zH g3
  by_cases hlt:k < m
  ·have t1:decide ((k:Int) < (m:Int))=true:=by simp;omega
   obtain ⟨b1,o1,rfl,_,_,c1,_⟩:=(H.out.later g3 (Nat.le_refl _)).int_at k hlt
   obtain ⟨b2,o2,rfl,_,_,c2,_⟩:=(H'.out.later g3 (Nat.le_refl _)).int_at k hlt
   generalize t.data.getD k 0=y at *
   have ty:(y != y)=false:=by simp
   have p0:(0:Int)≤(k:Int):=by omega
   have p1:(k:Int) < (m:Int):=by omega
   clear hb bA bB g3 hlt
   go_wp2_with fail
   go_quiet (fail)
   have hq:Below W2.heap.size W2 (wr.drewN nq):=below_drewN HB.out nq
   generalize wr.drewN nq=wq at *
   go_wp2_with fail
   exact ⟨⟨k+1,by omega,by go_num,hq⟩,by simp [intOf];omega⟩
  ·obtain rfl:k=m:=by omega
   have t1:decide ((k:Int) < (k:Int))=false:=by simp
   clear hb bA bB g3 hlt
   go_wp2_with fail
   go_ret
   exact ⟨rfl,G3.out⟩
end Go.Proofs.YtjkmjpjknmghlaaGreat
