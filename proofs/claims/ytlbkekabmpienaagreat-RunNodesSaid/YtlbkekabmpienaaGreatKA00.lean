/-
  Walks of dense (layer 18): numbers weighed by a row of weights, the program's and the document's.
  A region that draws its order and whose operations read, or call what only makes memory: one walk of the text's order serves every order (the kit's theorem on quiet regions, at the class 'old memory is as it was').
  Where a number lies (layer 4: shape.Index; layer 5: the document's Get); held between two limits (layer 1).
  The sums of channels (layer 17): the values, in whole numbers.
  The least and the greatest number (layer 5, the document's Reach).
-/
import Derived.Test.YtlbkekabmpienaaGreatChecked
import Derived.Deep.DeepFit
import Derived.Test.YtlbkekabmpienaaGreatJ01
import Derived.Test.YtlbkekabmpienaaGreatJ00
import Derived.Test.YtlbkekabmpienaaGreatJ05
import Derived.Test.YtlbkekabmpienaaGreatJ03
import Derived.Test.YtlbkekabmpienaaGreatJ04
import Derived.Test.YtlbkekabmpienaaGreatJ15
import Derived.Test.YtlbkekabmpienaaGreatJ02
import Derived.Test.YtlbkekabmpienaaGreatJ07
import Derived.Test.YtlbkekabmpienaaGreatJ08
import Derived.Test.YtlbkekabmpienaaGreatJ16
import Derived.Test.YtlbkekabmpienaaGreatJ06
namespace Go.Proofs.YtlbkekabmpienaaGreat
set_option linter.unusedVariables false
set_option linter.unusedSimpArgs false
open Go.RowKit Go.ChangeShapes Go.WideShapes
set_option maxRecDepth 100000
theorem same32_any (A A':Option Addr) (n cap n' cap':Nat) (l:List Int) (w:World) (h:Sl (tInt .i32) w (blo w.heap.size) A n cap l) (h':Sl (tInt .i32) w (blo w.heap.size) A' n' cap' l) :
  Calls Tryz.prog 40 #[.slice A n cap,.slice A' n' cap'] w fun e w'=>e=.returned (.bool true)∧Below w.heap.size w w':=by
 obtain rfl:n=n':=h.n_eq.symm.trans h'.n_eq
 have hm:n≤9223372036854775807:=Nat.le_trans h.cap_le h.max_le
 have H:=zH h
 have H':=zH h'
 clear h h'
 go_enter Tryz.func40,Tryz.ntmps40
 go_wp2_with fail
 go_loopw [5] (fun i wr=>∃ k:Nat,k≤n∧i=.int .i64 k∧wr.heap=w.heap∧Below w.heap.size w wr) (fun i _=>n - (intOf i).toNat)
 case atStart=>exact ⟨0,Nat.zero_le _,rfl,rfl,Below.refl _ _⟩
 case round =>
  obtain ⟨k,hk,rfl,hh,hb⟩:=hrel
  by_cases hlt:k < n
  ·obtain ⟨b,off,rfl,_,_,c0,i0⟩:=(H.out.below hb (fun _ h=>h)).int_at k hlt
   obtain ⟨b',off',rfl,_,_,c1,_⟩:=(H'.out.below hb (fun _ h=>h)).int_at k hlt
   have HH:=zH hh
   clear hh i0
   go_wp2_with fail
   go_quiet (fail)
   go_wp2_with fail
   exact ⟨⟨k+1,by omega,by go_num,HH.out,below_drewN hb _⟩,by simp [intOf];omega⟩
  ·go_wp2_with fail
   go_ret
   exact ⟨rfl,hb⟩
theorem rawSum_range (x w:List Int) (z:Int) (hx:∀ i,InK .i8 (x.getD i 0)) (hw:∀ i,InK .i8 (w.getD i 0)) (hz:InK .i8 z) (k:Nat):-32640*(k:Int)≤rawSum x w z k∧rawSum x w z k≤32640*k:=by
 induction k with
 | zero=>simp [rawSum]
 | succ k ih =>
  have h1:=hx k
  have h2:=hw k
  rw [inK_i8] at h1 h2 hz
  rw [rawSum]
  have h3:=mul_range8 (w.getD k 0) (x.getD k 0 - z) h2.1 h2.2 (by omega) (by omega)
  omega
theorem sum18_any (A A' A'':Option Addr) (n cap n' cap' n'' cap'' o:Nat) (x wl b:List Int) (z:Int) (w:World) (hx:Sl (tInt .i8) w (blo w.heap.size) A n cap x) (hw:Sl (tInt .i8) w (blo w.heap.size) A' n' cap' wl)
  (hb:Sl (tInt .i32) w (blo w.heap.size) A'' n'' cap'' b) (hz:InK .i8 z) (ho:o < n'') (hn:o*n+n≤n') (hn':n'≤1073741824) (hn'':n''≤1073741824) :
  Calls Tryz.prog 125 #[.slice A n cap,.slice A' n' cap',.slice A'' n'' cap'',.int .i8 z,.int .i64 o] w fun e w' =>
   e=.returned (.int .i64 (b.getD o 0+rawSum x (wl.drop (o*n)) z n))∧Below w.heap.size w w':=by
 have hm:n≤1073741824:=by omega
 have hR:=rawSum_range x (wl.drop (o*n)) z hx.allK (fun i=>by rw [List.getD_eq_getElem?_getD,List.getElem?_drop,← List.getD_eq_getElem?_getD];exact hw.allK _) hz
 have HR:=zH hR
 have hz':=inK_i8.1 hz
 obtain ⟨z1,z2⟩:=hz'
 obtain ⟨bb,boff,rfl,_,hbb,cb,ib⟩:=hb.int_at o ho
 rw [inK_i32] at ib
 obtain ⟨ib1,ib2⟩:=ib
 obtain ⟨p,hp⟩:∃ p:Nat,o*n=p:=⟨_,rfl⟩
 have hpi:(o:Int)*(n:Int)=(p:Int):=by rw [← hp];simp
 have ho':o≤1073741824:=by omega
 rw [hp] at hn
 have HX:=zH hx
 have HW:=zH hw
 have HP:=zH hp
 clear hx hw hb hp hR
 generalize hB:b.getD o 0=bo at *
 have HB:=zH hB
 clear hB
 go_enter Tryz.func125,Tryz.ntmps125
 go_wp2_with fail
 go_loopw [11,12] (fun s i wr=>∃ k:Nat,k≤n∧i=.int .i64 k∧s=.int .i64 (bo+rawSum x (wl.drop (o*n)) z k)∧Below w.heap.size w wr) (fun _ i _=>n - (intOf i).toNat)
 case atStart=>exact ⟨0,Nat.zero_le _,rfl,by simp [rawSum],Below.refl _ _⟩
 case round =>
  obtain ⟨k,hk,rfl,rfl,hb⟩:=hrel
  have hr1:=HR.out k
  by_cases hlt:k < n
  ·obtain ⟨b,off,rfl,_,_,c0,i0⟩:=(HX.out.below hb (fun _ h=>h)).int_at k hlt
   obtain ⟨b',off',rfl,_,_,c1,i1⟩:=(HW.out.below hb (fun _ h=>h)).int_at (p+k) (by omega)
   have hs:rawSum x (wl.drop (o*n)) z (k+1)=rawSum x (wl.drop (o*n)) z k+wl.getD (p+k) 0*(x.getD k 0 - z):=by
    simp only [rawSum,List.getD_eq_getElem?_getD,List.getElem?_drop,HP.out]
   generalize rawSum x (wl.drop (o*n)) z k=r at *
   generalize wl.getD (p+k) 0=wk at *
   generalize x.getD k 0=xk at *
   rw [inK_i8] at i0 i1
   obtain ⟨x1,x2⟩:=i0
   obtain ⟨w1,w2⟩:=i1
   have hm:=mul_range8 wk (xk - z) w1 w2 (by omega) (by omega)
   have HS:=zH hs
   clear hs
   go_wp2_with fail
   go_quiet (fail)
   go_wp2_with fail
   exact ⟨⟨k+1,by omega,by go_num,by rw [HS.out,Int.add_assoc],below_drewN hb _⟩,by simp [intOf];omega⟩
  ·obtain rfl:k=n:=by omega
   go_wp2_with fail
   go_ret
   exact ⟨rfl,hb⟩
theorem rline_bad (A A' A'':Option Addr) (n cap n' cap' n'' cap'':Nat) (z:Int) (w:World) (hbad:n=0 ∨ n''=0 ∨ n' ≠ n*n'') (h1:n≤1073741824) (h2:n'≤1073741824) (h3:n''≤1073741824) :
  Calls Tryz.prog 86 #[.slice A n cap,.slice A' n' cap',.slice A'' n'' cap'',.int .i8 z] w fun e w' =>
   e=.returned (.slice none 0 0)∧w=w':=by
 obtain ⟨p,hp⟩:∃ p:Nat,n*n''=p:=⟨_,rfl⟩
 have hpi:(n:Int)*(n'':Int)=(p:Int):=by rw [← hp];simp
 have hpl:p≤1152921504606846976:=by rw [← hp];exact Nat.mul_le_mul h1 h3
 rw [hp] at hbad
 clear hp
 by_cases c1:n=0
 ·have d1:((n:Int) == 0)=true:=by simp [c1]
  clear c1 hbad
  go_enter Tryz.func86,Tryz.ntmps86
  go_wp2_with fail
  go_ret
  exact ⟨rfl,rfl⟩
 have d1:((n:Int) == 0)=false:=by simp [c1]
 by_cases c2:n''=0
 ·have d2:((n'':Int) == 0)=true:=by simp [c2]
  clear c1 c2 hbad
  go_enter Tryz.func86,Tryz.ntmps86
  go_wp2_with fail
  go_ret
  exact ⟨rfl,rfl⟩
 have d2:((n'':Int) == 0)=false:=by simp [c2]
 have d3:((n':Int) != (p:Int))=true:=by rw [bne_iff_ne];omega
 clear c1 c2 hbad
 go_enter Tryz.func86,Tryz.ntmps86
 go_wp2_with fail
 go_ret
 exact ⟨rfl,rfl⟩
theorem rline_good (A A' A'':Option Addr) (n cap n' cap' n'' cap'':Nat) (x wl b:List Int) (z:Int) (w:World) (hx:Sl (tInt .i8) w (blo w.heap.size) A n cap x) (hw:Sl (tInt .i8) w (blo w.heap.size) A' n' cap' wl)
  (hb:Sl (tInt .i32) w (blo w.heap.size) A'' n'' cap'' b) (hz:InK .i8 z) (c1:1≤n) (c2:1≤n'') (c3:n'=n*n'') (h1:n≤1073741824) (h2:n'≤1073741824) (h3:n''≤1073741824) :
  Calls Tryz.prog 86 #[.slice A n cap,.slice A' n' cap',.slice A'' n'' cap'',.int .i8 z] w fun e w' =>
   ∃ v,e=.returned v∧Own (tInt .i32) w' (fun _=>False) w.heap.size 21 v n'' ((List.range n'').map fun o=>wrap32 (b.getD o 0+rawSum x (wl.drop (o*n)) z n))∧Below w.heap.size w w':=by
 have d1:((n:Int) == 0)=false:=by simp;omega
 have d2:((n'':Int) == 0)=false:=by simp;omega
 have hpi:(n:Int)*(n'':Int)=(n':Int):=by rw [c3];simp
 have d3:((n':Int) != (n':Int))=false:=by simp
 have HX:=zH hx
 have HW:=zH hw
 have HB:=zH hb
 have HC:=zH c3
 have HZ:=zH hz
 clear hx hw hb c3 hz
 go_enter Tryz.func86,Tryz.ntmps86
 go_wp2_with fail
 go_loopw [9,10] (fun v i wr=>∃ k:Nat,k≤n''∧i=.int .i64 k∧Below w.heap.size w wr ∧
   Own (tInt .i32) wr (fun _=>False) w.heap.size 21 v k ((List.range k).map fun o=>wrap32 (b.getD o 0+rawSum x (wl.drop (o*n)) z n))) (fun _ i _=>n'' - (intOf i).toNat)
 case atStart=>exact ⟨0,Nat.zero_le _,rfl,Below.refl _ _,Own.nil _ _ _ _ _⟩
 case round =>
  obtain ⟨k,hk,rfl,hb,hown⟩:=hrel
  by_cases hlt:k < n''
  ·have hpn:k*n+n≤n':=by
    rw [HC.out,← Nat.succ_mul,Nat.mul_comm n];exact Nat.mul_le_mul_right _ hlt
   have HOWN:=zH hown
   clear hown
   go_wp2_with fail
   refine (sum18_any _ _ _ _ _ _ _ _ _ k _ _ _ _ _ ((HX.out.later hb (Nat.le_refl _))) (HW.out.later hb (Nat.le_refl _)) (HB.out.later hb (Nat.le_refl _)) HZ.out hlt hpn h2 h3).mono ?_
   rintro e w2 ⟨rfl,hb2⟩
   have ho2:=HOWN.out.below hb2 (Nat.le_refl _) (fun _ h=>h.elim)
   have hbs:=hb2.size
   have hbz:=hb.size
   go_wp2_with (at_builtin;refine wpList_push (t:=tInt .i32) rfl _ _ rfl ei_i32 (v:=u9) rfl ho2 1 rfl _ ⟨rfl,by rw [inK_i32];exact wrap32_in _⟩ (by unfold maxLen;omega) (by omega) (by omega) (fun _ h=>h.elim) ?_;intro v' w3 ho3 hg3 _)
   refine ⟨⟨k+1,by omega,by go_num,(hb.trans (hb2.mono hbz)).grown hg3 (by omega) (fun k h=>(ho2.lt k h).1),?_⟩,by simp [intOf];omega⟩
   rw [List.range_succ,List.map_append]
   simpa using ho3
  ·obtain rfl:k=n'':=by omega
   go_wp2_with fail
   go_ret
   exact ⟨_,rfl,hown,hb⟩
theorem rline_any (A A' A'':Option Addr) (n cap n' cap' n'' cap'':Nat) (x wl b:List Int) (z:Int) (w:World) (hx:Sl (tInt .i8) w (blo w.heap.size) A n cap x) (hw:Sl (tInt .i8) w (blo w.heap.size) A' n' cap' wl)
  (hb:Sl (tInt .i32) w (blo w.heap.size) A'' n'' cap'' b) (hz:InK .i8 z) (h1:n≤1073741824) (h2:n'≤1073741824) (h3:n''≤1073741824) :
  Calls Tryz.prog 86 #[.slice A n cap,.slice A' n' cap',.slice A'' n'' cap'',.int .i8 z] w (RetSl (tInt .i32) w (denseLine x wl b z)):=by
 rw [denseLine_eq x wl b z n n' n'' hx.n_eq hw.n_eq hb.n_eq]
 by_cases hbad:n=0 ∨ n''=0 ∨ n' ≠ n*n''
 ·rw [if_pos hbad]
  refine (rline_bad _ _ _ _ _ _ _ _ _ _ _ hbad h1 h2 h3).mono ?_
  rintro e w' ⟨rfl,rfl⟩
  exact ⟨none,0,0,rfl,Sl.nil _ _ _,Below.refl _ _⟩
 ·rw [if_neg hbad]
  refine (rline_good _ _ _ _ _ _ _ _ _ _ _ _ _ _ hx hw hb hz (by omega) (by omega) (by omega) h1 h2 h3).mono ?_
  rintro e w' ⟨v,rfl,ho,hb'⟩
  exact ho.ret (by decide) hb' (fun _ h=>h.elim)
end Go.Proofs.YtlbkekabmpienaaGreat
set_option linter.unusedVariables false
set_option linter.unusedSimpArgs false
namespace Go.Proofs.YtlbkekabmpienaaGreat
open Go.RowKit
section
variable {P:Program} {w0:World}
theorem ext_cell {p:Addr} {v:Value} (h:w0.cell? p=some v) (x:Ext w0):x.1.cell? p=some v:=(x.2.cell (World.block_lt_of_cell? w0 _ h)).trans h
end
end Go.Proofs.YtlbkekabmpienaaGreat
namespace Go.Proofs.YtlbkekabmpienaaGreat
set_option linter.unusedVariables false
set_option linter.unusedSimpArgs false
open Go.RowKit Go.ChangeShapes Go.WideShapes
set_option maxRecDepth 100000
set_option maxHeartbeats 2000000
theorem rheld_any (v lo hi:Int) (w:World):Calls Tryz.prog 109 #[.int .i64 v,.int .i64 lo,.int .i64 hi] w fun e w'=>e=.returned (.int .i64 (heldV v lo hi))∧w=w':=by
 unfold heldV
 by_cases a1:v < lo
 ·rw [if_pos a1]
  go_enter Tryz.func109,Tryz.ntmps109
  go_wp2_with fail
  go_ret
  exact ⟨rfl,rfl⟩
 ·rw [if_neg a1]
  by_cases a2:v > hi
  ·rw [if_pos a2]
   go_enter Tryz.func109,Tryz.ntmps109
   go_wp2_with fail
   go_ret
   exact ⟨rfl,rfl⟩
  ·rw [if_neg a2]
   go_enter Tryz.func109,Tryz.ntmps109
   go_wp2_with fail
   go_ret
   exact ⟨rfl,rfl⟩
/-- The document's Get. -/
theorem rget_any (H V C:Nat) (A:Option Addr) (n cap:Nat) (l:List Int) (y x c:Nat) (w:World) (hs:Sl (tInt .i8) w (blo w.heap.size) A n cap l) (hn:n=H*V*C) (hn2:n≤1024) (hC:C≤1024) (hy:y < H) (hx:x < V) (hc:c < C) :
  Calls Tryz.prog 106 #[.agg #[.int .i64 H,.int .i64 V,.int .i64 C,.slice A n cap],.int .i64 y,.int .i64 x,.int .i64 c] w fun e w'=>e=.returned (.int .i8 (l.getD ((y*V+x)*C+c) 0))∧Below w.heap.size w w':=by
 have hi:(y*V+x)*C+c < n:=by rw [hn];exact idx_lt y x c H V C hy hx hc
 have FR:=zH (Far.refl w)
 obtain ⟨w1,hw_w1,BT,k_w1⟩:=nB w #[.int .i64 H,.int .i64 V,.int .i64 C,.slice A n cap] 32
 replace FR:=zH (FR.out.fut k_w1)
 clear k_w1
 obtain ⟨b,o,rfl,_,_,ci,_⟩:=(hs.later FR.out.out (Nat.le_refl _)).int_at _ hi
 have t1:=BT.out.cell 1
 have t2:=BT.out.cell 2
 have t3:=BT.out.cell 3
 obtain ⟨v,hv⟩:∃ v,l.getD ((y*V+x)*C+c) 0=v:=⟨_,rfl⟩
 rw [hv] at ci ⊢
 obtain ⟨q1,e1⟩:∃ m,y*V=m:=⟨_,rfl⟩
 have j1:(y:Int)*(V:Int)=(q1:Int):=by rw [← e1];simp
 rw [e1] at ci hi
 obtain ⟨q2,e2⟩:∃ m,(q1+x)*C=m:=⟨_,rfl⟩
 have j2:((q1:Int)+(x:Int))*(C:Int)=(q2:Int):=by rw [← e2];simp
 have b1:q1+x≤q2:=by rw [← e2];exact Nat.le_mul_of_pos_right _ (by omega)
 rw [e2] at ci hi
 have p1:(q2:Int)+(c:Int) < (n:Int):=by omega
 clear hs hv hn e1 e2
 go_enter Tryz.func106,Tryz.ntmps106
 go_wp2_with fail
 go_ret
 exact ⟨rfl,FR.out.out⟩
end Go.Proofs.YtlbkekabmpienaaGreat
namespace Go.Proofs.YtlbkekabmpienaaGreat
open Go.RowKit
set_option linter.unusedVariables false
set_option linter.unusedSimpArgs false
theorem range_snoc {α:Type} (f:Nat → α) (r:Nat):(List.range r).map f ++ [f r]=(List.range (r+1)).map f:=by simp [List.range_succ]
end Go.Proofs.YtlbkekabmpienaaGreat
namespace Go.Proofs.YtlbkekabmpienaaGreat
set_option linter.unusedVariables false
set_option linter.unusedSimpArgs false
open Go.RowKit Go.ChangeShapes Go.WideShapes Fx
set_option maxRecDepth 100000
set_option maxHeartbeats 4000000
def loN (l:List Int):Nat → Int
 | 0=>l.getD 0 0
 | k+1=>if l.getD k 0 < loN l k then l.getD k 0 else loN l k
theorem reach_any (A:Option Addr) (n cap:Nat) (l:List Int) (w:World) (hl:Sl (tInt .i8) w (blo w.heap.size) A n cap l) (hn:n≤1024) :
  Calls Tryz.prog 69 #[.slice A n cap] w fun e w'=>e=.returned (.tuple #[.int .i8 (if n=0 then 0 else loN l n),.int .i8 (if n=0 then 0 else hiN l n)])∧Below w.heap.size w w':=by
 have H:=zH hl
 clear hl
 by_cases n0:n=0
 ·rw [if_pos n0,if_pos n0]
  subst n0
  go_enter Tryz.func69,Tryz.ntmps69
  go_wp2_with fail
  go_ret2
  exact ⟨rfl,Below.refl _ _⟩
 rw [if_neg n0,if_neg n0]
 obtain ⟨b,o,rfl,-,-,c0,i0⟩:=H.out.int_at 0 (by omega)
 rw [Nat.add_zero] at c0
 have t0:((n:Int) == 0)=false:=by simp;omega
 have t1:¬ (n:Int)=0:=by omega
 have t2:0 < n:=by omega
 have L0:=zH (show loN l 0=l.getD 0 0 from rfl)
 have H0:=zH (show hiN l 0=l.getD 0 0 from rfl)
 obtain ⟨x0,hx0⟩:∃ x,l.getD 0 0=x:=⟨_,rfl⟩
 rw [hx0] at c0 i0 L0 H0
 clear hx0
 go_enter Tryz.func69,Tryz.ntmps69
 go_wp2_with fail
 go_quiet (fail)
 obtain ⟨wq,hwq⟩:∃ m,w.drewN nq=m:=⟨_,rfl⟩
 have FR:=zH (show Far w wq from ⟨by rw [← hwq];exact below_drewN (Below.refl _ _) _⟩)
 go_wp2_with fail
 rw [hwq]
 clear hwq c0
 go_loopw [4,5,6] (fun u v ii wr=>∃ k:Nat,k≤n∧ii=.int .i64 k∧u=.int .i8 (loN l k)∧v=.int .i8 (hiN l k)∧Far w wr) (fun _ _ ii _=>n - (intOf ii).toNat)
 case atStart=>exact ⟨0,Nat.zero_le _,rfl,by rw [L0.out],by rw [H0.out],FR.out⟩
 case round =>
  obtain ⟨k,hk,rfl,rfl,rfl,hf⟩:=hrel
  clear FR
  have FR:=zH hf
  clear hf
  by_cases hlt:k < n
  ·have p1:(k:Int) < (n:Int):=by omega
   obtain ⟨b',o',e',-,-,cx,ix⟩:=((Old.now H.out).fut FR.out.out).all.int_at k hlt
   simp only [Option.some.injEq,Addr.mk.injEq,and_true] at e'
   obtain ⟨rfl,rfl⟩:=e'
   have LS:=zH (show loN l (k+1)=if l.getD k 0 < loN l k then l.getD k 0 else loN l k from rfl)
   have HS:=zH (show hiN l (k+1)=if hiN l k < l.getD k 0 then l.getD k 0 else hiN l k from rfl)
   obtain ⟨x,hx⟩:∃ x,l.getD k 0=x:=⟨_,rfl⟩
   rw [hx] at cx ix LS HS
   clear hx
   go_wp2_with fail
   exact ⟨⟨k+1,by omega,by go_num,by rw [LS.out],by rw [HS.out],FR.out⟩,by simp [intOf];omega⟩
  ·obtain rfl:k=n:=by omega
   go_wp2_with fail
   go_ret2
   exact ⟨rfl,FR.out.out⟩
end Go.Proofs.YtlbkekabmpienaaGreat
