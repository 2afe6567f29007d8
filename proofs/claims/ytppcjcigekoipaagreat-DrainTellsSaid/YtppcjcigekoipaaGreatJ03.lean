/-
  shape and tensor (layers 4, 5): the number of elements of a shape, and whether a tensor is right; the program's and the document's.
-/
import Derived.Test.YtppcjcigekoipaaGreatJ02
import Derived.Test.YtppcjcigekoipaaGreatJ01
set_option linter.unusedVariables false
set_option linter.unusedSimpArgs false
namespace Go.Proofs.YtppcjcigekoipaaGreat
open Go.RowKit Go.ChangeShapes Go.WideShapes
set_option maxRecDepth 100000
def pre (l:List Int):Nat → Int
 | 0=>1
 | k+1=>pre l k*l.getD k 0
def preOk (l:List Int) (k:Nat):Prop:=∀ j,j < k → 1≤l.getD j 0∧pre l (j+1)≤1024
def prod3 (l:List Int):Int:=if 1≤l.getD 0 0∧pre l 1≤1024∧1≤l.getD 1 0∧pre l 2≤1024∧1≤l.getD 2 0∧pre l 3≤1024 then pre l 3 else 0
theorem prod3_good (l:List Int) (h:preOk l 3):prod3 l=pre l 3:=by
 have h0:=h 0 (by omega)
 have h1:=h 1 (by omega)
 have h2:=h 2 (by omega)
 unfold prod3;rw [if_pos ⟨h0.1,h0.2,h1.1,h1.2,h2.1,h2.2⟩]
theorem prod3_bad (l:List Int) (k:Nat) (hk:k < 3) (h:¬ (1≤l.getD k 0∧pre l (k+1)≤1024)):prod3 l=0:=by
 unfold prod3;rw [if_neg]
 rintro ⟨a,b,c,d,e,f⟩
 apply h
 match k,hk with
 | 0,_=>exact ⟨a,b⟩
 | 1,_=>exact ⟨c,d⟩
 | 2,_=>exact ⟨e,f⟩
theorem pre_pos (l:List Int) (k:Nat) (h:preOk l k):1≤pre l k∧pre l k≤1024:=by
 induction k with
 | zero=>exact ⟨by simp [pre],by simp [pre]⟩
 | succ k ih =>
  have h1:=ih (fun j hj=>h j (by omega))
  have h2:=h k (by omega)
  refine ⟨?_,h2.2⟩
  have:0 < pre l k*l.getD k 0:=Int.mul_pos (by omega) (by omega)
  rw [pre];omega
def elems (h w c:Int):Int:=if 16 < h ∨ 16 < w then 0 else prod3 [h,w,c]
theorem elems_iff (h w c:Int):elems h w c=if 1≤h∧h≤16∧1≤w∧w≤16∧1≤c∧c≤1024∧h*w*c≤1024 then h*w*c else 0:=by
 unfold elems
 by_cases h1:16 < h ∨ 16 < w
 ·rw [if_pos h1,if_neg (by omega)]
 ·rw [if_neg h1]
  unfold prod3
  simp only [pre,List.getD_cons_zero,List.getD_cons_succ,Int.one_mul]
  by_cases h2:1≤h∧h≤1024∧1≤w∧h*w≤1024∧1≤c∧h*w*c≤1024
  ·obtain ⟨a,b,d,e,f,g⟩:=h2
   have hm:1*c≤(h*w)*c:=Int.mul_le_mul_of_nonneg_right (by have:=Int.mul_pos (show 0 < h by omega) (show 0 < w by omega);omega) (by omega)
   rw [if_pos ⟨a,b,d,e,f,g⟩,if_pos (by omega)]
  ·rw [if_neg h2,if_neg]
   rintro ⟨a,b,d,e,f,g,i⟩
   apply h2
   have hm:h*w≤16*16:=Int.mul_le_mul b e (by omega) (by omega)
   omega
theorem elems_range (h w c:Int):0≤elems h w c∧elems h w c≤1024:=by
 rw [elems_iff]
 split
 ·rename_i h1
  have:=Int.mul_pos (Int.mul_pos (show 0 < h by omega) (show 0 < w by omega)) (show 0 < c by omega)
  omega
 ·omega
theorem product_any (l:List Int) (hl:l.length=3) (w:World) (h0:InK .i64 (l.getD 0 0)) (h1:InK .i64 (l.getD 1 0)) (h2:InK .i64 (l.getD 2 0)) :
  Calls Tryz.prog 131 #[.agg (sN (l.getD 0 0) (l.getD 1 0) (l.getD 2 0))] w fun e w'=>e=.returned (.int .i64 (prod3 l))∧Below w.heap.size w w':=by
 match l,hl with
 | [x,y,z],_ =>
 simp only [List.getD_cons_zero,List.getD_cons_succ] at h0 h1 h2 ⊢
 have hcell:∀ k,k < 3 → (w.alloc (.cells (sN x y z) 219)).cell? ⟨w.heap.size,k,none⟩=some (.int .i64 ([x,y,z].getD k 0))∧InK .i64 ([x,y,z].getD k 0):=by
  intro k hk
  match k,hk with
  | 0,_=>exact ⟨by simp [go_sem],h0⟩
  | 1,_=>exact ⟨by simp [go_sem],h1⟩
  | 2,_=>exact ⟨by simp [go_sem],h2⟩
 have HC:=zH hcell
 clear hcell h0 h1 h2
 go_enter Tryz.func131,Tryz.ntmps131
 go_wp2_with fail
 go_loop [3,7] (fun n i=>∃ k:Nat,k≤3∧i=.int .i64 k∧n=.int .i64 (pre [x,y,z] k)∧preOk [x,y,z] k) (fun _ i=>3 - (intOf i).toNat)
 case atStart=>exact ⟨0,Nat.zero_le _,rfl,rfl,fun j hj=>by omega⟩
 case round =>
  obtain ⟨k,hk,rfl,rfl,hok⟩:=hrel
  have hp:=pre_pos _ k hok
  by_cases hlt:k < 3
  ·obtain ⟨c,ic⟩:=HC.out k hlt
   have hb:=prod3_bad [x,y,z] k hlt
   have hpre:pre [x,y,z] (k+1)=pre [x,y,z] k*[x,y,z].getD k 0:=rfl
   have hok':1≤[x,y,z].getD k 0 → pre [x,y,z] (k+1)≤1024 → preOk [x,y,z] (k+1):=by
    intro a b j hj
    by_cases hjk:j < k
    ·exact hok j hjk
    ·obtain rfl:j=k:=by omega
     exact ⟨a,b⟩
   generalize hq:pre [x,y,z] k=q at *
   generalize [x,y,z].getD k 0=v at *
   rw [hpre] at hb hok'
   have HB:=zH hb
   have HO:=zH hok'
   have HP:=zH hpre
   have IC:=zH ic
   clear hb hok' hpre ic hok hq
   have iv:=inK_i64.1 IC.out
   go_wp2_with fail
   refine (satTimes_any q v _ (by rw [inK_i64];omega) IC.out).mono ?_
   rintro e w' ⟨rfl,rfl⟩
   unfold satEnd
   by_cases hin:InK .i64 (q*v)
   ·rw [if_pos hin]
    have hin':=inK_i64.1 hin
    have HIN:=zH hin
    clear hin
    generalize hqv:q*v=p at *
    have HQ:=zH hqv
    clear hqv
    by_cases t1:v < 1
    ·go_wp2_with fail
     go_ret
     exact ⟨ret_int (HB.out (by omega)).symm,by go_grown⟩
    ·by_cases t2:1024 < p
     ·go_wp2_with fail
      go_ret
      exact ⟨ret_int (HB.out (by omega)).symm,by go_grown⟩
     ·go_wp2_with fail
      exact ⟨⟨k+1,by omega,by go_num,by rw [HP.out],HO.out (by omega) (by omega)⟩,by simp [intOf];omega⟩
   ·rw [if_neg hin]
    have hbad:¬ (1≤v∧q*v≤1024):=by
     rintro ⟨a,b⟩
     apply hin
     rw [inK_i64]
     have:=Int.mul_pos (show 0 < q by omega) (show 0 < v by omega)
     omega
    have HBAD:=zH hbad
    clear hin hbad
    go_wp2_with fail
    go_ret
    exact ⟨ret_int (HB.out HBAD.out).symm,by go_grown⟩
  ·obtain rfl:k=3:=by omega
   have e:=prod3_good _ hok
   have E:=zH e
   clear e
   go_wp2_with fail
   go_ret
   exact ⟨ret_int E.out.symm,by go_grown⟩
theorem elems_any (h c:Int) (v:Int) (w:World) (h0:InK .i64 h) (h1:InK .i64 v) (h2:InK .i64 c) :
  Calls Tryz.prog 101 #[.agg (sN h v c)] w fun e w'=>e=.returned (.int .i64 (elems h v c))∧Below w.heap.size w w':=by
 have H0:=zH h0
 have H1:=zH h1
 have H2:=zH h2
 clear h0 h1 h2
 by_cases c1:16 < h
 ·go_enter Tryz.func101,Tryz.ntmps101
  go_wp2_with fail
  go_ret
  exact ⟨ret_int (by unfold elems;rw [if_pos (by omega)]),by go_grown⟩
 ·by_cases c2:16 < v
  ·go_enter Tryz.func101,Tryz.ntmps101
   go_wp2_with fail
   go_ret
   exact ⟨ret_int (by unfold elems;rw [if_pos (by omega)]),by go_grown⟩
  ·go_enter Tryz.func101,Tryz.ntmps101
   go_wp2_with fail
   refine (product_any [h,v,c] rfl _ H0.out H1.out H2.out).mono ?_
   rintro e w' ⟨rfl,hb⟩
   go_wp2_with fail
   go_ret
   exact ⟨ret_int (by unfold elems;rw [if_neg (by omega)]),((Below.refl _ _).alloc (Nat.le_refl _) _).trans (hb.mono (by simp))⟩
set_option maxHeartbeats 1600000 in
theorem relems_any (h c:Int) (v:Int) (w:World) (h0:InK .i64 h) (h1:InK .i64 v) (h2:InK .i64 c) :
  Calls Tryz.prog 28 #[.agg (sN h v c)] w fun e w'=>e=.returned (.int .i64 (elems h v c))∧Below w.heap.size w w':=by
 rw [elems_iff]
 by_cases hg:1≤h∧h≤16∧1≤v∧v≤16∧1≤c∧c≤1024
 ·obtain ⟨a1,a2,a3,a4,a5,a6⟩:=hg
  have p1:0≤h*v∧h*v≤256:=⟨Int.mul_nonneg (by omega) (by omega),Int.mul_le_mul a2 a4 (by omega) (by omega)⟩
  have p2:0≤h*v*c∧h*v*c≤256*1024:=⟨Int.mul_nonneg (by omega) (by omega),Int.mul_le_mul p1.2 a6 (by omega) (by omega)⟩
  by_cases hs:h*v*c≤1024
  ·rw [if_pos ⟨a1,a2,a3,a4,a5,a6,hs⟩]
   go_enter Tryz.func28,Tryz.ntmps28
   go_wp2_with fail
   go_ret
   exact ⟨rfl,by go_grown⟩
  ·rw [if_neg (by omega)]
   go_enter Tryz.func28,Tryz.ntmps28
   go_wp2_with fail
   go_ret
   exact ⟨rfl,by go_grown⟩
 ·rw [if_neg (by omega)]
  by_cases a1:1≤h
  rotate_left
  ·go_enter Tryz.func28,Tryz.ntmps28
   go_wp2_with fail
   go_ret
   exact ⟨rfl,by go_grown⟩
  by_cases a2:h≤16
  rotate_left
  ·go_enter Tryz.func28,Tryz.ntmps28
   go_wp2_with fail
   go_ret
   exact ⟨rfl,by go_grown⟩
  by_cases a3:1≤v
  rotate_left
  ·go_enter Tryz.func28,Tryz.ntmps28
   go_wp2_with fail
   go_ret
   exact ⟨rfl,by go_grown⟩
  by_cases a4:v≤16
  rotate_left
  ·go_enter Tryz.func28,Tryz.ntmps28
   go_wp2_with fail
   go_ret
   exact ⟨rfl,by go_grown⟩
  by_cases a5:1≤c
  rotate_left
  ·go_enter Tryz.func28,Tryz.ntmps28
   go_wp2_with fail
   go_ret
   exact ⟨rfl,by go_grown⟩
  have a6:¬ c≤1024:=by omega
  clear hg
  go_enter Tryz.func28,Tryz.ntmps28
  go_wp2_with fail
  go_ret
  exact ⟨rfl,by go_grown⟩
theorem shapeRight_any (h c:Int) (v:Int) (w:World) (h0:InK .i64 h) (h1:InK .i64 v) (h2:InK .i64 c) :
  Calls Tryz.prog 63 #[.agg (sN h v c)] w fun e w'=>e=.returned (.bool (decide (0 < elems h v c)))∧Below w.heap.size w w':=by
 have H0:=zH h0
 have H1:=zH h1
 have H2:=zH h2
 clear h0 h1 h2
 go_enter Tryz.func63,Tryz.ntmps63
 go_wp2_with fail
 refine (elems_any h c v _ H0.out H1.out H2.out).mono ?_
 rintro e w' ⟨rfl,hb⟩
 go_wp2_with fail
 go_ret
 exact ⟨rfl,((Below.refl _ _).alloc (Nat.le_refl _) _).trans (hb.mono (by simp))⟩
/-! ### Tensors -/
end Go.Proofs.YtppcjcigekoipaaGreat
