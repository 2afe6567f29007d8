/-
  Walks of dense (layer 18): numbers weighed by a row of weights, the program's and the document's.
  Tensors that may be (layer 5).
  '==' of arrays of numbers, of 8 and of 4.
-/
import Derived.Test.YtlbkekabmpienaaGreatChecked
import Derived.Deep.DeepFit
import Derived.Test.YtlbkekabmpienaaGreatJ01
import Derived.Test.YtlbkekabmpienaaGreatJ00
import Derived.Test.YtlbkekabmpienaaGreatJ04
import Derived.WalkKit
import Derived.ChangeKeysEq
namespace Go.Proofs.YtlbkekabmpienaaGreat
set_option linter.unusedVariables false
set_option linter.unusedSimpArgs false
open Go.RowKit Go.ChangeShapes Go.WideShapes
set_option maxRecDepth 100000
def rawSum (x w:List Int) (z:Int):Nat → Int
 | 0=>0
 | k+1=>rawSum x w z k+w.getD k 0*(x.getD k 0 - z)
def denseLine (x w b:List Int) (z:Int):List Int :=
 if x.length=0 ∨ b.length=0 ∨ w.length ≠ x.length*b.length then [] else (List.range b.length).map fun o=>wrap32 (b.getD o 0+rawSum x (w.drop (o*x.length)) z x.length)
theorem wrap32_add (a b:Int):wrap32 (wrap32 a+b)=wrap32 (a+b):=by unfold wrap32;omega
theorem wrap32_add' (a b:Int):wrap32 (a+wrap32 b)=wrap32 (a+b):=by unfold wrap32;omega
theorem wrap32_in (a:Int):-2147483648≤wrap32 a∧wrap32 a≤2147483647:=by unfold wrap32;omega
theorem weigh_any (px pz:Addr) (A A':Option Addr) (n cap n' cap':Nat) (x wl:List Int) (z:Int) (w:World) (hx:Sl (tInt .i8) w (blo w.heap.size) A n cap x) (hw:Sl (tInt .i8) w (blo w.heap.size) A' n' cap' wl)
  (hpx:w.cell? px=some (.slice A n cap)) (hpz:w.cell? pz=some (.int .i8 z)) (hz:InK .i8 z) (hn:n≤n') :
  Calls Tryz.prog 143 #[.slice A' n' cap',.pointer (some px),.pointer (some pz)] w fun e w'=>e=.returned (.int .i32 (wrap32 (rawSum x wl z n)))∧Below w.heap.size w w':=by
 have hm:n≤9223372036854775807:=Nat.le_trans hx.cap_le hx.max_le
 rw [inK_i8] at hz
 obtain ⟨z1,z2⟩:=hz
 have H:=zH hx
 have H':=zH hw
 have hbx:=World.block_lt_of_cell? w px hpx
 have hbz:=World.block_lt_of_cell? w pz hpz
 clear hx hw
 go_enter Tryz.func143,Tryz.ntmps143
 go_wp2_with fail
 go_loopw [5,10] (fun s i wr=>∃ k:Nat,k≤n∧i=.int .i64 k∧s=.int .i32 (wrap32 (rawSum x wl z k))∧Below w.heap.size w wr) (fun _ i _=>n - (intOf i).toNat)
 case atStart=>exact ⟨0,Nat.zero_le _,rfl,by simp [rawSum,wrap32],Below.refl _ _⟩
 case round =>
  obtain ⟨k,hk,rfl,rfl,hb⟩:=hrel
  have hpx':wr.cell? px=some (.slice A n cap):=(hb.cell hbx).trans hpx
  have hpz':wr.cell? pz=some (.int .i8 z):=(hb.cell hbz).trans hpz
  by_cases hlt:k < n
  ·obtain ⟨b,off,rfl,_,_,c0,i0⟩:=(H.out.below hb (fun _ h=>h)).int_at k hlt
   obtain ⟨b',off',rfl,_,_,c1,i1⟩:=(H'.out.below hb (fun _ h=>h)).int_at k (by omega)
   have hs:rawSum x wl z (k+1)=rawSum x wl z k+wl.getD k 0*(x.getD k 0 - z):=rfl
   generalize rawSum x wl z k=r at *
   generalize wl.getD k 0=wk at *
   generalize x.getD k 0=xk at *
   rw [inK_i8] at i0 i1
   have h32:=wrap32_in r
   obtain ⟨x1,x2⟩:=i0
   obtain ⟨w1,w2⟩:=i1
   have HS:=zH hs
   clear hs
   go_wp2_with fail
   go_quiet (fail)
   go_wp2_with fail
   exact ⟨⟨k+1,by omega,by go_num,by rw [HS.out,wrap32_add,wrap32_add'],below_drewN hb _⟩,by simp [intOf];omega⟩
  ·obtain rfl:k=n:=by omega
   go_wp2_with fail
   go_ret
   exact ⟨rfl,hb⟩
theorem mul_range8 (a b:Int) (h1:-128≤a) (h2:a≤127) (h3:-255≤b) (h4:b≤255):-32640≤a*b∧a*b≤32640:=by
 have k1:(128+a)*(255 - b) ≥ 0:=Int.mul_nonneg (by omega) (by omega)
 have k2:(128+a)*(255+b) ≥ 0:=Int.mul_nonneg (by omega) (by omega)
 have k3:(128 - a)*(255 - b) ≥ 0:=Int.mul_nonneg (by omega) (by omega)
 have k4:(128 - a)*(255+b) ≥ 0:=Int.mul_nonneg (by omega) (by omega)
 simp only [Int.add_mul,Int.sub_mul,Int.mul_sub,Int.mul_add] at k1 k2 k3 k4
 omega
theorem rawSum_take (x w:List Int) (z:Int) (n k:Nat) (h:k≤n):rawSum x (w.take n) z k=rawSum x w z k:=by
 induction k with
 | zero=>rfl
 | succ k ih =>
  rw [rawSum,rawSum,ih (by omega),List.getD_eq_getElem?_getD,List.getElem?_take,if_pos (by omega),← List.getD_eq_getElem?_getD]
theorem ei_i32:EI Tryz.prog 24 21 (.int .i32 0) 1 4:=⟨Tryz.underlying24,by kernel_rfl,rfl,by decide⟩
/-- A list that is being filled from the left. -/
def filling {α:Type} (z:α) (f:Nat → α) (n k:Nat):List α:=(List.range k).map f ++ List.replicate (n - k) z
theorem filling_zero {α:Type} (z:α) (f:Nat → α) (n:Nat):filling z f n 0=List.replicate n z:=by simp [filling]
theorem filling_all {α:Type} (z:α) (f:Nat → α) (n:Nat):filling z f n n=(List.range n).map f:=by simp [filling]
theorem filling_set {α:Type} (z:α) (f:Nat → α) (n k:Nat) (h:k < n):(filling z f n k).set k (f k)=filling z f n (k+1):=by
 unfold filling
 rw [List.set_append_right _ _ (by simp)]
 obtain ⟨m,rfl⟩:∃ m,n=k+m+1:=⟨n - k - 1,by omega⟩
 rw [show k+m+1 - k=m+1 by omega,show k+m+1 - (k+1)=m by omega,List.range_succ]
 simp [List.replicate_succ]
theorem line_bad (A A' A'' : Option Addr) (n cap n' cap' n'' cap'' : Nat) (x wl b : List Int) (z : Int) (w : World) (hx : Sl (tInt .i8) w (blo w.heap.size) A n cap x) (hw : Sl (tInt .i8) w (blo w.heap.size) A' n' cap' wl)
    (hb : Sl (tInt .i32) w (blo w.heap.size) A'' n'' cap'' b) (hbad : n = 0 ∨ n'' = 0 ∨ n' ≠ n * n'') (h1 : n ≤ 1073741824) (h2 : n' ≤ 1073741824) (h3 : n'' ≤ 1073741824) :
    Calls Tryz.prog 83 #[.slice A n cap, .slice A' n' cap', .slice A'' n'' cap'', .int .i8 z] w fun e w' =>
      e = .returned (.slice none 0 0) ∧ w = w' := by
  by_cases c1 : n = 0
  · have d1 : ((n : Int) == 0) = true := by simp [c1]
    clear c1 hbad
    go_enter Tryz.func83, Tryz.ntmps83
    go_wp2_with fail
    go_ret
    exact ⟨rfl, rfl⟩
  have d1 : ((n : Int) == 0) = false := by simp [c1]
  have q1 := IntWalk.tdiv_le (n' : Int) (n : Int) (by omega) (by omega)
  by_cases c2 : n'' = 0
  · have d2 : ((n'' : Int) == 0) = true := by simp [c2]
    have c1 : 1 ≤ n := by omega
    clear c2 hbad
    go_enter Tryz.func83, Tryz.ntmps83
    go_wp2_with fail
    go_ret
    exact ⟨rfl, rfl⟩
  have d2 : ((n'' : Int) == 0) = false := by simp [c2]
  have n1 : 1 ≤ n := by omega
  by_cases c3 : n' % n = 0
  · have d3 : (((n' : Int) % (n : Int)) != 0) = false := by
      have : ((n' : Int) % (n : Int)) = ((n' % n : Nat) : Int) := by simp
      rw [this, c3]; rfl
    have d4 : (((n' : Int) / (n : Int)) != (n'' : Int)) = true := by
      rw [bne_iff_ne]
      intro h
      have h' : n' / n = n'' := by have : ((n' : Int) / (n : Int)) = ((n' / n : Nat) : Int) := by simp
                                   rw [this] at h; omega
      have := Nat.div_add_mod n' n
      rw [h', c3] at this
      omega
    clear c1 c2 c3 hbad
    go_enter Tryz.func83, Tryz.ntmps83
    go_wp2_with fail
    go_ret
    exact ⟨rfl, rfl⟩
  · have d3 : (((n' : Int) % (n : Int)) != 0) = true := by
      have : ((n' : Int) % (n : Int)) = ((n' % n : Nat) : Int) := by simp
      rw [this, bne_iff_ne]; omega
    clear c1 c2 c3 hbad
    go_enter Tryz.func83, Tryz.ntmps83
    go_wp2_with fail
    go_ret
    exact ⟨rfl, rfl⟩
theorem line_good (A A' A'':Option Addr) (n cap n' cap' n'' cap'':Nat) (x wl b:List Int) (z:Int) (w:World) (hx:Sl (tInt .i8) w (blo w.heap.size) A n cap x) (hw:Sl (tInt .i8) w (blo w.heap.size) A' n' cap' wl)
  (hb:Sl (tInt .i32) w (blo w.heap.size) A'' n'' cap'' b) (hz:InK .i8 z) (c1:1≤n) (c2:1≤n'') (c3:n'=n*n'') (h1:n≤1073741824) (h2:n'≤1073741824) (h3:n''≤1073741824) :
  Calls Tryz.prog 83 #[.slice A n cap,.slice A' n' cap',.slice A'' n'' cap'',.int .i8 z] w fun e w' =>
   ∃ v,e=.returned v∧Own (tInt .i32) w' (fun _=>False) w.heap.size 21 v n'' ((List.range n'').map fun o=>wrap32 (b.getD o 0+rawSum x (wl.drop (o*n)) z n))∧Below w.heap.size w w':=by
 have d1:((n:Int) == 0)=false:=by simp;omega
 have d2:((n'':Int) == 0)=false:=by simp;omega
 have d3:(((n':Int) % (n:Int)) != 0)=false:=by
  have:((n':Int) % (n:Int))=((n' % n:Nat):Int):=by simp
  rw [this,c3];simp
 have d4:(((n':Int) / (n:Int)) != (n'':Int))=false:=by
  have:((n':Int) / (n:Int))=((n' / n:Nat):Int):=by simp
  rw [this,c3,Nat.mul_div_cancel_left _ (by omega)];simp
 have q1:=IntWalk.tdiv_le (n':Int) (n:Int) (by omega) (by omega)
 have HX:=zH hx
 have HW:=zH hw
 have HB:=zH hb
 have HC:=zH c3
 have HZ:=zH hz
 have h4:=hw.cap_le
 have h5:=hw.max_le
 clear hx hw hb c3 hz
 go_enter Tryz.func83,Tryz.ntmps83
 go_wp2_with (first|(go_at_call 124;go_in)|(at_make;refine wpList_make (t:=tInt .i32) (S:=fun _=>False) (base:=w.heap.size) rfl _ _ rfl ei_i32 .i64 .i64 _ _ n'' rfl rfl rfl rfl ?_ ?_ ?_ 0 ⟨rfl,by decide⟩ (fun _ h=>h.elim) ?_;rotate_right;intro w1 hown hg))
 rotate_left
 ·omega
 ·unfold maxLen;omega
 ·simp;omega
 have hb1:Below w.heap.size w w1:=(((Below.refl _ _).alloc (Nat.le_refl _) _).alloc (by simp) _).grown hg (by simp;omega) (by simp)
 have hcx:w1.cell? ⟨w.heap.size,0,none⟩=some (.slice A n cap):=(World.cell?_of_block (hg.block w.heap.size (by simp;omega) (by simp))).trans (by simp [World.cell?_alloc_past])
 have hcz:w1.cell? ⟨w.heap.size+1,0,none⟩=some (.int .i8 z):=(World.cell?_of_block (hg.block (w.heap.size+1) (by simp) (by simp))).trans (by simp [go_sem])
 have hsz:w.heap.size+2 < w1.heap.size:=by have:=(hown.lt _ rfl).2;simpa using this
 clear hg
 have HO:=zH hown
 clear hown
 go_loopw [47] (fun i wr=>∃ k:Nat,k≤n''∧i=.int .i64 k∧Below w.heap.size w wr∧wr.cell? ⟨w.heap.size,0,none⟩=some (.slice A n cap)∧wr.cell? ⟨w.heap.size+1,0,none⟩=some (.int .i8 z)∧w.heap.size+2 < wr.heap.size ∧
   Own (tInt .i32) wr (fun _=>False) w.heap.size 21 (.slice (some ⟨w.heap.size+1+1,0,none⟩) n'' n'') n'' (filling 0 (fun o=>wrap32 (b.getD o 0+rawSum x (wl.drop (o*n)) z n)) n'' k)) (fun i _=>n'' - (intOf i).toNat)
 case atStart=>exact ⟨0,Nat.zero_le _,rfl,hb1,hcx,hcz,hsz,by rw [filling_zero];simpa using HO.out⟩
 case round =>
  obtain ⟨k,hk,rfl,hb,hcx',hcz',hsz',hown⟩:=hrel
  clear hcx hcz hsz hb1
  have hle:∀ c,blo w.heap.size c → blo wr.heap.size c:=fun c h=>Nat.lt_of_lt_of_le h hb.size
  by_cases hlt:k < n''
  ·obtain ⟨bb,boff,rfl,_,_,cb,ib⟩:=(HB.out.below hb (fun _ h=>h)).int_at k hlt
   obtain ⟨p,hp⟩:∃ p:Nat,k*n=p:=⟨_,rfl⟩
   have hpi:(k:Int)*(n:Int)=(p:Int):=by rw [← hp];simp
   have hpi':((k:Int)+1)*(n:Int)=(p:Int)+n:=by rw [Int.add_mul,hpi];simp
   have hpn:p+n≤n':=by
    rw [HC.out,← hp,← Nat.succ_mul,Nat.mul_comm n];exact Nat.mul_le_mul_right _ hlt
   obtain ⟨b',off',hA',_,_,_⟩:=HW.out.int_at 0 (by omega)
   subst hA'
   have HOWN:=zH hown
   have HP:=zH hp
   have HLE:=zH hle
   clear hown hp hle
   generalize hbo:b.getD k 0=bo at *
   have HBO:=zH hbo
   clear hbo
   go_wp2_with fail
   have hsub:=HW.out.sub p n p (cap' - p) (by simp [tInt]) hpn (by omega) (by omega)
   refine (weigh_any _ _ _ _ _ _ _ _ _ _ _ _ ((HX.out.below hb (fun _ h=>h)).more HLE.out) ((hsub.below hb (fun _ h=>h)).more HLE.out) hcx' hcz' HZ.out (Nat.le_refl _)).mono ?_
   rintro e w2 ⟨rfl,hb2⟩
   have ho2:=HOWN.out.below hb2 (Nat.le_refl _) (fun _ h=>h.elim)
   obtain ⟨x0,u0,_,_,c5,c6,c7,_⟩:=ho2.cell rfl k hlt
   have H2:=zH ho2
   clear ho2
   have hcx2:=cell_below hb2 hcx' (by show w.heap.size < _;omega)
   have hcz2:=cell_below hb2 hcz' (by show w.heap.size+1 < _;omega)
   go_wp2_with fail
   have hbs:=hb2.size
   obtain ⟨o3,g3⟩:=H2.out.set1 rfl k (.int .i32 (wrap32 (bo+wrap32 (rawSum x (List.take n (List.drop p wl)) z n)))) (wrap32 (bo+wrap32 (rawSum x (List.take n (List.drop p wl)) z n))) ⟨rfl,by rw [inK_i32];exact wrap32_in _⟩ (fun _ h=>h.elim)
   refine ⟨⟨k+1,by omega,by go_num,(hb.trans (hb2.mono hb.size)).setCell (by simp;omega) _,?_,?_,by simp;omega,?_⟩,by simp [intOf];omega⟩
   ·rw [World.cell?_setCell_other _ _ _ _ (by simp)];exact hcx2
   ·rw [World.cell?_setCell_other _ _ _ _ (by simp)];exact hcz2
   ·rw [← filling_set 0 _ n'' k hlt]
    simp only [HBO.out,HP.out]
    rw [rawSum_take _ _ _ _ _ (Nat.le_refl _),wrap32_add'] at o3 ⊢
    exact o3
  ·obtain rfl:k=n'':=by omega
   go_wp2_with fail
   go_ret
   exact ⟨_,rfl,by rw [filling_all] at hown;exact hown,hb⟩
theorem denseLine_eq (x wl b:List Int) (z:Int) (n n' n'':Nat) (h1:x.length=n) (h2:wl.length=n') (h3:b.length=n'') :
  denseLine x wl b z=if n=0 ∨ n''=0 ∨ n' ≠ n*n'' then [] else (List.range n'').map fun o=>wrap32 (b.getD o 0+rawSum x (wl.drop (o*n)) z n):=by
 subst h1 h2 h3;rfl
theorem line_any (A A' A'':Option Addr) (n cap n' cap' n'' cap'':Nat) (x wl b:List Int) (z:Int) (w:World) (hx:Sl (tInt .i8) w (blo w.heap.size) A n cap x) (hw:Sl (tInt .i8) w (blo w.heap.size) A' n' cap' wl)
  (hb:Sl (tInt .i32) w (blo w.heap.size) A'' n'' cap'' b) (hz:InK .i8 z) (h1:n≤1073741824) (h2:n'≤1073741824) (h3:n''≤1073741824) :
  Calls Tryz.prog 83 #[.slice A n cap,.slice A' n' cap',.slice A'' n'' cap'',.int .i8 z] w (RetSl (tInt .i32) w (denseLine x wl b z)):=by
 rw [denseLine_eq x wl b z n n' n'' hx.n_eq hw.n_eq hb.n_eq]
 by_cases hbad:n=0 ∨ n''=0 ∨ n' ≠ n*n''
 ·rw [if_pos hbad]
  refine (line_bad _ _ _ _ _ _ _ _ _ _ _ _ _ _ hx hw hb hbad h1 h2 h3).mono ?_
  rintro e w' ⟨rfl,rfl⟩
  exact ⟨none,0,0,rfl,Sl.nil _ _ _,Below.refl _ _⟩
 ·rw [if_neg hbad]
  refine (line_good _ _ _ _ _ _ _ _ _ _ _ _ _ _ hx hw hb hz (by omega) (by omega) (by omega) h1 h2 h3).mono ?_
  rintro e w' ⟨v,rfl,ho,hb'⟩
  exact ho.ret (by decide) hb' (fun _ h=>h.elim)
end Go.Proofs.YtlbkekabmpienaaGreat
namespace Go.Proofs.YtlbkekabmpienaaGreat
open Go.RowKit Go.ChangeShapes Go.WideShapes
set_option maxRecDepth 100000
set_option linter.unusedVariables false
set_option linter.unusedSimpArgs false
theorem tensorRight_any (h v c:Int) (A:Option Addr) (n cap:Nat) (w:World) (h0:InK .i64 h) (h1:InK .i64 v) (h2:InK .i64 c) (hn:n≤maxLen) :
  Calls Tryz.prog 17 #[.agg #[.int .i64 h,.int .i64 v,.int .i64 c,.slice A n cap]] w fun e w'=>e=.returned (.bool (decide (0 < elems h v c∧elems h v c=n)))∧Below w.heap.size w w':=by
 have H0:=zH h0
 have H1:=zH h1
 have H2:=zH h2
 unfold maxLen at hn
 clear h0 h1 h2
 go_enter Tryz.func17,Tryz.ntmps17
 go_wp2_with fail
 refine (elems_any h c v _ H0.out H1.out H2.out).mono ?_
 rintro e w' ⟨rfl,hb⟩
 have hc:=cell_below hb (p:=⟨w.heap.size,3,none⟩) (v:=.slice A n cap) (by simp [go_sem]) (by simp)
 generalize he:elems h v c=m at *
 have HE:=zH he
 clear he
 by_cases hm:0 < m
 ·go_wp2_with fail
  go_ret
  exact ⟨ret_bool (by rw [HE.out,Bool.eq_iff_iff];simp [hm]),((Below.refl _ _).alloc (Nat.le_refl _) _).trans (hb.mono (by simp))⟩
 ·go_wp2_with fail
  go_ret
  exact ⟨ret_bool (by rw [HE.out,Bool.eq_iff_iff];simp;omega),((Below.refl _ _).alloc (Nat.le_refl _) _).trans (hb.mono (by simp))⟩
theorem rtensorRight_any (h v c:Int) (A:Option Addr) (n cap:Nat) (w:World) (h0:InK .i64 h) (h1:InK .i64 v) (h2:InK .i64 c) (hn:n≤maxLen) :
  Calls Tryz.prog 15 #[.agg #[.int .i64 h,.int .i64 v,.int .i64 c,.slice A n cap]] w fun e w'=>e=.returned (.bool (decide (0 < elems h v c∧elems h v c=n)))∧Below w.heap.size w w':=by
 have H0:=zH h0
 have H1:=zH h1
 have H2:=zH h2
 unfold maxLen at hn
 clear h0 h1 h2
 go_enter Tryz.func15,Tryz.ntmps15
 go_wp2_with fail
 have g1:Below w.heap.size w (w.alloc (.cells #[.int .i64 h,.int .i64 v,.int .i64 c,.slice A n cap] 32)):=by go_grown
 have bA:=Blk.now w w.heap.size 32 #[.int .i64 h,.int .i64 v,.int .i64 c,.slice A n cap] rfl
 generalize w.alloc (.cells #[.int .i64 h,.int .i64 v,.int .i64 c,.slice A n cap] 32)=w0 at *
 have BA:=zH bA
 have cA:∀ (x:Ext w0) (i:Nat),x.1.cell? ⟨w.heap.size,i,none⟩=(#[.int .i64 h,.int .i64 v,.int .i64 c,.slice A n cap]:Array Value)[i]?:=fun x i=>(BA.out.ext x).cell i
 clear bA
 have e1:∀ x:Ext w0,Calls Tryz.prog 45 #[.agg #[.int .i64 h,.int .i64 v,.int .i64 c]] x.1 fun e w''=>e=.returned (.int .i64 (elems h v c))∧∃ y:Ext w0,w''=y.1 :=
  fun x=>calls_ext x (relems_any h c v _ H0.out H1.out H2.out)
 generalize hm:elems h v c=m at *
 have E1:=zH e1
 have HM:=zH hm
 clear hm e1
 by_cases hm:0 < m
 ·refine wp_region_ext w0 (by kernel_rfl) (by kernel_rfl) (Below.refl _ _) ?_
  repeat (go_big_quiet_step ((exact E1.out _)))
  refine wpQuiet_nil ?_
  rintro _ ⟨⟨w3,hb⟩,rfl⟩
  go_wp2_with fail
  go_ret
  exact ⟨ret_bool (by rw [HM.out,Bool.eq_iff_iff];simp [hm]),below_call g1 hb g1.size⟩
 ·have hd:decide (0 < m)=false:=by simp;omega
  refine wp_region_ext w0 (by kernel_rfl) (by kernel_rfl) (Below.refl _ _) ?_
  repeat (go_big_quiet_step ((exact E1.out _)))
  refine wpQuiet_nil ?_
  rintro _ ⟨⟨w3,hb⟩,rfl⟩
  go_wp2_with fail
  go_ret
  exact ⟨ret_bool (by rw [HM.out,Bool.eq_iff_iff];simp;omega),below_call g1 hb g1.size⟩
end Go.Proofs.YtlbkekabmpienaaGreat
set_option linter.unusedVariables false
set_option linter.unusedSimpArgs false
namespace Go.Proofs.YtlbkekabmpienaaGreat
open Go
/-- '==' of arrays of 4 numbers. -/
theorem run_eql_arr4 {P:Program} {t e:TypeId} {k:IntKind} (w:World) (hT:P.underlying t=some (.array 4 e)) (hE:P.underlying e=some (.int k)) (hs:(P.info? e).map (·.size)=some 1) (hp:P.plainKey e=true) (a0 a1 a2 a3 b0 b1 b2 b3:Int) :
  (Op.equalIn 10000 t (.agg #[.int k a0,.int k a1,.int k a2,.int k a3]) (.agg #[.int k b0,.int k b1,.int k b2,.int k b3])).run P w=.ok ([a0,a1,a2,a3] == [b0,b1,b2,b3]) w:=by
 have hsz:(Go.sizeOf e).run P w=.ok 1 w:=by
  cases hq:P.info? e with
  | none=>simp [hq] at hs
  | some i =>
   have:i.size=1:=by simpa [hq] using hs
   simp [Go.sizeOf,typeInfo,hq,this]
 have hpart:∀ (xs:Array Value) (off:Nat),off < xs.size → (part e xs off).run P w=.ok xs[off]! w:=fun xs off h=>run_part_plain (w:=w) hp (by simp [h])
 have hq:∀ x y:Int,(Op.equalIn 9999 e (.int k x) (.int k y)).run P w=.ok (x == y) w:=fun x y=>by
  show (Op.equalIn (9998+1) e _ _).run P w=_
  exact run_equalIn_int w 9998 e k k x y hE
 show (Op.equalIn (9999+1) t _ _).run P w=_
 unfold Op.equalIn
 simp only [Sem.run_bind,run_underlying hT w,Result.andThen_ok]
 simp [Std.Legacy.Range.forIn_eq_forIn_range',Std.Legacy.Range.size,List.range',Sem.run_bind,hpart,hq,hsz]
 by_cases h0:a0=b0
 rotate_left
 ·simp [h0]
 subst h0
 try simp
 by_cases h1:a1=b1
 rotate_left
 ·simp [h1]
 subst h1
 try simp
 by_cases h2:a2=b2
 rotate_left
 ·simp [h2]
 subst h2
 try simp
 by_cases h3:a3=b3
 rotate_left
 ·simp [h3]
 subst h3
 try simp
/-- '==' of arrays of 8 numbers. -/
theorem run_eql_arr8 {P:Program} {t e:TypeId} {k:IntKind} (w:World) (hT:P.underlying t=some (.array 8 e)) (hE:P.underlying e=some (.int k)) (hs:(P.info? e).map (·.size)=some 1) (hp:P.plainKey e=true) (a0 a1 a2 a3 a4 a5 a6 a7 b0 b1 b2 b3 b4 b5 b6 b7:Int) :
  (Op.equalIn 10000 t (.agg #[.int k a0,.int k a1,.int k a2,.int k a3,.int k a4,.int k a5,.int k a6,.int k a7]) (.agg #[.int k b0,.int k b1,.int k b2,.int k b3,.int k b4,.int k b5,.int k b6,.int k b7])).run P w=.ok ([a0,a1,a2,a3,a4,a5,a6,a7] == [b0,b1,b2,b3,b4,b5,b6,b7]) w:=by
 have hsz:(Go.sizeOf e).run P w=.ok 1 w:=by
  cases hq:P.info? e with
  | none=>simp [hq] at hs
  | some i =>
   have:i.size=1:=by simpa [hq] using hs
   simp [Go.sizeOf,typeInfo,hq,this]
 have hpart:∀ (xs:Array Value) (off:Nat),off < xs.size → (part e xs off).run P w=.ok xs[off]! w:=fun xs off h=>run_part_plain (w:=w) hp (by simp [h])
 have hq:∀ x y:Int,(Op.equalIn 9999 e (.int k x) (.int k y)).run P w=.ok (x == y) w:=fun x y=>by
  show (Op.equalIn (9998+1) e _ _).run P w=_
  exact run_equalIn_int w 9998 e k k x y hE
 show (Op.equalIn (9999+1) t _ _).run P w=_
 unfold Op.equalIn
 simp only [Sem.run_bind,run_underlying hT w,Result.andThen_ok]
 simp [Std.Legacy.Range.forIn_eq_forIn_range',Std.Legacy.Range.size,List.range',Sem.run_bind,hpart,hq,hsz]
 by_cases h0:a0=b0
 rotate_left
 ·simp [h0]
 subst h0
 try simp
 by_cases h1:a1=b1
 rotate_left
 ·simp [h1]
 subst h1
 try simp
 by_cases h2:a2=b2
 rotate_left
 ·simp [h2]
 subst h2
 try simp
 by_cases h3:a3=b3
 rotate_left
 ·simp [h3]
 subst h3
 try simp
 by_cases h4:a4=b4
 rotate_left
 ·simp [h4]
 subst h4
 try simp
 by_cases h5:a5=b5
 rotate_left
 ·simp [h5]
 subst h5
 try simp
 by_cases h6:a6=b6
 rotate_left
 ·simp [h6]
 subst h6
 try simp
 by_cases h7:a7=b7
 rotate_left
 ·simp [h7]
 subst h7
 try simp
/-- '==' of structs of three numbers. -/
theorem run_eql_st3 {P : Program} {t : TypeId} {f0 f1 f2 : Field} {k0 k1 k2 : IntKind} (w : World) (hT : P.underlying t = some (.struct #[f0, f1, f2])) (hst : P.stoodInHeld t = false) (hn : f0.name ≠ "_" ∧ f1.name ≠ "_" ∧ f2.name ≠ "_") (ho : f0.offset = 0 ∧ f1.offset = 1 ∧ f2.offset = 2)
  (h0:P.underlying f0.type=some (.int k0)) (h1:P.underlying f1.type=some (.int k1)) (h2:P.underlying f2.type=some (.int k2)) (p0:P.plainKey f0.type=true) (p1:P.plainKey f1.type=true) (p2:P.plainKey f2.type=true) (a0 a1 a2 b0 b1 b2:Int) :
  (Op.equalIn 10000 t (.agg #[.int k0 a0,.int k1 a1,.int k2 a2]) (.agg #[.int k0 b0,.int k1 b1,.int k2 b2])).run P w=.ok ([a0,a1,a2] == [b0,b1,b2]) w:=by
 have q0:∀ (xs:Array Value) (off:Nat),off < xs.size → (part f0.type xs off).run P w=.ok xs[off]! w:=fun xs off h=>run_part_plain (w:=w) p0 (by simp [h])
 have q1:∀ (xs:Array Value) (off:Nat),off < xs.size → (part f1.type xs off).run P w=.ok xs[off]! w:=fun xs off h=>run_part_plain (w:=w) p1 (by simp [h])
 have q2:∀ (xs:Array Value) (off:Nat),off < xs.size → (part f2.type xs off).run P w=.ok xs[off]! w:=fun xs off h=>run_part_plain (w:=w) p2 (by simp [h])
 have e0:∀ x y:Int,(Op.equalIn 9999 f0.type (.int k0 x) (.int k0 y)).run P w=.ok (x == y) w:=fun x y=>by
  show (Op.equalIn (9998+1) _ _ _).run P w=_
  exact run_equalIn_int w 9998 f0.type k0 k0 x y h0
 have e1:∀ x y:Int,(Op.equalIn 9999 f1.type (.int k1 x) (.int k1 y)).run P w=.ok (x == y) w:=fun x y=>by
  show (Op.equalIn (9998+1) _ _ _).run P w=_
  exact run_equalIn_int w 9998 f1.type k1 k1 x y h1
 have e2:∀ x y:Int,(Op.equalIn 9999 f2.type (.int k2 x) (.int k2 y)).run P w=.ok (x == y) w:=fun x y=>by
  show (Op.equalIn (9998+1) _ _ _).run P w=_
  exact run_equalIn_int w 9998 f2.type k2 k2 x y h2
 show (Op.equalIn (9999+1) t _ _).run P w=_
 unfold Op.equalIn
 simp only [Sem.run_bind,run_underlying hT w,Result.andThen_ok]
 simp [Sem.run_bind,q0,q1,q2,e0,e1,e2,hst,hn.1,hn.2.1,hn.2.2,ho.1,ho.2.1,ho.2.2,run_program]
 by_cases h0:a0=b0
 rotate_left
 ·simp [h0]
 subst h0
 try simp
 by_cases h1:a1=b1
 rotate_left
 ·simp [h1]
 subst h1
 try simp
 by_cases h2:a2=b2
 rotate_left
 ·simp [h2]
 subst h2
 try simp
/-- '==' of two aggregates, out of a run of the comparison. -/
theorem wpList_eql_agg {P:Program} {ops:Array Oper} {rest:List Oper} {o:Oper} {a:Act} {w:World} {Q:Exit → Act → World → Prop} (t u:TypeId) (x y:Operand) (ho:o.op=.binOp .eql t x y u) (xs ys:Array Value) (hx:a.eval x=.agg xs) (hy:a.eval y=.agg ys)
  (hw:Region.wanted o (yielded ops a.tmps)=true) (hm:P.eqGuardType P.depth t=false) (b:Bool) (hrun:(Op.equalIn 10000 t (.agg xs) (.agg ys)).run P w=.ok b w) (h:wpList P ops Q rest (a.put o.dst (.bool b)) w):wpList P ops Q (o :: rest) a w:=by
 refine BigFrame.wpList_want hw fun K hK=>?_
 unfold Oper.wp execOp
 simp only [ho,hx,hy,Sem.run_bind,fun w=>run_eqGuard_agg (P:=P) w .eql t x y xs ys hm,run_eql_struct,hrun,Result.andThen_ok,Sem.run_pure]
 exact hK _ _ (by simpa using h)
end Go.Proofs.YtlbkekabmpienaaGreat
