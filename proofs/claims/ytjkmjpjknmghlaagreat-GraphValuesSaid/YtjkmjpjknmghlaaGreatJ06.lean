/-
  Walks of dense (layer 18): numbers weighed by a row of weights, the program's and the document's.
  Walks of dense (layer 18): the shape that a node makes, all sums of a tensor; the program's and the document's.
-/
import Derived.Test.YtjkmjpjknmghlaaGreatJ05
set_option linter.unusedVariables false
set_option linter.unusedSimpArgs false
namespace Go.Proofs.YtjkmjpjknmghlaaGreat
open Go.RowKit Go.ChangeShapes Go.WideShapes
set_option maxRecDepth 100000
def rawSum (x w:List Int) (z:Int):Nat → Int
 | 0=>0
 | k+1=>rawSum x w z k+w.getD k 0*(x.getD k 0 - z)
def denseLine (x w b:List Int) (z:Int):List Int :=
 if x.length=0 ∨ b.length=0 ∨ w.length ≠ x.length*b.length then [] else (List.range b.length).map fun o=>wrap32 (b.getD o 0+rawSum x (w.drop (o*x.length)) z x.length)
theorem wrap32_add (a b:Int):wrap32 (wrap32 a+b)=wrap32 (a+b):=by unfold wrap32;omega
theorem wrap32_add' (a b:Int):wrap32 (a+wrap32 b)=wrap32 (a+b):=by unfold wrap32;omega
theorem wrap32_in (a:Int):-2147483648≤wrap32 a∧wrap32 a≤2147483647:=by unfold wrap32;omega
theorem weigh_any (px pz:Addr) (A A':Option Addr) (n cap n' cap':Nat) (x wl:List Int) (z:Int) (w:World) (hx:Sl (tInt .i8) w (blo w.heap.size) A n cap x) (hw:Sl (tInt .i8) w (blo w.heap.size) A' n' cap' wl)
  (hpx:w.cell? px=some (.slice A n cap)) (hpz:w.cell? pz=some (.int .i8 z)) (hz:InK .i8 z) (hn:n≤n') :
  Calls Tryz.prog 164 #[.slice A' n' cap',.pointer (some px),.pointer (some pz)] w fun e w'=>e=.returned (.int .i32 (wrap32 (rawSum x wl z n)))∧Below w.heap.size w w':=by
 have hm:n≤9223372036854775807:=Nat.le_trans hx.cap_le hx.max_le
 rw [inK_i8] at hz
 obtain ⟨z1,z2⟩:=hz
 have H:=zH hx
 have H':=zH hw
 have hbx:=World.block_lt_of_cell? w px hpx
 have hbz:=World.block_lt_of_cell? w pz hpz
 clear hx hw
 go_enter Tryz.func164,Tryz.ntmps164
 go_wp2_with fail
 go_loopw [5,10] (fun s i wr=>∃ k:Nat,k≤n∧i=.int .i64 k∧s=.int .i32 (wrap32 (rawSum x wl z k))∧Below w.heap.size w wr) (fun _ i _=>n - (intOf i).toNat)
 case atStart=>exact ⟨0,Nat.zero_le _,rfl,by simp [rawSum,wrap32],Below.refl _ _⟩
 case round =>
  obtain ⟨k,hk,rfl,rfl,hb⟩:=hrel
  have hpx':wr.cell? px=some (.slice A n cap):=(hb.cell hbx).trans hpx
  have hpz':wr.cell? pz=some (.int .i8 z):=(hb.cell hbz).trans hpz
  by_cases hlt:k < n
  ·obtain ⟨b,off,rfl,_,_,c0,i0⟩:=(H.out.below hb (fun _ h=>h)).int_at k hlt
   obtain ⟨b',off',rfl,_,_,c1,i1⟩:=(H'.out.below hb (fun _ h=>h)).int_at k (by omega)
   have hs:rawSum x wl z (k+1)=rawSum x wl z k+wl.getD k 0*(x.getD k 0 - z):=rfl
   generalize rawSum x wl z k=r at *
   generalize wl.getD k 0=wk at *
   generalize x.getD k 0=xk at *
   rw [inK_i8] at i0 i1
   have h32:=wrap32_in r
   obtain ⟨x1,x2⟩:=i0
   obtain ⟨w1,w2⟩:=i1
   have HS:=zH hs
   clear hs
   go_wp2_with fail
   go_quiet (fail)
   go_wp2_with fail
   exact ⟨⟨k+1,by omega,by go_num,by rw [HS.out,wrap32_add,wrap32_add'],below_drewN hb _⟩,by simp [intOf];omega⟩
  ·obtain rfl:k=n:=by omega
   go_wp2_with fail
   go_ret
   exact ⟨rfl,hb⟩
theorem mul_range8 (a b:Int) (h1:-128≤a) (h2:a≤127) (h3:-255≤b) (h4:b≤255):-32640≤a*b∧a*b≤32640:=by
 have k1:(128+a)*(255 - b) ≥ 0:=Int.mul_nonneg (by omega) (by omega)
 have k2:(128+a)*(255+b) ≥ 0:=Int.mul_nonneg (by omega) (by omega)
 have k3:(128 - a)*(255 - b) ≥ 0:=Int.mul_nonneg (by omega) (by omega)
 have k4:(128 - a)*(255+b) ≥ 0:=Int.mul_nonneg (by omega) (by omega)
 simp only [Int.add_mul,Int.sub_mul,Int.mul_sub,Int.mul_add] at k1 k2 k3 k4
 omega
theorem rawSum_take (x w:List Int) (z:Int) (n k:Nat) (h:k≤n):rawSum x (w.take n) z k=rawSum x w z k:=by
 induction k with
 | zero=>rfl
 | succ k ih =>
  rw [rawSum,rawSum,ih (by omega),List.getD_eq_getElem?_getD,List.getElem?_take,if_pos (by omega),← List.getD_eq_getElem?_getD]
theorem rawSum_range (x w:List Int) (z:Int) (hx:∀ i,InK .i8 (x.getD i 0)) (hw:∀ i,InK .i8 (w.getD i 0)) (hz:InK .i8 z) (k:Nat):-32640*(k:Int)≤rawSum x w z k∧rawSum x w z k≤32640*k:=by
 induction k with
 | zero=>simp [rawSum]
 | succ k ih =>
  have h1:=hx k
  have h2:=hw k
  rw [inK_i8] at h1 h2 hz
  rw [rawSum]
  have h3:=mul_range8 (w.getD k 0) (x.getD k 0 - z) h2.1 h2.2 (by omega) (by omega)
  omega
theorem sum18_any (A A' A'':Option Addr) (n cap n' cap' n'' cap'' o:Nat) (x wl b:List Int) (z:Int) (w:World) (hx:Sl (tInt .i8) w (blo w.heap.size) A n cap x) (hw:Sl (tInt .i8) w (blo w.heap.size) A' n' cap' wl)
  (hb:Sl (tInt .i32) w (blo w.heap.size) A'' n'' cap'' b) (hz:InK .i8 z) (ho:o < n'') (hn:o*n+n≤n') (hn':n'≤1073741824) (hn'':n''≤1073741824) :
  Calls Tryz.prog 125 #[.slice A n cap,.slice A' n' cap',.slice A'' n'' cap'',.int .i8 z,.int .i64 o] w fun e w' =>
   e=.returned (.int .i64 (b.getD o 0+rawSum x (wl.drop (o*n)) z n))∧Below w.heap.size w w':=by
 have hm:n≤1073741824:=by omega
 have hR:=rawSum_range x (wl.drop (o*n)) z hx.allK (fun i=>by rw [List.getD_eq_getElem?_getD,List.getElem?_drop,← List.getD_eq_getElem?_getD];exact hw.allK _) hz
 have HR:=zH hR
 have hz':=inK_i8.1 hz
 obtain ⟨z1,z2⟩:=hz'
 obtain ⟨bb,boff,rfl,_,hbb,cb,ib⟩:=hb.int_at o ho
 rw [inK_i32] at ib
 obtain ⟨ib1,ib2⟩:=ib
 obtain ⟨p,hp⟩:∃ p:Nat,o*n=p:=⟨_,rfl⟩
 have hpi:(o:Int)*(n:Int)=(p:Int):=by rw [← hp];simp
 have ho':o≤1073741824:=by omega
 rw [hp] at hn
 have HX:=zH hx
 have HW:=zH hw
 have HP:=zH hp
 clear hx hw hb hp hR
 generalize hB:b.getD o 0=bo at *
 have HB:=zH hB
 clear hB
 go_enter Tryz.func125,Tryz.ntmps125
 go_wp2_with fail
 go_loopw [11,12] (fun s i wr=>∃ k:Nat,k≤n∧i=.int .i64 k∧s=.int .i64 (bo+rawSum x (wl.drop (o*n)) z k)∧Below w.heap.size w wr) (fun _ i _=>n - (intOf i).toNat)
 case atStart=>exact ⟨0,Nat.zero_le _,rfl,by simp [rawSum],Below.refl _ _⟩
 case round =>
  obtain ⟨k,hk,rfl,rfl,hb⟩:=hrel
  have hr1:=HR.out k
  by_cases hlt:k < n
  ·obtain ⟨b,off,rfl,_,_,c0,i0⟩:=(HX.out.below hb (fun _ h=>h)).int_at k hlt
   obtain ⟨b',off',rfl,_,_,c1,i1⟩:=(HW.out.below hb (fun _ h=>h)).int_at (p+k) (by omega)
   have hs:rawSum x (wl.drop (o*n)) z (k+1)=rawSum x (wl.drop (o*n)) z k+wl.getD (p+k) 0*(x.getD k 0 - z):=by
    simp only [rawSum,List.getD_eq_getElem?_getD,List.getElem?_drop,HP.out]
   generalize rawSum x (wl.drop (o*n)) z k=r at *
   generalize wl.getD (p+k) 0=wk at *
   generalize x.getD k 0=xk at *
   rw [inK_i8] at i0 i1
   obtain ⟨x1,x2⟩:=i0
   obtain ⟨w1,w2⟩:=i1
   have hm:=mul_range8 wk (xk - z) w1 w2 (by omega) (by omega)
   have HS:=zH hs
   clear hs
   go_wp2_with fail
   go_quiet (fail)
   go_wp2_with fail
   exact ⟨⟨k+1,by omega,by go_num,by rw [HS.out,Int.add_assoc],below_drewN hb _⟩,by simp [intOf];omega⟩
  ·obtain rfl:k=n:=by omega
   go_wp2_with fail
   go_ret
   exact ⟨rfl,hb⟩
theorem ei_i32:EI Tryz.prog 40 21 (.int .i32 0) 1 4:=⟨Tryz.underlying40,by kernel_rfl,rfl,by decide⟩
def filling {α:Type} (z:α) (f:Nat → α) (n k:Nat):List α:=(List.range k).map f ++ List.replicate (n - k) z
theorem filling_zero {α:Type} (z:α) (f:Nat → α) (n:Nat):filling z f n 0=List.replicate n z:=by simp [filling]
theorem filling_all {α:Type} (z:α) (f:Nat → α) (n:Nat):filling z f n n=(List.range n).map f:=by simp [filling]
theorem filling_set {α:Type} (z:α) (f:Nat → α) (n k:Nat) (h:k < n):(filling z f n k).set k (f k)=filling z f n (k+1):=by
 unfold filling
 rw [List.set_append_right _ _ (by simp)]
 obtain ⟨m,rfl⟩:∃ m,n=k+m+1:=⟨n - k - 1,by omega⟩
 rw [show k+m+1 - k=m+1 by omega,show k+m+1 - (k+1)=m by omega,List.range_succ]
 simp [List.replicate_succ]
theorem line_bad (A A' A'' : Option Addr) (n cap n' cap' n'' cap'' : Nat) (x wl b : List Int) (z : Int) (w : World) (hx : Sl (tInt .i8) w (blo w.heap.size) A n cap x) (hw : Sl (tInt .i8) w (blo w.heap.size) A' n' cap' wl)
    (hb : Sl (tInt .i32) w (blo w.heap.size) A'' n'' cap'' b) (hbad : n = 0 ∨ n'' = 0 ∨ n' ≠ n * n'') (h1 : n ≤ 1073741824) (h2 : n' ≤ 1073741824) (h3 : n'' ≤ 1073741824) :
    Calls Tryz.prog 139 #[.slice A n cap, .slice A' n' cap', .slice A'' n'' cap'', .int .i8 z] w fun e w' =>
      e = .returned (.slice none 0 0) ∧ w = w' := by
  by_cases c1 : n = 0
  · have d1 : ((n : Int) == 0) = true := by simp [c1]
    clear c1 hbad
    go_enter Tryz.func139, Tryz.ntmps139
    go_wp2_with fail
    go_ret
    exact ⟨rfl, rfl⟩
  have d1 : ((n : Int) == 0) = false := by simp [c1]
  have q1 := IntWalk.tdiv_le (n' : Int) (n : Int) (by omega) (by omega)
  by_cases c2 : n'' = 0
  · have d2 : ((n'' : Int) == 0) = true := by simp [c2]
    have c1 : 1 ≤ n := by omega
    clear c2 hbad
    go_enter Tryz.func139, Tryz.ntmps139
    go_wp2_with fail
    go_ret
    exact ⟨rfl, rfl⟩
  have d2 : ((n'' : Int) == 0) = false := by simp [c2]
  have n1 : 1 ≤ n := by omega
  by_cases c3 : n' % n = 0
  · have d3 : (((n' : Int) % (n : Int)) != 0) = false := by
      have : ((n' : Int) % (n : Int)) = ((n' % n : Nat) : Int) := by simp
      rw [this, c3]; rfl
    have d4 : (((n' : Int) / (n : Int)) != (n'' : Int)) = true := by
      rw [bne_iff_ne]
      intro h
      have h' : n' / n = n'' := by have : ((n' : Int) / (n : Int)) = ((n' / n : Nat) : Int) := by simp
                                   rw [this] at h; omega
      have := Nat.div_add_mod n' n
      rw [h', c3] at this
      omega
    clear c1 c2 c3 hbad
    go_enter Tryz.func139, Tryz.ntmps139
    go_wp2_with fail
    go_ret
    exact ⟨rfl, rfl⟩
  · have d3 : (((n' : Int) % (n : Int)) != 0) = true := by
      have : ((n' : Int) % (n : Int)) = ((n' % n : Nat) : Int) := by simp
      rw [this, bne_iff_ne]; omega
    clear c1 c2 c3 hbad
    go_enter Tryz.func139, Tryz.ntmps139
    go_wp2_with fail
    go_ret
    exact ⟨rfl, rfl⟩
theorem line_good (A A' A'':Option Addr) (n cap n' cap' n'' cap'':Nat) (x wl b:List Int) (z:Int) (w:World) (hx:Sl (tInt .i8) w (blo w.heap.size) A n cap x) (hw:Sl (tInt .i8) w (blo w.heap.size) A' n' cap' wl)
  (hb:Sl (tInt .i32) w (blo w.heap.size) A'' n'' cap'' b) (hz:InK .i8 z) (c1:1≤n) (c2:1≤n'') (c3:n'=n*n'') (h1:n≤1073741824) (h2:n'≤1073741824) (h3:n''≤1073741824) :
  Calls Tryz.prog 139 #[.slice A n cap,.slice A' n' cap',.slice A'' n'' cap'',.int .i8 z] w fun e w' =>
   ∃ v,e=.returned v∧Own (tInt .i32) w' (fun _=>False) w.heap.size 21 v n'' ((List.range n'').map fun o=>wrap32 (b.getD o 0+rawSum x (wl.drop (o*n)) z n))∧Below w.heap.size w w':=by
 have d1:((n:Int) == 0)=false:=by simp;omega
 have d2:((n'':Int) == 0)=false:=by simp;omega
 have d3:(((n':Int) % (n:Int)) != 0)=false:=by
  have:((n':Int) % (n:Int))=((n' % n:Nat):Int):=by simp
  rw [this,c3];simp
 have d4:(((n':Int) / (n:Int)) != (n'':Int))=false:=by
  have:((n':Int) / (n:Int))=((n' / n:Nat):Int):=by simp
  rw [this,c3,Nat.mul_div_cancel_left _ (by omega)];simp
 have q1:=IntWalk.tdiv_le (n':Int) (n:Int) (by omega) (by omega)
 have HX:=zH hx
 have HW:=zH hw
 have HB:=zH hb
 have HC:=zH c3
 have HZ:=zH hz
 have h4:=hw.cap_le
 have h5:=hw.max_le
 clear hx hw hb c3 hz
 go_enter Tryz.func139,Tryz.ntmps139
 go_wp2_with (first|(go_at_call 153;go_in)|(at_make;refine wpList_make (t:=tInt .i32) (S:=fun _=>False) (base:=w.heap.size) rfl _ _ rfl ei_i32 .i64 .i64 _ _ n'' rfl rfl rfl rfl ?_ ?_ ?_ 0 ⟨rfl,by decide⟩ (fun _ h=>h.elim) ?_;rotate_right;intro w1 hown hg))
 rotate_left
 ·omega
 ·unfold maxLen;omega
 ·simp;omega
 have hb1:Below w.heap.size w w1:=(((Below.refl _ _).alloc (Nat.le_refl _) _).alloc (by simp) _).grown hg (by simp;omega) (by simp)
 have hcx:w1.cell? ⟨w.heap.size,0,none⟩=some (.slice A n cap):=(World.cell?_of_block (hg.block w.heap.size (by simp;omega) (by simp))).trans (by simp [World.cell?_alloc_past])
 have hcz:w1.cell? ⟨w.heap.size+1,0,none⟩=some (.int .i8 z):=(World.cell?_of_block (hg.block (w.heap.size+1) (by simp) (by simp))).trans (by simp [go_sem])
 have hsz:w.heap.size+2 < w1.heap.size:=by have:=(hown.lt _ rfl).2;simpa using this
 clear hg
 have HO:=zH hown
 clear hown
 go_loopw [47] (fun i wr=>∃ k:Nat,k≤n''∧i=.int .i64 k∧Below w.heap.size w wr∧wr.cell? ⟨w.heap.size,0,none⟩=some (.slice A n cap)∧wr.cell? ⟨w.heap.size+1,0,none⟩=some (.int .i8 z)∧w.heap.size+2 < wr.heap.size ∧
   Own (tInt .i32) wr (fun _=>False) w.heap.size 21 (.slice (some ⟨w.heap.size+1+1,0,none⟩) n'' n'') n'' (filling 0 (fun o=>wrap32 (b.getD o 0+rawSum x (wl.drop (o*n)) z n)) n'' k)) (fun i _=>n'' - (intOf i).toNat)
 case atStart=>exact ⟨0,Nat.zero_le _,rfl,hb1,hcx,hcz,hsz,by rw [filling_zero];simpa using HO.out⟩
 case round =>
  obtain ⟨k,hk,rfl,hb,hcx',hcz',hsz',hown⟩:=hrel
  clear hcx hcz hsz hb1
  have hle:∀ c,blo w.heap.size c → blo wr.heap.size c:=fun c h=>Nat.lt_of_lt_of_le h hb.size
  by_cases hlt:k < n''
  ·obtain ⟨bb,boff,rfl,_,_,cb,ib⟩:=(HB.out.below hb (fun _ h=>h)).int_at k hlt
   obtain ⟨p,hp⟩:∃ p:Nat,k*n=p:=⟨_,rfl⟩
   have hpi:(k:Int)*(n:Int)=(p:Int):=by rw [← hp];simp
   have hpi':((k:Int)+1)*(n:Int)=(p:Int)+n:=by rw [Int.add_mul,hpi];simp
   have hpn:p+n≤n':=by
    rw [HC.out,← hp,← Nat.succ_mul,Nat.mul_comm n];exact Nat.mul_le_mul_right _ hlt
   obtain ⟨b',off',hA',_,_,_⟩:=HW.out.int_at 0 (by omega)
   subst hA'
   have HOWN:=zH hown
   have HP:=zH hp
   have HLE:=zH hle
   clear hown hp hle
   generalize hbo:b.getD k 0=bo at *
   have HBO:=zH hbo
   clear hbo
   go_wp2_with fail
   have hsub:=HW.out.sub p n p (cap' - p) (by simp [tInt]) hpn (by omega) (by omega)
   refine (weigh_any _ _ _ _ _ _ _ _ _ _ _ _ ((HX.out.below hb (fun _ h=>h)).more HLE.out) ((hsub.below hb (fun _ h=>h)).more HLE.out) hcx' hcz' HZ.out (Nat.le_refl _)).mono ?_
   rintro e w2 ⟨rfl,hb2⟩
   have ho2:=HOWN.out.below hb2 (Nat.le_refl _) (fun _ h=>h.elim)
   obtain ⟨x0,u0,_,_,c5,c6,c7,_⟩:=ho2.cell rfl k hlt
   have H2:=zH ho2
   clear ho2
   have hcx2:=cell_below hb2 hcx' (by show w.heap.size < _;omega)
   have hcz2:=cell_below hb2 hcz' (by show w.heap.size+1 < _;omega)
   go_wp2_with fail
   have hbs:=hb2.size
   obtain ⟨o3,g3⟩:=H2.out.set1 rfl k (.int .i32 (wrap32 (bo+wrap32 (rawSum x (List.take n (List.drop p wl)) z n)))) (wrap32 (bo+wrap32 (rawSum x (List.take n (List.drop p wl)) z n))) ⟨rfl,by rw [inK_i32];exact wrap32_in _⟩ (fun _ h=>h.elim)
   refine ⟨⟨k+1,by omega,by go_num,(hb.trans (hb2.mono hb.size)).setCell (by simp;omega) _,?_,?_,by simp;omega,?_⟩,by simp [intOf];omega⟩
   ·rw [World.cell?_setCell_other _ _ _ _ (by simp)];exact hcx2
   ·rw [World.cell?_setCell_other _ _ _ _ (by simp)];exact hcz2
   ·rw [← filling_set 0 _ n'' k hlt]
    simp only [HBO.out,HP.out]
    rw [rawSum_take _ _ _ _ _ (Nat.le_refl _),wrap32_add'] at o3 ⊢
    exact o3
  ·obtain rfl:k=n'':=by omega
   go_wp2_with fail
   go_ret
   exact ⟨_,rfl,by rw [filling_all] at hown;exact hown,hb⟩
theorem denseLine_eq (x wl b:List Int) (z:Int) (n n' n'':Nat) (h1:x.length=n) (h2:wl.length=n') (h3:b.length=n'') :
  denseLine x wl b z=if n=0 ∨ n''=0 ∨ n' ≠ n*n'' then [] else (List.range n'').map fun o=>wrap32 (b.getD o 0+rawSum x (wl.drop (o*n)) z n):=by
 subst h1 h2 h3;rfl
theorem line_any (A A' A'':Option Addr) (n cap n' cap' n'' cap'':Nat) (x wl b:List Int) (z:Int) (w:World) (hx:Sl (tInt .i8) w (blo w.heap.size) A n cap x) (hw:Sl (tInt .i8) w (blo w.heap.size) A' n' cap' wl)
  (hb:Sl (tInt .i32) w (blo w.heap.size) A'' n'' cap'' b) (hz:InK .i8 z) (h1:n≤1073741824) (h2:n'≤1073741824) (h3:n''≤1073741824) :
  Calls Tryz.prog 139 #[.slice A n cap,.slice A' n' cap',.slice A'' n'' cap'',.int .i8 z] w (RetSl (tInt .i32) w (denseLine x wl b z)):=by
 rw [denseLine_eq x wl b z n n' n'' hx.n_eq hw.n_eq hb.n_eq]
 by_cases hbad:n=0 ∨ n''=0 ∨ n' ≠ n*n''
 ·rw [if_pos hbad]
  refine (line_bad _ _ _ _ _ _ _ _ _ _ _ _ _ _ hx hw hb hbad h1 h2 h3).mono ?_
  rintro e w' ⟨rfl,rfl⟩
  exact ⟨none,0,0,rfl,Sl.nil _ _ _,Below.refl _ _⟩
 ·rw [if_neg hbad]
  refine (line_good _ _ _ _ _ _ _ _ _ _ _ _ _ _ hx hw hb hz (by omega) (by omega) (by omega) h1 h2 h3).mono ?_
  rintro e w' ⟨v,rfl,ho,hb'⟩
  exact ho.ret (by decide) hb' (fun _ h=>h.elim)
theorem rline_bad (A A' A'':Option Addr) (n cap n' cap' n'' cap'':Nat) (z:Int) (w:World) (hbad:n=0 ∨ n''=0 ∨ n' ≠ n*n'') (h1:n≤1073741824) (h2:n'≤1073741824) (h3:n''≤1073741824) :
  Calls Tryz.prog 100 #[.slice A n cap,.slice A' n' cap',.slice A'' n'' cap'',.int .i8 z] w fun e w' =>
   e=.returned (.slice none 0 0)∧w=w':=by
 obtain ⟨p,hp⟩:∃ p:Nat,n*n''=p:=⟨_,rfl⟩
 have hpi:(n:Int)*(n'':Int)=(p:Int):=by rw [← hp];simp
 have hpl:p≤1152921504606846976:=by rw [← hp];exact Nat.mul_le_mul h1 h3
 rw [hp] at hbad
 clear hp
 by_cases c1:n=0
 ·have d1:((n:Int) == 0)=true:=by simp [c1]
  clear c1 hbad
  go_enter Tryz.func100,Tryz.ntmps100
  go_wp2_with fail
  go_ret
  exact ⟨rfl,rfl⟩
 have d1:((n:Int) == 0)=false:=by simp [c1]
 by_cases c2:n''=0
 ·have d2:((n'':Int) == 0)=true:=by simp [c2]
  clear c1 c2 hbad
  go_enter Tryz.func100,Tryz.ntmps100
  go_wp2_with fail
  go_ret
  exact ⟨rfl,rfl⟩
 have d2:((n'':Int) == 0)=false:=by simp [c2]
 have d3:((n':Int) != (p:Int))=true:=by rw [bne_iff_ne];omega
 clear c1 c2 hbad
 go_enter Tryz.func100,Tryz.ntmps100
 go_wp2_with fail
 go_ret
 exact ⟨rfl,rfl⟩
theorem rline_good (A A' A'':Option Addr) (n cap n' cap' n'' cap'':Nat) (x wl b:List Int) (z:Int) (w:World) (hx:Sl (tInt .i8) w (blo w.heap.size) A n cap x) (hw:Sl (tInt .i8) w (blo w.heap.size) A' n' cap' wl)
  (hb:Sl (tInt .i32) w (blo w.heap.size) A'' n'' cap'' b) (hz:InK .i8 z) (c1:1≤n) (c2:1≤n'') (c3:n'=n*n'') (h1:n≤1073741824) (h2:n'≤1073741824) (h3:n''≤1073741824) :
  Calls Tryz.prog 100 #[.slice A n cap,.slice A' n' cap',.slice A'' n'' cap'',.int .i8 z] w fun e w' =>
   ∃ v,e=.returned v∧Own (tInt .i32) w' (fun _=>False) w.heap.size 21 v n'' ((List.range n'').map fun o=>wrap32 (b.getD o 0+rawSum x (wl.drop (o*n)) z n))∧Below w.heap.size w w':=by
 have d1:((n:Int) == 0)=false:=by simp;omega
 have d2:((n'':Int) == 0)=false:=by simp;omega
 have hpi:(n:Int)*(n'':Int)=(n':Int):=by rw [c3];simp
 have d3:((n':Int) != (n':Int))=false:=by simp
 have HX:=zH hx
 have HW:=zH hw
 have HB:=zH hb
 have HC:=zH c3
 have HZ:=zH hz
 clear hx hw hb c3 hz
 go_enter Tryz.func100,Tryz.ntmps100
 go_wp2_with fail
 go_loopw [9,10] (fun v i wr=>∃ k:Nat,k≤n''∧i=.int .i64 k∧Below w.heap.size w wr ∧
   Own (tInt .i32) wr (fun _=>False) w.heap.size 21 v k ((List.range k).map fun o=>wrap32 (b.getD o 0+rawSum x (wl.drop (o*n)) z n))) (fun _ i _=>n'' - (intOf i).toNat)
 case atStart=>exact ⟨0,Nat.zero_le _,rfl,Below.refl _ _,Own.nil _ _ _ _ _⟩
 case round =>
  obtain ⟨k,hk,rfl,hb,hown⟩:=hrel
  by_cases hlt:k < n''
  ·have hpn:k*n+n≤n':=by
    rw [HC.out,← Nat.succ_mul,Nat.mul_comm n];exact Nat.mul_le_mul_right _ hlt
   have HOWN:=zH hown
   clear hown
   go_wp2_with fail
   refine (sum18_any _ _ _ _ _ _ _ _ _ k _ _ _ _ _ ((HX.out.later hb (Nat.le_refl _))) (HW.out.later hb (Nat.le_refl _)) (HB.out.later hb (Nat.le_refl _)) HZ.out hlt hpn h2 h3).mono ?_
   rintro e w2 ⟨rfl,hb2⟩
   have ho2:=HOWN.out.below hb2 (Nat.le_refl _) (fun _ h=>h.elim)
   have hbs:=hb2.size
   have hbz:=hb.size
   go_wp2_with (at_builtin;refine wpList_push (t:=tInt .i32) rfl _ _ rfl ei_i32 (v:=u9) rfl ho2 1 rfl _ ⟨rfl,by rw [inK_i32];exact wrap32_in _⟩ (by unfold maxLen;omega) (by omega) (by omega) (fun _ h=>h.elim) ?_;intro v' w3 ho3 hg3 _)
   refine ⟨⟨k+1,by omega,by go_num,(hb.trans (hb2.mono hbz)).grown hg3 (by omega) (fun k h=>(ho2.lt k h).1),?_⟩,by simp [intOf];omega⟩
   rw [List.range_succ,List.map_append]
   simpa using ho3
  ·obtain rfl:k=n'':=by omega
   go_wp2_with fail
   go_ret
   exact ⟨_,rfl,hown,hb⟩
theorem rline_any (A A' A'':Option Addr) (n cap n' cap' n'' cap'':Nat) (x wl b:List Int) (z:Int) (w:World) (hx:Sl (tInt .i8) w (blo w.heap.size) A n cap x) (hw:Sl (tInt .i8) w (blo w.heap.size) A' n' cap' wl)
  (hb:Sl (tInt .i32) w (blo w.heap.size) A'' n'' cap'' b) (hz:InK .i8 z) (h1:n≤1073741824) (h2:n'≤1073741824) (h3:n''≤1073741824) :
  Calls Tryz.prog 100 #[.slice A n cap,.slice A' n' cap',.slice A'' n'' cap'',.int .i8 z] w (RetSl (tInt .i32) w (denseLine x wl b z)):=by
 rw [denseLine_eq x wl b z n n' n'' hx.n_eq hw.n_eq hb.n_eq]
 by_cases hbad:n=0 ∨ n''=0 ∨ n' ≠ n*n''
 ·rw [if_pos hbad]
  refine (rline_bad _ _ _ _ _ _ _ _ _ _ _ hbad h1 h2 h3).mono ?_
  rintro e w' ⟨rfl,rfl⟩
  exact ⟨none,0,0,rfl,Sl.nil _ _ _,Below.refl _ _⟩
 ·rw [if_neg hbad]
  refine (rline_good _ _ _ _ _ _ _ _ _ _ _ _ _ _ hx hw hb hz (by omega) (by omega) (by omega) h1 h2 h3).mono ?_
  rintro e w' ⟨v,rfl,ho,hb'⟩
  exact ho.ret (by decide) hb' (fun _ h=>h.elim)
def denseCode (h v c:Int) (d:Node):Int :=
 if elems h v c=0 ∨ elems 1 1 d.out=0 then 5
 else if ¬ (d.w.length:Int)=d.out*elems h v c ∨ 16384 < d.w.length ∨ ¬ (d.bias.length:Int)=d.out then 9 else 0
def shapeEnd (code out:Int):Ending:=.returned (.tuple #[if code=0 then .agg (sN 1 1 out) else .agg (sN 0 0 0),.int .i64 code])
set_option maxHeartbeats 2000000 in
theorem denseShape_any (h v c:Int) (d:Node) (W:Option Addr) (nw cw:Nat) (B:Option Addr) (nb cb:Nat) (w:World) (h0:InK .i64 h) (h1:InK .i64 v) (h2:InK .i64 c) (hout:InK .i64 d.out)
  (hnw:nw=d.w.length) (hnb:nb=d.bias.length) (mw:nw≤maxLen) (mb:nb≤maxLen) :
  Calls Tryz.prog 76 #[.agg (sN h v c),.agg (nN d.kind d.a d.b d.k d.s d.p d.out d.za d.zb W nw cw B nb cb d.qm d.qs d.qz d.rm d.rs d.rz d.lo d.hi)] w fun e w'=>e=shapeEnd (denseCode h v c d) d.out∧Below w.heap.size w w':=by
 have H0:=zH h0
 have H1:=zH h1
 have H2:=zH h2
 have HO:=zH hout
 have HNW:=zH hnw
 have HNB:=zH hnb
 clear h0 h1 h2 hout hnw hnb
 unfold maxLen at mw mb
 have r1:=elems_range h v c
 have r2:=elems_range 1 1 d.out
 by_cases c1:elems h v c=0
 ·have t1:decide (0 < elems h v c)=false:=by simp;omega
  have e:denseCode h v c d=5:=by unfold denseCode;rw [if_pos (.inl c1)]
  have E:=zH e
  clear e c1
  go_enter Tryz.func76,Tryz.ntmps76
  go_wp2_with fail
  refine (shapeRight_any h c v _ H0.out H1.out H2.out).mono ?_
  rintro e w1 ⟨rfl,hb⟩
  rw [t1]
  have g1:=below_call (B:=w.heap.size) (a:=w) (by go_grown) hb (by simp;omega)
  have bC:=(((Blk.now _ (w.heap.size+1+1) _ _ (by simp)).past _).later hb)
  have fC:=fun i=>bC.frozen i
  have cC:=fun i=>bC.cell i
  clear hb
  go_wp2_with fail
  refine ret_cell_tmp rfl (((bC.set_ 0 _).set_ 1 _).set_ 2 _) rfl Tryz.underlying24 (by kernel_rfl) rfl ⟨?_,by go_grown⟩
  rw [E.out];rfl
 have t1:decide (0 < elems h v c)=true:=by simp;omega
 by_cases c2:elems 1 1 d.out=0
 ·have t2:decide (0 < elems 1 1 d.out)=false:=by simp;omega
  have e:denseCode h v c d=5:=by unfold denseCode;rw [if_pos (.inr c2)]
  have E:=zH e
  clear e c1 c2
  go_enter Tryz.func76,Tryz.ntmps76
  go_wp2_with fail
  refine (shapeRight_any h c v _ H0.out H1.out H2.out).mono ?_
  rintro e w1 ⟨rfl,hb⟩
  rw [t1]
  have g1:=below_call (B:=w.heap.size) (a:=w) (by go_grown) hb (by simp;omega)
  have BC:=zH (((Blk.now _ (w.heap.size+1+1) _ _ (by simp)).past _).later hb)
  have bD:=((Blk.now _ (w.heap.size+1+1+1) _ _ (by simp)).later hb)
  have cD:=fun i=>bD.cell i
  clear bD hb
  go_wp2_with fail
  refine (shapeRight_any 1 d.out 1 _ (by decide) (by decide) HO.out).mono ?_
  rintro e w2 ⟨rfl,hb⟩
  rw [t2]
  have g2:=below_call g1 hb g1.size
  have bC:=BC.out.later hb
  have lt2:=g2.size
  have fC:=fun i=>bC.frozen i
  have cC:=fun i=>bC.cell i
  clear hb cD
  go_wp2_with fail
  refine ret_cell_tmp rfl (((bC.set_ 0 _).set_ 1 _).set_ 2 _) rfl Tryz.underlying24 (by kernel_rfl) rfl ⟨?_,by go_grown⟩
  rw [E.out];rfl
 have t2:decide (0 < elems 1 1 d.out)=true:=by simp;omega
 have hE:denseCode h v c d=if ¬ (nw:Int)=d.out*elems h v c ∨ 16384 < nw ∨ ¬ (nb:Int)=d.out then 9 else 0:=by
  unfold denseCode;rw [if_neg (by omega),HNW.out,HNB.out]
 have o1:1≤d.out∧d.out≤1024:=by
  rw [elems_iff] at c2
  split at c2
  ·omega
  ·exact absurd rfl c2
 have E:=zH hE
 have HC1:=zH c1
 clear hE c1 c2 r2
 go_enter Tryz.func76,Tryz.ntmps76
 go_wp2_with fail
 refine (shapeRight_any h c v _ H0.out H1.out H2.out).mono ?_
 rintro e w1 ⟨rfl,hb⟩
 rw [t1]
 have g1:=below_call (B:=w.heap.size) (a:=w) (by go_grown) hb (by simp;omega)
 have bA:=((((Blk.now _ w.heap.size _ _ rfl).past _).past _).past _).later hb
 have bB:=(((Blk.now _ (w.heap.size+1) _ _ (by simp)).past _).past _).later hb
 have bC:=((Blk.now _ (w.heap.size+1+1) _ _ (by simp)).past _).later hb
 have bD:=(Blk.now _ (w.heap.size+1+1+1) _ _ (by simp)).later hb
 have BA:=zH bA
 have BB:=zH bB
 have BC:=zH bC
 have BD:=zH bD
 have cD:=fun i=>bD.cell i
 clear bA bB bC bD hb
 go_wp2_with fail
 refine (shapeRight_any 1 d.out 1 _ (by decide) (by decide) HO.out).mono ?_
 rintro e w2 ⟨rfl,hb⟩
 rw [t2]
 have g2:=below_call g1 hb g1.size
 have BA:=zH (BA.out.later hb)
 have BB:=zH (BB.out.later hb)
 have BC:=zH (BC.out.later hb)
 have BD:=zH (BD.out.later hb)
 clear hb cD t1 t2
 go_wp2_with fail
 generalize hm:elems h v c=m at *
 have HM:=zH hm
 clear hm
 have hp:0≤d.out*m∧d.out*m≤1024*1024:=⟨Int.mul_nonneg (by omega) (by omega),Int.mul_le_mul o1.2 r1.2 (by omega) (by omega)⟩
 have hwr:IntKind.i64.wrap (d.out*m)=d.out*m:=IntWalk.i64_in _ (by omega)
 have cA:∀ (x:Ext w2) (i:Nat),x.1.cell? ⟨w.heap.size,i,none⟩=((sN h v c):Array Value)[i]?:=fun x i=>(BA.out.ext x).cell i
 have cB6:∀ x:Ext w2,x.1.cell? ⟨w.heap.size+1,6,none⟩=some (.int .i64 d.out):=fun x=>(BB.out.ext x).cell 6
 have cB9:∀ x:Ext w2,x.1.cell? ⟨w.heap.size+1,9,none⟩=some (.slice W nw cw):=fun x=>(BB.out.ext x).cell 9
 have cB10:∀ x:Ext w2,x.1.cell? ⟨w.heap.size+1,10,none⟩=some (.slice B nb cb):=fun x=>(BB.out.ext x).cell 10
 have E1:=zH (fun x:Ext w2=>calls_ext x (elems_any h c v _ H0.out H1.out H2.out))
 rw [HM.out] at E1
 have t3:((nw:Int) != d.out*m)=true∧denseCode h v c d=9 ∨ ((nw:Int) != d.out*m)=false∧(decide ((16384:Int) < (nw:Int))=true∧denseCode h v c d=9 ∨
   decide ((16384:Int) < (nw:Int))=false∧(((nb:Int) != d.out)=true∧denseCode h v c d=9 ∨ ((nb:Int) != d.out)=false∧denseCode h v c d=0)):=by
  rw [E.out]
  by_cases c3:(nw:Int)=d.out*m
  ·refine .inr ⟨by simp [c3],?_⟩
   by_cases c4:16384 < nw
   ·exact .inl ⟨by simp;omega,by rw [if_pos (.inr (.inl c4))]⟩
   ·refine .inr ⟨by simp;omega,?_⟩
    by_cases c5:(nb:Int)=d.out
    ·exact .inr ⟨by simp [c5],by rw [if_neg (by omega)]⟩
    ·exact .inl ⟨by rw [bne_iff_ne];exact c5,by rw [if_pos (.inr (.inr c5))]⟩
  ·exact .inl ⟨by rw [bne_iff_ne];exact c3,by rw [if_pos (.inl c3)]⟩
 clear E
 rcases t3 with ⟨t3,e⟩|⟨t3,⟨t4,e⟩|⟨t4,⟨t5,e⟩|⟨t5,e⟩⟩⟩
 all_goals
  have E:=zH e
  clear e
  refine wp_region_ext w2 (by kernel_rfl) (by kernel_rfl) (Below.refl _ _) ?_
  repeat (go_big_quiet_step ((exact E1.out _)))
  refine wpQuiet_nil ?_
  rintro _ ⟨⟨w3,hB⟩,rfl⟩
  have g3:=below_call g2 hB g2.size
  have lt3:=g3.size
  have bC:=BC.out.later hB
  have bD:=BD.out.later hB
  have fC:=fun i=>bC.frozen i
  have cC:=fun i=>bC.cell i
  have cD:=fun i=>bD.cell i
  clear hB
  go_wp2_with fail
  refine ret_cell_tmp rfl (((bC.set_ 0 _).set_ 1 _).set_ 2 _) rfl Tryz.underlying24 (by kernel_rfl) rfl ⟨?_,by go_grown⟩
  rw [E.out];rfl
end Go.Proofs.YtjkmjpjknmghlaaGreat
