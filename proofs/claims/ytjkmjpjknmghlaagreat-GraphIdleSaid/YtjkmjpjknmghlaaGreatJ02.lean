/-
  Walks of dense (layer 18): numbers weighed by a row of weights, the program's and the document's.
-/
import Derived.Test.YtjkmjpjknmghlaaGreatJ01
set_option linter.unusedVariables false
set_option linter.unusedSimpArgs false
namespace Go.Proofs.YtjkmjpjknmghlaaGreat
open Go.RowKit Go.ChangeShapes Go.WideShapes
set_option maxRecDepth 100000
def rawSum (x w:List Int) (z:Int):Nat → Int
 | 0=>0
 | k+1=>rawSum x w z k+w.getD k 0*(x.getD k 0 - z)
def denseLine (x w b:List Int) (z:Int):List Int :=
 if x.length=0 ∨ b.length=0 ∨ w.length ≠ x.length*b.length then [] else (List.range b.length).map fun o=>wrap32 (b.getD o 0+rawSum x (w.drop (o*x.length)) z x.length)
theorem wrap32_add (a b:Int):wrap32 (wrap32 a+b)=wrap32 (a+b):=by unfold wrap32;omega
theorem wrap32_add' (a b:Int):wrap32 (a+wrap32 b)=wrap32 (a+b):=by unfold wrap32;omega
theorem wrap32_in (a:Int):-2147483648≤wrap32 a∧wrap32 a≤2147483647:=by unfold wrap32;omega
theorem weigh_any (px pz:Addr) (A A':Option Addr) (n cap n' cap':Nat) (x wl:List Int) (z:Int) (w:World) (hx:Sl (tInt .i8) w (blo w.heap.size) A n cap x) (hw:Sl (tInt .i8) w (blo w.heap.size) A' n' cap' wl)
  (hpx:w.cell? px=some (.slice A n cap)) (hpz:w.cell? pz=some (.int .i8 z)) (hz:InK .i8 z) (hn:n≤n') :
  Calls Tryz.prog 164 #[.slice A' n' cap',.pointer (some px),.pointer (some pz)] w fun e w'=>e=.returned (.int .i32 (wrap32 (rawSum x wl z n)))∧Below w.heap.size w w':=by
 have hm:n≤9223372036854775807:=Nat.le_trans hx.cap_le hx.max_le
 rw [inK_i8] at hz
 obtain ⟨z1,z2⟩:=hz
 have H:=zH hx
 have H':=zH hw
 have hbx:=World.block_lt_of_cell? w px hpx
 have hbz:=World.block_lt_of_cell? w pz hpz
 clear hx hw
 go_enter Tryz.func164,Tryz.ntmps164
 go_wp2_with fail
 go_loopw [5,10] (fun s i wr=>∃ k:Nat,k≤n∧i=.int .i64 k∧s=.int .i32 (wrap32 (rawSum x wl z k))∧Below w.heap.size w wr) (fun _ i _=>n - (intOf i).toNat)
 case atStart=>exact ⟨0,Nat.zero_le _,rfl,by simp [rawSum,wrap32],Below.refl _ _⟩
 case round =>
  obtain ⟨k,hk,rfl,rfl,hb⟩:=hrel
  have hpx':wr.cell? px=some (.slice A n cap):=(hb.cell hbx).trans hpx
  have hpz':wr.cell? pz=some (.int .i8 z):=(hb.cell hbz).trans hpz
  by_cases hlt:k < n
  ·obtain ⟨b,off,rfl,_,_,c0,i0⟩:=(H.out.below hb (fun _ h=>h)).int_at k hlt
   obtain ⟨b',off',rfl,_,_,c1,i1⟩:=(H'.out.below hb (fun _ h=>h)).int_at k (by omega)
   have hs:rawSum x wl z (k+1)=rawSum x wl z k+wl.getD k 0*(x.getD k 0 - z):=rfl
   generalize rawSum x wl z k=r at *
   generalize wl.getD k 0=wk at *
   generalize x.getD k 0=xk at *
   rw [inK_i8] at i0 i1
   have h32:=wrap32_in r
   obtain ⟨x1,x2⟩:=i0
   obtain ⟨w1,w2⟩:=i1
   have HS:=zH hs
   clear hs
   go_wp2_with fail
   go_quiet (fail)
   go_wp2_with fail
   exact ⟨⟨k+1,by omega,by go_num,by rw [HS.out,wrap32_add,wrap32_add'],below_drewN hb _⟩,by simp [intOf];omega⟩
  ·obtain rfl:k=n:=by omega
   go_wp2_with fail
   go_ret
   exact ⟨rfl,hb⟩
theorem mul_range8 (a b:Int) (h1:-128≤a) (h2:a≤127) (h3:-255≤b) (h4:b≤255):-32640≤a*b∧a*b≤32640:=by
 have k1:(128+a)*(255 - b) ≥ 0:=Int.mul_nonneg (by omega) (by omega)
 have k2:(128+a)*(255+b) ≥ 0:=Int.mul_nonneg (by omega) (by omega)
 have k3:(128 - a)*(255 - b) ≥ 0:=Int.mul_nonneg (by omega) (by omega)
 have k4:(128 - a)*(255+b) ≥ 0:=Int.mul_nonneg (by omega) (by omega)
 simp only [Int.add_mul,Int.sub_mul,Int.mul_sub,Int.mul_add] at k1 k2 k3 k4
 omega
theorem rawSum_take (x w:List Int) (z:Int) (n k:Nat) (h:k≤n):rawSum x (w.take n) z k=rawSum x w z k:=by
 induction k with
 | zero=>rfl
 | succ k ih =>
  rw [rawSum,rawSum,ih (by omega),List.getD_eq_getElem?_getD,List.getElem?_take,if_pos (by omega),← List.getD_eq_getElem?_getD]
theorem ei_i32:EI Tryz.prog 40 21 (.int .i32 0) 1 4:=⟨Tryz.underlying40,by kernel_rfl,rfl,by decide⟩
def filling {α:Type} (z:α) (f:Nat → α) (n k:Nat):List α:=(List.range k).map f ++ List.replicate (n - k) z
theorem filling_zero {α:Type} (z:α) (f:Nat → α) (n:Nat):filling z f n 0=List.replicate n z:=by simp [filling]
theorem filling_all {α:Type} (z:α) (f:Nat → α) (n:Nat):filling z f n n=(List.range n).map f:=by simp [filling]
theorem filling_set {α:Type} (z:α) (f:Nat → α) (n k:Nat) (h:k < n):(filling z f n k).set k (f k)=filling z f n (k+1):=by
 unfold filling
 rw [List.set_append_right _ _ (by simp)]
 obtain ⟨m,rfl⟩:∃ m,n=k+m+1:=⟨n - k - 1,by omega⟩
 rw [show k+m+1 - k=m+1 by omega,show k+m+1 - (k+1)=m by omega,List.range_succ]
 simp [List.replicate_succ]
theorem line_bad (A A' A'' : Option Addr) (n cap n' cap' n'' cap'' : Nat) (x wl b : List Int) (z : Int) (w : World) (hx : Sl (tInt .i8) w (blo w.heap.size) A n cap x) (hw : Sl (tInt .i8) w (blo w.heap.size) A' n' cap' wl)
    (hb : Sl (tInt .i32) w (blo w.heap.size) A'' n'' cap'' b) (hbad : n = 0 ∨ n'' = 0 ∨ n' ≠ n * n'') (h1 : n ≤ 1073741824) (h2 : n' ≤ 1073741824) (h3 : n'' ≤ 1073741824) :
    Calls Tryz.prog 139 #[.slice A n cap, .slice A' n' cap', .slice A'' n'' cap'', .int .i8 z] w fun e w' =>
      e = .returned (.slice none 0 0) ∧ w = w' := by
  by_cases c1 : n = 0
  · have d1 : ((n : Int) == 0) = true := by simp [c1]
    clear c1 hbad
    go_enter Tryz.func139, Tryz.ntmps139
    go_wp2_with fail
    go_ret
    exact ⟨rfl, rfl⟩
  have d1 : ((n : Int) == 0) = false := by simp [c1]
  have q1 := IntWalk.tdiv_le (n' : Int) (n : Int) (by omega) (by omega)
  by_cases c2 : n'' = 0
  · have d2 : ((n'' : Int) == 0) = true := by simp [c2]
    have c1 : 1 ≤ n := by omega
    clear c2 hbad
    go_enter Tryz.func139, Tryz.ntmps139
    go_wp2_with fail
    go_ret
    exact ⟨rfl, rfl⟩
  have d2 : ((n'' : Int) == 0) = false := by simp [c2]
  have n1 : 1 ≤ n := by omega
  by_cases c3 : n' % n = 0
  · have d3 : (((n' : Int) % (n : Int)) != 0) = false := by
      have : ((n' : Int) % (n : Int)) = ((n' % n : Nat) : Int) := by simp
      rw [this, c3]; rfl
    have d4 : (((n' : Int) / (n : Int)) != (n'' : Int)) = true := by
      rw [bne_iff_ne]
      intro h
      have h' : n' / n = n'' := by have : ((n' : Int) / (n : Int)) = ((n' / n : Nat) : Int) := by simp
                                   rw [this] at h; omega
      have := Nat.div_add_mod n' n
      rw [h', c3] at this
      omega
    clear c1 c2 c3 hbad
    go_enter Tryz.func139, Tryz.ntmps139
    go_wp2_with fail
    go_ret
    exact ⟨rfl, rfl⟩
  · have d3 : (((n' : Int) % (n : Int)) != 0) = true := by
      have : ((n' : Int) % (n : Int)) = ((n' % n : Nat) : Int) := by simp
      rw [this, bne_iff_ne]; omega
    clear c1 c2 c3 hbad
    go_enter Tryz.func139, Tryz.ntmps139
    go_wp2_with fail
    go_ret
    exact ⟨rfl, rfl⟩
theorem line_good (A A' A'':Option Addr) (n cap n' cap' n'' cap'':Nat) (x wl b:List Int) (z:Int) (w:World) (hx:Sl (tInt .i8) w (blo w.heap.size) A n cap x) (hw:Sl (tInt .i8) w (blo w.heap.size) A' n' cap' wl)
  (hb:Sl (tInt .i32) w (blo w.heap.size) A'' n'' cap'' b) (hz:InK .i8 z) (c1:1≤n) (c2:1≤n'') (c3:n'=n*n'') (h1:n≤1073741824) (h2:n'≤1073741824) (h3:n''≤1073741824) :
  Calls Tryz.prog 139 #[.slice A n cap,.slice A' n' cap',.slice A'' n'' cap'',.int .i8 z] w fun e w' =>
   ∃ v,e=.returned v∧Own (tInt .i32) w' (fun _=>False) w.heap.size 21 v n'' ((List.range n'').map fun o=>wrap32 (b.getD o 0+rawSum x (wl.drop (o*n)) z n))∧Below w.heap.size w w':=by
 have d1:((n:Int) == 0)=false:=by simp;omega
 have d2:((n'':Int) == 0)=false:=by simp;omega
 have d3:(((n':Int) % (n:Int)) != 0)=false:=by
  have:((n':Int) % (n:Int))=((n' % n:Nat):Int):=by simp
  rw [this,c3];simp
 have d4:(((n':Int) / (n:Int)) != (n'':Int))=false:=by
  have:((n':Int) / (n:Int))=((n' / n:Nat):Int):=by simp
  rw [this,c3,Nat.mul_div_cancel_left _ (by omega)];simp
 have q1:=IntWalk.tdiv_le (n':Int) (n:Int) (by omega) (by omega)
 have HX:=zH hx
 have HW:=zH hw
 have HB:=zH hb
 have HC:=zH c3
 have HZ:=zH hz
 have h4:=hw.cap_le
 have h5:=hw.max_le
 clear hx hw hb c3 hz
 go_enter Tryz.func139,Tryz.ntmps139
 go_wp2_with (first|(go_at_call 153;go_in)|(at_make;refine wpList_make (t:=tInt .i32) (S:=fun _=>False) (base:=w.heap.size) rfl _ _ rfl ei_i32 .i64 .i64 _ _ n'' rfl rfl rfl rfl ?_ ?_ ?_ 0 ⟨rfl,by decide⟩ (fun _ h=>h.elim) ?_;rotate_right;intro w1 hown hg))
 rotate_left
 ·omega
 ·unfold maxLen;omega
 ·simp;omega
 have hb1:Below w.heap.size w w1:=(((Below.refl _ _).alloc (Nat.le_refl _) _).alloc (by simp) _).grown hg (by simp;omega) (by simp)
 have hcx:w1.cell? ⟨w.heap.size,0,none⟩=some (.slice A n cap):=(World.cell?_of_block (hg.block w.heap.size (by simp;omega) (by simp))).trans (by simp [World.cell?_alloc_past])
 have hcz:w1.cell? ⟨w.heap.size+1,0,none⟩=some (.int .i8 z):=(World.cell?_of_block (hg.block (w.heap.size+1) (by simp) (by simp))).trans (by simp [go_sem])
 have hsz:w.heap.size+2 < w1.heap.size:=by have:=(hown.lt _ rfl).2;simpa using this
 clear hg
 have HO:=zH hown
 clear hown
 go_loopw [47] (fun i wr=>∃ k:Nat,k≤n''∧i=.int .i64 k∧Below w.heap.size w wr∧wr.cell? ⟨w.heap.size,0,none⟩=some (.slice A n cap)∧wr.cell? ⟨w.heap.size+1,0,none⟩=some (.int .i8 z)∧w.heap.size+2 < wr.heap.size ∧
   Own (tInt .i32) wr (fun _=>False) w.heap.size 21 (.slice (some ⟨w.heap.size+1+1,0,none⟩) n'' n'') n'' (filling 0 (fun o=>wrap32 (b.getD o 0+rawSum x (wl.drop (o*n)) z n)) n'' k)) (fun i _=>n'' - (intOf i).toNat)
 case atStart=>exact ⟨0,Nat.zero_le _,rfl,hb1,hcx,hcz,hsz,by rw [filling_zero];simpa using HO.out⟩
 case round =>
  obtain ⟨k,hk,rfl,hb,hcx',hcz',hsz',hown⟩:=hrel
  clear hcx hcz hsz hb1
  have hle:∀ c,blo w.heap.size c → blo wr.heap.size c:=fun c h=>Nat.lt_of_lt_of_le h hb.size
  by_cases hlt:k < n''
  ·obtain ⟨bb,boff,rfl,_,_,cb,ib⟩:=(HB.out.below hb (fun _ h=>h)).int_at k hlt
   obtain ⟨p,hp⟩:∃ p:Nat,k*n=p:=⟨_,rfl⟩
   have hpi:(k:Int)*(n:Int)=(p:Int):=by rw [← hp];simp
   have hpi':((k:Int)+1)*(n:Int)=(p:Int)+n:=by rw [Int.add_mul,hpi];simp
   have hpn:p+n≤n':=by
    rw [HC.out,← hp,← Nat.succ_mul,Nat.mul_comm n];exact Nat.mul_le_mul_right _ hlt
   obtain ⟨b',off',hA',_,_,_⟩:=HW.out.int_at 0 (by omega)
   subst hA'
   have HOWN:=zH hown
   have HP:=zH hp
   have HLE:=zH hle
   clear hown hp hle
   generalize hbo:b.getD k 0=bo at *
   have HBO:=zH hbo
   clear hbo
   go_wp2_with fail
   have hsub:=HW.out.sub p n p (cap' - p) (by simp [tInt]) hpn (by omega) (by omega)
   refine (weigh_any _ _ _ _ _ _ _ _ _ _ _ _ ((HX.out.below hb (fun _ h=>h)).more HLE.out) ((hsub.below hb (fun _ h=>h)).more HLE.out) hcx' hcz' HZ.out (Nat.le_refl _)).mono ?_
   rintro e w2 ⟨rfl,hb2⟩
   have ho2:=HOWN.out.below hb2 (Nat.le_refl _) (fun _ h=>h.elim)
   obtain ⟨x0,u0,_,_,c5,c6,c7,_⟩:=ho2.cell rfl k hlt
   have H2:=zH ho2
   clear ho2
   have hcx2:=cell_below hb2 hcx' (by show w.heap.size < _;omega)
   have hcz2:=cell_below hb2 hcz' (by show w.heap.size+1 < _;omega)
   go_wp2_with fail
   have hbs:=hb2.size
   obtain ⟨o3,g3⟩:=H2.out.set1 rfl k (.int .i32 (wrap32 (bo+wrap32 (rawSum x (List.take n (List.drop p wl)) z n)))) (wrap32 (bo+wrap32 (rawSum x (List.take n (List.drop p wl)) z n))) ⟨rfl,by rw [inK_i32];exact wrap32_in _⟩ (fun _ h=>h.elim)
   refine ⟨⟨k+1,by omega,by go_num,(hb.trans (hb2.mono hb.size)).setCell (by simp;omega) _,?_,?_,by simp;omega,?_⟩,by simp [intOf];omega⟩
   ·rw [World.cell?_setCell_other _ _ _ _ (by simp)];exact hcx2
   ·rw [World.cell?_setCell_other _ _ _ _ (by simp)];exact hcz2
   ·rw [← filling_set 0 _ n'' k hlt]
    simp only [HBO.out,HP.out]
    rw [rawSum_take _ _ _ _ _ (Nat.le_refl _),wrap32_add'] at o3 ⊢
    exact o3
  ·obtain rfl:k=n'':=by omega
   go_wp2_with fail
   go_ret
   exact ⟨_,rfl,by rw [filling_all] at hown;exact hown,hb⟩
theorem denseLine_eq (x wl b:List Int) (z:Int) (n n' n'':Nat) (h1:x.length=n) (h2:wl.length=n') (h3:b.length=n'') :
  denseLine x wl b z=if n=0 ∨ n''=0 ∨ n' ≠ n*n'' then [] else (List.range n'').map fun o=>wrap32 (b.getD o 0+rawSum x (wl.drop (o*n)) z n):=by
 subst h1 h2 h3;rfl
theorem line_any (A A' A'':Option Addr) (n cap n' cap' n'' cap'':Nat) (x wl b:List Int) (z:Int) (w:World) (hx:Sl (tInt .i8) w (blo w.heap.size) A n cap x) (hw:Sl (tInt .i8) w (blo w.heap.size) A' n' cap' wl)
  (hb:Sl (tInt .i32) w (blo w.heap.size) A'' n'' cap'' b) (hz:InK .i8 z) (h1:n≤1073741824) (h2:n'≤1073741824) (h3:n''≤1073741824) :
  Calls Tryz.prog 139 #[.slice A n cap,.slice A' n' cap',.slice A'' n'' cap'',.int .i8 z] w (RetSl (tInt .i32) w (denseLine x wl b z)):=by
 rw [denseLine_eq x wl b z n n' n'' hx.n_eq hw.n_eq hb.n_eq]
 by_cases hbad:n=0 ∨ n''=0 ∨ n' ≠ n*n''
 ·rw [if_pos hbad]
  refine (line_bad _ _ _ _ _ _ _ _ _ _ _ _ _ _ hx hw hb hbad h1 h2 h3).mono ?_
  rintro e w' ⟨rfl,rfl⟩
  exact ⟨none,0,0,rfl,Sl.nil _ _ _,Below.refl _ _⟩
 ·rw [if_neg hbad]
  refine (line_good _ _ _ _ _ _ _ _ _ _ _ _ _ _ hx hw hb hz (by omega) (by omega) (by omega) h1 h2 h3).mono ?_
  rintro e w' ⟨v,rfl,ho,hb'⟩
  exact ho.ret (by decide) hb' (fun _ h=>h.elim)
end Go.Proofs.YtjkmjpjknmghlaaGreat
