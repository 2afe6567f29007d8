/-
  Walks of dense (layer 18): numbers weighed by a row of weights, the program's and the document's.
-/
import Derived.Test.YtmihnoagagbgaaaGreatJ01
set_option linter.unusedVariables false
set_option linter.unusedSimpArgs false
set_option maxRecDepth 100000
set_option maxHeartbeats 16000000
namespace Go.Proofs.YtmihnoagagbgaaaGreat
open Go.RowKit Go.ChangeShapes Go.WideShapes Tryz
set_option maxRecDepth 100000
set_option maxHeartbeats 16000000
def aZ (x w:List Int) (z:Int):Nat → Int
 | 0=>0
 | k+1=>aZ x w z k+w.getD k 0*(x.getD k 0 - z)
def cz (x w b:List Int) (z:Int):List Int :=
 if x.length=0 ∨ b.length=0 ∨ w.length ≠ x.length*b.length then [] else (List.range b.length).map fun o=>wrap32 (b.getD o 0+aZ x (w.drop (o*x.length)) z x.length)
theorem eT (a b:Int):wrap32 (wrap32 a+b)=wrap32 (a+b):=by unfold wrap32;omega
theorem fm (a b:Int):wrap32 (a+wrap32 b)=wrap32 (a+b):=by unfold wrap32;omega
theorem cV (a:Int):-2147483648≤wrap32 a∧wrap32 a≤2147483647:=by unfold wrap32;omega
theorem rS (px pz:Addr) (A A':QA) (n cap n' cap':Nat) (x wl:List Int) (z:Int) (w:World) (hx:xA w A n cap x) (hw:xA w A' n' cap' wl)
  (hpx:w.cell? px=some (.slice A n cap)) (hpz:w.cell? pz=some (.int .i8 z)) (hz:InK .i8 z) (hn:n≤n') :
  Calls prog 191 #[.slice A' n' cap',.pointer (some px),.pointer (some pz)] w fun e w'=>e=.returned (.int .i32 (wrap32 (aZ x wl z n)))∧Below w w w':=by
 have hm:n≤9223372036854775807:=lT hx.cap_le hx.max_le
 rw [aT] at hz
 obtain ⟨z1,z2⟩:=hz
 have H:=zH hx
 have H':=zH hw
 have hbx:=World.block_lt_of_cell? w px hpx
 have hbz:=World.block_lt_of_cell? w pz hpz
 clear hx hw
 go_in
 go_wp2
 go_loopw [5,10] (fun s i wr=>∃ k:Nat,k≤n∧i=.int .i64 k∧s=.int .i32 (wrap32 (aZ x wl z k))∧Below w w wr) (fun _ i _=>n - (intOf i).toNat)
 case atStart=>exact ⟨0,zl _,rfl,by simp [aZ,wrap32],qB _ _⟩
 case round =>
  obtain ⟨k,hk,rfl,rfl,hb⟩:=hrel
  have hpx':wr.cell? px=some (.slice A n cap):=(hb.cell hbx).trans hpx
  have hpz':wr.cell? pz=some (.int .i8 z):=(hb.cell hbz).trans hpz
  by_cases hlt:k < n
  ·obtain ⟨b,off,rfl,_,_,c0,i0⟩:=(H.o.below hb (fun _ h=>h)).int_at k hlt
   obtain ⟨b',off',rfl,_,_,c1,i1⟩:=(H'.o.below hb (fun _ h=>h)).int_at k oM
   have hs:aZ x wl z (k+1)=aZ x wl z k+wl.getD k 0*(x.getD k 0 - z):=rfl
   generalize aZ x wl z k=r at *
   generalize wl.getD k 0=wk at *
   generalize x.getD k 0=xk at *
   rw [aT] at i0 i1
   have h32:=cV r
   obtain ⟨x1,x2⟩:=i0
   obtain ⟨w1,w2⟩:=i1
   have HS:=zH hs
   clear hs
   go_wp2_with fail
   go_quiet (fail)
   go_wp2
   exact ⟨⟨k+1,by omega,by go_num,by rw [HS.o,eT,fm],am hb _⟩,by simp [intOf];omega⟩
  ·obtain rfl:k=n:=oM
   go_wp2
   go_ret
   exact ⟨rfl,hb⟩
theorem eL (a b:Int) (h1:-128≤a) (h2:a≤127) (h3:-255≤b) (h4:b≤255):-32640≤a*b∧a*b≤32640:=by
 have k1:(128+a)*(255 - b) ≥ 0:=Int.mul_nonneg oM oM
 have k2:(128+a)*(255+b) ≥ 0:=Int.mul_nonneg oM oM
 have k3:(128 - a)*(255 - b) ≥ 0:=Int.mul_nonneg oM oM
 have k4:(128 - a)*(255+b) ≥ 0:=Int.mul_nonneg oM oM
 simp only [Int.add_mul,Int.sub_mul,Int.mul_sub,Int.mul_add] at k1 k2 k3 k4
 omega
theorem nZ (x w:List Int) (z:Int) (n k:Nat) (h:k≤n):aZ x (w.take n) z k=aZ x w z k:=by
 induction k with
 | zero=>rfl
 | succ k ih =>
  rw [aZ,aZ,ih oM,gD,List.getElem?_take,if_pos oM,← gD]
theorem my (x w:List Int) (z:Int) (hx:∀ i,InK .i8 (x.getD i 0)) (hw:∀ i,InK .i8 (w.getD i 0)) (hz:InK .i8 z) (k:Nat):-32640*(k:Int)≤aZ x w z k∧aZ x w z k≤32640*k:=by
 induction k with
 | zero=>simp [aZ]
 | succ k ih =>
  have h1:=hx k
  have h2:=hw k
  rw [aT] at h1 h2 hz
  rw [aZ]
  have h3:=eL (w.getD k 0) (x.getD k 0 - z) h2.1 h2.2 oM oM
  omega
theorem rL (A A' A'':QA) (n cap n' cap' n'' cap'' o:Nat) (x wl b:List Int) (z:Int) (w:World) (hx:xA w A n cap x) (hw:xA w A' n' cap' wl)
  (hb:xB w A'' n'' cap'' b) (hz:InK .i8 z) (ho:o < n'') (hn:o*n+n≤n') (hn':n'≤1073741824) (hn'':n''≤1073741824) :
  Calls prog 134 #[.slice A n cap,.slice A' n' cap',.slice A'' n'' cap'',.int .i8 z,.int .i64 o] w fun e w' =>
   e=.returned (.int .i64 (b.getD o 0+aZ x (wl.drop (o*n)) z n))∧Below w w w':=by
 have hm:n≤1073741824:=oM
 have hR:=my x (wl.drop (o*n)) z hx.allK (fun i=>by rw [gD,List.getElem?_drop,← gD];exact hw.allK _) hz
 have HR:=zH hR
 have hz':=aT.1 hz
 obtain ⟨z1,z2⟩:=hz'
 obtain ⟨bb,boff,rfl,_,hbb,cb,ib⟩:=hb.int_at o ho
 rw [bE] at ib
 obtain ⟨ib1,ib2⟩:=ib
 obtain ⟨p,hp⟩:∃ p:Nat,o*n=p:=⟨_,rfl⟩
 have hpi:(o:Int)*(n:Int)=(p:Int):=by rw [← hp];simp
 have ho':o≤1073741824:=oM
 rw [hp] at hn
 have HX:=zH hx
 have HW:=zH hw
 have HP:=zH hp
 clear hx hw hb hp hR
 generalize hB:b.getD o 0=bo at *
 have HB:=zH hB
 clear hB
 go_in
 go_wp2
 go_loopw [11,12] (fun s i wr=>∃ k:Nat,k≤n∧i=.int .i64 k∧s=.int .i64 (bo+aZ x (wl.drop (o*n)) z k)∧Below w w wr) (fun _ i _=>n - (intOf i).toNat)
 case atStart=>exact ⟨0,zl _,rfl,by simp [aZ],qB _ _⟩
 case round =>
  obtain ⟨k,hk,rfl,rfl,hb⟩:=hrel
  have hr1:=HR.o k
  by_cases hlt:k < n
  ·obtain ⟨b,off,rfl,_,_,c0,i0⟩:=(HX.o.below hb (fun _ h=>h)).int_at k hlt
   obtain ⟨b',off',rfl,_,_,c1,i1⟩:=(HW.o.below hb (fun _ h=>h)).int_at (p+k) oM
   have hs:aZ x (wl.drop (o*n)) z (k+1)=aZ x (wl.drop (o*n)) z k+wl.getD (p+k) 0*(x.getD k 0 - z):=by
    simp only [aZ,gD,List.getElem?_drop,HP.o]
   generalize aZ x (wl.drop (o*n)) z k=r at *
   generalize wl.getD (p+k) 0=wk at *
   generalize x.getD k 0=xk at *
   rw [aT] at i0 i1
   obtain ⟨x1,x2⟩:=i0
   obtain ⟨w1,w2⟩:=i1
   have hm:=eL wk (xk - z) w1 w2 oM oM
   have HS:=zH hs
   clear hs
   go_wp2_with fail
   go_quiet (fail)
   go_wp2
   exact ⟨⟨k+1,by omega,by go_num,by rw [HS.o,Int.add_assoc],am hb _⟩,by simp [intOf];omega⟩
  ·obtain rfl:k=n:=oM
   go_wp2
   go_ret
   exact ⟨rfl,hb⟩
theorem dK:EI prog 38 21 (.int .i32 0) 1 4:=⟨underlying38,by kernel_rfl,rfl,by decide⟩
def cg {α:Type} (z:α) (f:Nat → α) (n k:Nat):List α:=(List.range k).map f ++ List.replicate (n - k) z
theorem cM {α:Type} (z:α) (f:Nat → α) (n:Nat):cg z f n 0=List.replicate n z:=by simp [cg]
theorem dZ {α:Type} (z:α) (f:Nat → α) (n:Nat):cg z f n n=(List.range n).map f:=by simp [cg]
theorem dD {α:Type} (z:α) (f:Nat → α) (n k:Nat) (h:k < n):(cg z f n k).set k (f k)=cg z f n (k+1):=by
 unfold cg
 rw [List.set_append_right _ _ sM]
 obtain ⟨m,rfl⟩:∃ m,n=k+m+1:=⟨n - k - 1,by omega⟩
 rw [show k+m+1 - k=m+1 by omega,show k+m+1 - (k+1)=m by omega,List.range_succ]
 simp [List.replicate_succ]
theorem ss (A A' A'' : QA) (n cap n' cap' n'' cap'' : Nat) (x wl b : List Int) (z : Int) (w : World) (hx : xA w A n cap x) (hw : xA w A' n' cap' wl)
    (hb : xB w A'' n'' cap'' b) (hbad : n = 0 ∨ n'' = 0 ∨ n' ≠ n * n'') (h1 : n ≤ 1073741824) (h2 : n' ≤ 1073741824) (h3 : n'' ≤ 1073741824) :
    Calls prog 159 #[.slice A n cap, .slice A' n' cap', .slice A'' n'' cap'', .int .i8 z] w fun e w' =>
      e = .returned (.slice none 0 0) ∧ w = w' := by
  by_cases c1 : n = 0
  · have d1 : ((n : Int) == 0) = true := by simp [c1]
    clear c1 hbad
    go_enter func159, ntmps159
    go_wp2
    go_ret
    exact ⟨rfl, rfl⟩
  have d1 : ((n : Int) == 0) = false := by simp [c1]
  have q1 := IntWalk.tdiv_le (n' : Int) (n : Int) oM oM
  by_cases c2 : n'' = 0
  · have d2 : ((n'' : Int) == 0) = true := by simp [c2]
    have c1 : 1 ≤ n := by omega
    clear c2 hbad
    go_enter func159, ntmps159
    go_wp2
    go_ret
    exact ⟨rfl, rfl⟩
  have d2 : ((n'' : Int) == 0) = false := by simp [c2]
  have n1 : 1 ≤ n := by omega
  by_cases c3 : n' % n = 0
  · have d3 : (((n' : Int) % (n : Int)) != 0) = false := by
      have : ((n' : Int) % (n : Int)) = ((n' % n : Nat) : Int) := by simp
      rw [this, c3]; rfl
    have d4 : (((n' : Int) / (n : Int)) != (n'' : Int)) = true := by
      rw [bne_iff_ne]
      intro h
      have h' : n' / n = n'' := by have : ((n' : Int) / (n : Int)) = ((n' / n : Nat) : Int) := by simp
                                   rw [this] at h; omega
      have := Nat.div_add_mod n' n
      rw [h', c3] at this
      omega
    clear c1 c2 c3 hbad
    go_enter func159, ntmps159
    go_wp2
    go_ret
    exact ⟨rfl, rfl⟩
  · have d3 : (((n' : Int) % (n : Int)) != 0) = true := by
      have : ((n' : Int) % (n : Int)) = ((n' % n : Nat) : Int) := by simp
      rw [this, bne_iff_ne]; omega
    clear c1 c2 c3 hbad
    go_enter func159, ntmps159
    go_wp2
    go_ret
    exact ⟨rfl, rfl⟩
theorem qV (A A' A'':QA) (n cap n' cap' n'' cap'':Nat) (x wl b:List Int) (z:Int) (w:World) (hx:xA w A n cap x) (hw:xA w A' n' cap' wl)
  (hb:xB w A'' n'' cap'' b) (hz:InK .i8 z) (c1:1≤n) (c2:1≤n'') (c3:n'=n*n'') (h1:n≤1073741824) (h2:n'≤1073741824) (h3:n''≤1073741824) :
  Calls prog 159 #[.slice A n cap,.slice A' n' cap',.slice A'' n'' cap'',.int .i8 z] w fun e w' =>
   ∃ v,e=.returned v∧Own (aa .i32) w' (fun _=>False) w.heap.size 21 v n'' ((List.range n'').map fun o=>wrap32 (b.getD o 0+aZ x (wl.drop (o*n)) z n))∧Below w w w':=by
 have d1:((n:Int) == 0)=false:=by simp;omega
 have d2:((n'':Int) == 0)=false:=by simp;omega
 have d3:(((n':Int) % (n:Int)) != 0)=false:=by
  have:((n':Int) % (n:Int))=((n' % n:Nat):Int):=by simp
  rw [this,c3];simp
 have d4:(((n':Int) / (n:Int)) != (n'':Int))=false:=by
  have:((n':Int) / (n:Int))=((n' / n:Nat):Int):=by simp
  rw [this,c3,Nat.mul_div_cancel_left _ oM];simp
 have q1:=IntWalk.tdiv_le (n':Int) (n:Int) oM oM
 have HX:=zH hx
 have HW:=zH hw
 have HB:=zH hb
 have HC:=zH c3
 have HZ:=zH hz
 have h4:=hw.cap_le
 have h5:=hw.max_le
 clear hx hw hb c3 hz
 go_in
 go_wp2_with (first|(go_at_call 179;go_in)|(at_make;refine wpList_make (t:=aa .i32) (S:=fun _=>False) (base:=w.heap.size) rfl _ _ rfl dK .i64 .i64 _ _ n'' rfl rfl rfl rfl ?_ ?_ ?_ 0 ⟨rfl,by decide⟩ (fun _ h=>h.elim) ?_;rotate_right;intro w1 hown hg))
 rotate_left
 ·omega
 ·unfold maxLen;omega
 ·simp;omega
 have hb1:Below w w w1:=(((qB _ _).alloc (lR _) _).alloc sM _).grown hg (by simp;omega) sM
 have hcx:w1.cell? ⟨w.heap.size,0,none⟩=some (.slice A n cap):=(World.cell?_of_block (hg.block w.heap.size (by simp;omega) sM)).trans (by simp [World.cell?_alloc_past])
 have hcz:w1.cell? ⟨w.heap.size+1,0,none⟩=some (.int .i8 z):=(World.cell?_of_block (hg.block (w.heap.size+1) sM sM)).trans (by simp [go_sem])
 have hsz:w.heap.size+2 < w1.heap.size:=by have:=(hown.lt _ rfl).2;simpa using this
 clear hg
 have HO:=zH hown
 clear hown
 go_loopw [47] (fun i wr=>∃ k:Nat,k≤n''∧i=.int .i64 k∧Below w w wr∧wr.cell? ⟨w.heap.size,0,none⟩=some (.slice A n cap)∧wr.cell? ⟨w.heap.size+1,0,none⟩=some (.int .i8 z)∧w.heap.size+2 < wr.heap.size ∧
   Own (aa .i32) wr (fun _=>False) w.heap.size 21 (.slice (some ⟨w.heap.size+1+1,0,none⟩) n'' n'') n'' (cg 0 (fun o=>wrap32 (b.getD o 0+aZ x (wl.drop (o*n)) z n)) n'' k)) (fun i _=>n'' - (intOf i).toNat)
 case atStart=>exact ⟨0,zl _,rfl,hb1,hcx,hcz,hsz,by rw [cM];simpa using HO.o⟩
 case round =>
  obtain ⟨k,hk,rfl,hb,hcx',hcz',hsz',hown⟩:=hrel
  clear hcx hcz hsz hb1
  have hle:∀ c,blo w c → blo wr c:=fun c h=>Nat.lt_of_lt_of_le h hb.size
  by_cases hlt:k < n''
  ·obtain ⟨bb,boff,rfl,_,_,cb,ib⟩:=(HB.o.below hb (fun _ h=>h)).int_at k hlt
   obtain ⟨p,hp⟩:∃ p:Nat,k*n=p:=⟨_,rfl⟩
   have hpi:(k:Int)*(n:Int)=(p:Int):=by rw [← hp];simp
   have hpi':((k:Int)+1)*(n:Int)=(p:Int)+n:=by rw [Int.add_mul,hpi];simp
   have hpn:p+n≤n':=by
    rw [HC.o,← hp,← Nat.succ_mul,Nat.mul_comm n];exact Nat.mul_le_mul_right _ hlt
   obtain ⟨b',off',hA',_,_,_⟩:=HW.o.int_at 0 oM
   subst hA'
   have HOWN:=zH hown
   have HP:=zH hp
   have HLE:=zH hle
   clear hown hp hle
   generalize hbo:b.getD k 0=bo at *
   have HBO:=zH hbo
   clear hbo
   go_wp2_with fail
   have hsub:=HW.o.sub p n p (cap' - p) (by simp [aa]) hpn oM oM
   refine qM (rS _ _ _ _ _ _ _ _ _ _ _ _ ((HX.o.below hb (fun _ h=>h)).more HLE.o) ((hsub.below hb (fun _ h=>h)).more HLE.o) hcx' hcz' HZ.o (lR _)) fun w2 hb2=>?_
   have ho2:=HOWN.o.below hb2 (lR _) (fun _ h=>h.elim)
   obtain ⟨x0,u0,_,_,c5,c6,c7,_⟩:=ho2.cell rfl k hlt
   have H2:=zH ho2
   clear ho2
   have hcx2:=eE hb2 hcx' (by show w.heap.size < _;omega)
   have hcz2:=eE hb2 hcz' (by show w.heap.size+1 < _;omega)
   go_wp2_with fail
   have hbs:=hb2.size
   obtain ⟨o3,g3⟩:=H2.o.set1 rfl k (.int .i32 (wrap32 (bo+wrap32 (aZ x (List.take n (List.drop p wl)) z n)))) (wrap32 (bo+wrap32 (aZ x (List.take n (List.drop p wl)) z n))) ⟨rfl,by rw [bE];exact cV _⟩ (fun _ h=>h.elim)
   refine ⟨⟨k+1,by omega,by go_num,(hb.trans (hb2.mono hb.size)).setCell (by simp;omega) _,?_,?_,by simp;omega,?_⟩,by simp [intOf];omega⟩
   ·rw [World.cell?_setCell_other _ _ _ _ sM];exact hcx2
   ·rw [World.cell?_setCell_other _ _ _ _ sM];exact hcz2
   ·rw [← dD 0 _ n'' k hlt]
    simp only [HBO.o,HP.o]
    rw [nZ _ _ _ _ _ (lR _),fm] at o3 ⊢
    exact o3
  ·obtain rfl:k=n'':=oM
   go_wp2
   go_ret
   exact ⟨_,rfl,by rw [dZ] at hown;exact hown,hb⟩
theorem hO (x wl b:List Int) (z:Int) (n n' n'':Nat) (h1:x.length=n) (h2:wl.length=n') (h3:b.length=n'') :
  cz x wl b z=if n=0 ∨ n''=0 ∨ n' ≠ n*n'' then [] else (List.range n'').map fun o=>wrap32 (b.getD o 0+aZ x (wl.drop (o*n)) z n):=by
 subst h1 h2 h3;rfl
theorem sr (A A' A'':QA) (n cap n' cap' n'' cap'':Nat) (x wl b:List Int) (z:Int) (w:World) (hx:xA w A n cap x) (hw:xA w A' n' cap' wl)
  (hb:xB w A'' n'' cap'' b) (hz:InK .i8 z) (h1:n≤1073741824) (h2:n'≤1073741824) (h3:n''≤1073741824) :
  Calls prog 159 #[.slice A n cap,.slice A' n' cap',.slice A'' n'' cap'',.int .i8 z] w (RetSl (aa .i32) w (cz x wl b z)):=by
 rw [hO x wl b z n n' n'' hx.n_eq hw.n_eq hb.n_eq]
 by_cases hbad:n=0 ∨ n''=0 ∨ n' ≠ n*n''
 ·rw [if_pos hbad]
  refine (ss _ _ _ _ _ _ _ _ _ _ _ _ _ _ hx hw hb hbad h1 h2 h3).mono ?_
  rintro e w' ⟨rfl,rfl⟩
  exact ⟨none,0,0,rfl,Sl.nil _ _ _,qB _ _⟩
 ·rw [if_neg hbad]
  refine (qV _ _ _ _ _ _ _ _ _ _ _ _ _ _ hx hw hb hz oM oM oM h1 h2 h3).mono ?_
  rintro e w' ⟨v,rfl,ho,hb'⟩
  exact ho.ret dM hb' (fun _ h=>h.elim)
theorem rx (A A' A'':QA) (n cap n' cap' n'' cap'':Nat) (z:Int) (w:World) (hbad:n=0 ∨ n''=0 ∨ n' ≠ n*n'') (h1:n≤1073741824) (h2:n'≤1073741824) (h3:n''≤1073741824) :
  Calls prog 103 #[.slice A n cap,.slice A' n' cap',.slice A'' n'' cap'',.int .i8 z] w fun e w' =>
   e=.returned (.slice none 0 0)∧w=w':=by
 obtain ⟨p,hp⟩:∃ p:Nat,n*n''=p:=⟨_,rfl⟩
 have hpi:(n:Int)*(n'':Int)=(p:Int):=by rw [← hp];simp
 have hpl:p≤1152921504606846976:=by rw [← hp];exact Nat.mul_le_mul h1 h3
 rw [hp] at hbad
 clear hp
 by_cases c1:n=0
 ·have d1:((n:Int) == 0)=true:=by simp [c1]
  clear c1 hbad
  go_in
  go_wp2
  go_ret
  exact ⟨rfl,rfl⟩
 have d1:((n:Int) == 0)=false:=by simp [c1]
 by_cases c2:n''=0
 ·have d2:((n'':Int) == 0)=true:=by simp [c2]
  clear c1 c2 hbad
  go_in
  go_wp2
  go_ret
  exact ⟨rfl,rfl⟩
 have d2:((n'':Int) == 0)=false:=by simp [c2]
 have d3:((n':Int) != (p:Int))=true:=by rw [bne_iff_ne];omega
 clear c1 c2 hbad
 go_in
 go_wp2
 go_ret
 exact ⟨rfl,rfl⟩
theorem pT (A A' A'':QA) (n cap n' cap' n'' cap'':Nat) (x wl b:List Int) (z:Int) (w:World) (hx:xA w A n cap x) (hw:xA w A' n' cap' wl)
  (hb:xB w A'' n'' cap'' b) (hz:InK .i8 z) (c1:1≤n) (c2:1≤n'') (c3:n'=n*n'') (h1:n≤1073741824) (h2:n'≤1073741824) (h3:n''≤1073741824) :
  Calls prog 103 #[.slice A n cap,.slice A' n' cap',.slice A'' n'' cap'',.int .i8 z] w fun e w' =>
   ∃ v,e=.returned v∧Own (aa .i32) w' (fun _=>False) w.heap.size 21 v n'' ((List.range n'').map fun o=>wrap32 (b.getD o 0+aZ x (wl.drop (o*n)) z n))∧Below w w w':=by
 have d1:((n:Int) == 0)=false:=by simp;omega
 have d2:((n'':Int) == 0)=false:=by simp;omega
 have hpi:(n:Int)*(n'':Int)=(n':Int):=by rw [c3];simp
 have d3:((n':Int) != (n':Int))=false:=by simp
 have HX:=zH hx
 have HW:=zH hw
 have HB:=zH hb
 have HC:=zH c3
 have HZ:=zH hz
 clear hx hw hb c3 hz
 go_in
 go_wp2
 go_loopw [9,10] (fun v i wr=>∃ k:Nat,k≤n''∧i=.int .i64 k∧Below w w wr ∧
   Own (aa .i32) wr (fun _=>False) w.heap.size 21 v k ((List.range k).map fun o=>wrap32 (b.getD o 0+aZ x (wl.drop (o*n)) z n))) (fun _ i _=>n'' - (intOf i).toNat)
 case atStart=>exact ⟨0,zl _,rfl,qB _ _,Own.nil _ _ _ _ _⟩
 case round =>
  obtain ⟨k,hk,rfl,hb,hown⟩:=hrel
  by_cases hlt:k < n''
  ·have hpn:k*n+n≤n':=by
    rw [HC.o,← Nat.succ_mul,Nat.mul_comm n];exact Nat.mul_le_mul_right _ hlt
   have HOWN:=zH hown
   clear hown
   go_wp2_with fail
   refine qM (rL _ _ _ _ _ _ _ _ _ k _ _ _ _ _ ((HX.o.later hb (lR _))) (HW.o.later hb (lR _)) (HB.o.later hb (lR _)) HZ.o hlt hpn h2 h3) fun w2 hb2=>?_
   have ho2:=HOWN.o.below hb2 (lR _) (fun _ h=>h.elim)
   have hbs:=hb2.size
   have hbz:=hb.size
   go_wp2_with (at_builtin;refine wpList_push (t:=aa .i32) rfl _ _ rfl dK (v:=u9) rfl ho2 1 rfl _ ⟨rfl,by rw [bE];exact cV _⟩ (by unfold maxLen;omega) oM oM (fun _ h=>h.elim) ?_;intro v' w3 ho3 hg3 _)
   refine ⟨⟨k+1,by omega,by go_num,(hb.trans (hb2.mono hbz)).grown hg3 oM (fun k h=>(ho2.lt k h).1),?_⟩,by simp [intOf];omega⟩
   rw [List.range_succ,List.map_append]
   simpa using ho3
  ·obtain rfl:k=n'':=oM
   go_wp2
   go_ret
   exact ⟨_,rfl,hown,hb⟩
theorem ru (A A' A'':QA) (n cap n' cap' n'' cap'':Nat) (x wl b:List Int) (z:Int) (w:World) (hx:xA w A n cap x) (hw:xA w A' n' cap' wl)
  (hb:xB w A'' n'' cap'' b) (hz:InK .i8 z) (h1:n≤1073741824) (h2:n'≤1073741824) (h3:n''≤1073741824) :
  Calls prog 103 #[.slice A n cap,.slice A' n' cap',.slice A'' n'' cap'',.int .i8 z] w (RetSl (aa .i32) w (cz x wl b z)):=by
 rw [hO x wl b z n n' n'' hx.n_eq hw.n_eq hb.n_eq]
 by_cases hbad:n=0 ∨ n''=0 ∨ n' ≠ n*n''
 ·rw [if_pos hbad]
  refine (rx _ _ _ _ _ _ _ _ _ _ _ hbad h1 h2 h3).mono ?_
  rintro e w' ⟨rfl,rfl⟩
  exact ⟨none,0,0,rfl,Sl.nil _ _ _,qB _ _⟩
 ·rw [if_neg hbad]
  refine (pT _ _ _ _ _ _ _ _ _ _ _ _ _ _ hx hw hb hz oM oM oM h1 h2 h3).mono ?_
  rintro e w' ⟨v,rfl,ho,hb'⟩
  exact ho.ret dM hb' (fun _ h=>h.elim)
end Go.Proofs.YtmihnoagagbgaaaGreat
