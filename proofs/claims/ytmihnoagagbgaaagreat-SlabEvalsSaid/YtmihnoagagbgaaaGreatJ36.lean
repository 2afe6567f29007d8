/-
  Sums by kind (layer 26): the document's Sum.
  The numbers of two lists, pair by pair (layer 20: join.pairs).
  The shape that a node makes (layers 18, 25): kinds.Shape.
-/
import Derived.Test.YtmihnoagagbgaaaGreatJ33
set_option linter.unusedVariables false
set_option linter.unusedSimpArgs false
set_option maxRecDepth 100000
set_option maxHeartbeats 16000000
namespace Go.Proofs.YtmihnoagagbgaaaGreat
open Go.RowKit Go.ChangeShapes Go.WideShapes Tryz
set_option maxRecDepth 100000
set_option maxHeartbeats 16000000
def bX (t:ae) (d:af):ae × Int:=if d.kind=1 then aS t d else if d.kind=2 then aY t d else if d.kind=3 then bk t d else (aj,6)
theorem ou (t:ae) (A:QA) (n cap:Nat) (d:af) (W:QA) (nw cw:Nat) (B:QA) (nb cb:Nat) (w:World) (ht:ak t) (hd:aE d)
  (ha:xA w A n cap t.data) (hw:xA w W nw cw d.w) (hb:xB w B nb cb d.bias) (mw:nw≤2000∧nb≤200) :
  Calls prog 34 #[.agg (nD d W nw cw B nb cb),.agg (tN t.h t.v t.c A n cap)] w (ar .i32 (bX t d).1 (bX t d).2 w):=by
 have HA:=zH ha
 have HW:=zH hw
 have HB:=zH hb
 have S1:=zH (fun w (ha:xA w A n cap t.data) (hw:xA w W nw cw d.w) (hb:xB w B nb cb d.bias)=>n8 t A n cap d W nw cw B nb cb w ht hd ha hw hb mw)
 have S2:=zH (fun w (ha:xA w A n cap t.data) (hw:xA w W nw cw d.w) (hb:xB w B nb cb d.bias)=>mH t A n cap d W nw cw B nb cb w ht hd ha hw hb mw)
 have S3:=zH (fun w (ha:xA w A n cap t.data) (hw:xA w W nw cw d.w) (hb:xB w B nb cb d.bias)=>mE t A n cap d W nw cw B nb cb w ht hd ha hw hb)
 have FR:=zW w
 obtain ⟨w1,w2,w3,yw1,yw2,yw3,l1,l2,_,BN,BA,BR,yk3⟩:=bk3 w (nD d W nw cw B nb cb) 42 (tN t.h t.v t.c A n cap) 27 (tN 0 0 0 none 0 0) 80
 replace FR:=zF yk3 FR
 clear yk3
 have c0:=BN.o.cell 0
 simp only [gX] at c0
 have SO:=zH (show bX t d=if d.kind=1 then aS t d else if d.kind=2 then aY t d else if d.kind=3 then bk t d else (aj,6) from rfl)
 obtain ⟨x,hx⟩:∃ x,bX t d=x:=⟨_,rfl⟩
 rw [hx] at SO ⊢
 have HM:=zH mw
 clear ht hd ha hw hb hx mw
 by_cases k1:d.kind=1
 ·rw [if_pos k1] at SO
  rw [SO.o]
  have c0':w3.cell? ⟨w.heap.size,0,none⟩=some (.int .i64 1):=by rw [← k1];exact c0
  replace c0:=c0'
  clear c0' k1  SO
  obtain ⟨y,hy⟩:∃ y,aS t d=y:=⟨_,rfl⟩
  rw [hy] at S1 ⊢
  clear hy
  go_in
  go_wp2_with (first|(refine lGJ19 BA.o ?_)|(refine lGJ19 BN.o ?_))
  refine (S1.o _ (zO HA FR) (zO HW FR) (zO HB FR)).mono ?_
  rintro e wm ⟨RA,rn,rc,rfl,rs,hb⟩
  have RS:=zH (show New w3 (aa .i32) wm RA rn rc y.1.data from ⟨rs⟩)
  have lbr:=BR.o.lt
  have lfr:=FR.o.size
  obtain ⟨BR,FR⟩:=uz2 hb BR FR
  clear hb rs c0 yw1 yw2 yw3
  go_wp2_with (refine sGJ19 (tN y.1.h y.1.v y.1.c RA rn rc) BR.o ?_;intro w9 B9 g9)
  refine rG B9 ?_
  exact ⟨RA,rn,rc,rfl,(RS.o.away g9 lbr).out.more (aO lfr (lR _)),(FR.o.away g9 oM).out⟩
 rw [if_neg k1] at SO
 have t1:(d.kind == 1)=false:=by simpa using k1
 by_cases k2:d.kind=2
 ·rw [if_pos k2] at SO
  rw [SO.o]
  have c0':w3.cell? ⟨w.heap.size,0,none⟩=some (.int .i64 2):=by rw [← k2];exact c0
  replace c0:=c0'
  clear c0' k2 t1 SO
  obtain ⟨y,hy⟩:∃ y,aY t d=y:=⟨_,rfl⟩
  rw [hy] at S2 ⊢
  clear hy
  go_in
  go_wp2_with (first|(refine lGJ19 BA.o ?_)|(refine lGJ19 BN.o ?_))
  refine (S2.o _ (zO HA FR) (zO HW FR) (zO HB FR)).mono ?_
  rintro e wm ⟨RA,rn,rc,rfl,rs,hb⟩
  have RS:=zH (show New w3 (aa .i32) wm RA rn rc y.1.data from ⟨rs⟩)
  have lbr:=BR.o.lt
  have lfr:=FR.o.size
  obtain ⟨BR,FR⟩:=uz2 hb BR FR
  clear hb rs c0 yw1 yw2 yw3
  go_wp2_with (refine sGJ19 (tN y.1.h y.1.v y.1.c RA rn rc) BR.o ?_;intro w9 B9 g9)
  refine rG B9 ?_
  exact ⟨RA,rn,rc,rfl,(RS.o.away g9 lbr).out.more (aO lfr (lR _)),(FR.o.away g9 oM).out⟩
 rw [if_neg k2] at SO
 have t2:(d.kind == 2)=false:=by simpa using k2
 by_cases k3:d.kind=3
 ·rw [if_pos k3] at SO
  rw [SO.o]
  have c0':w3.cell? ⟨w.heap.size,0,none⟩=some (.int .i64 3):=by rw [← k3];exact c0
  replace c0:=c0'
  clear c0' k3 t1 t2 SO
  obtain ⟨y,hy⟩:∃ y,bk t d=y:=⟨_,rfl⟩
  rw [hy] at S3 ⊢
  clear hy
  go_in
  go_wp2_with (first|(refine lGJ19 BA.o ?_)|(refine lGJ19 BN.o ?_))
  refine (S3.o _ (zO HA FR) (zO HW FR) (zO HB FR)).mono ?_
  rintro e wm ⟨RA,rn,rc,rfl,rs,hb⟩
  have RS:=zH (show New w3 (aa .i32) wm RA rn rc y.1.data from ⟨rs⟩)
  have lbr:=BR.o.lt
  have lfr:=FR.o.size
  obtain ⟨BR,FR⟩:=uz2 hb BR FR
  clear hb rs c0 yw1 yw2 yw3
  go_wp2_with (refine sGJ19 (tN y.1.h y.1.v y.1.c RA rn rc) BR.o ?_;intro w9 B9 g9)
  refine rG B9 ?_
  exact ⟨RA,rn,rc,rfl,(RS.o.away g9 lbr).out.more (aO lfr (lR _)),(FR.o.away g9 oM).out⟩
 rw [if_neg k3] at SO
 have t3:(d.kind == 3)=false:=by simpa using k3
 rw [SO.o]
 clear k1 k2 k3
 go_in
 go_wp2_with (refine sGJ19 (tN 0 0 0 none 0 0) BR.o ?_;intro w9 B9 g9)
 refine rG B9 ?_
 exact ar.none (FR.o.away g9 oM).out
end Go.Proofs.YtmihnoagagbgaaaGreat
namespace Go.Proofs.YtmihnoagagbgaaaGreat
open Go.RowKit Go.ChangeShapes Go.WideShapes Fx Tryz
set_option maxRecDepth 100000
set_option maxHeartbeats 16000000
def e88 (x:I8 × I8):Array Value:=#[Value.int .i8 x.1.1,.int .i8 x.2.1]
def ls (l l':List Int) (hl:∀ i,InK .i8 (l.getD i 0)) (hl':∀ i,InK .i8 (l'.getD i 0)) (i:Nat):I8 × I8:=(⟨l.getD i 0,hl i⟩,⟨l'.getD i 0,hl' i⟩)
structure dj (S:Nat → Prop) (W W':World):Prop where
 size:W.heap.size≤W'.heap.size
 same:∀ k,S k → W'.heap[k]?=W.heap[k]?
theorem dj.refl (S:Nat → Prop) (W:World):dj S W W:=⟨lR _,fun _ _=>rfl⟩
theorem dj.trans {S:Nat → Prop} {A B C:World} (h:dj S A B) (k:dj S B C):dj S A C:=⟨lT h.size k.size,fun i hi=>(k.same i hi).trans (h.same i hi)⟩
theorem dj.put {S:Nat → Prop} {m:Nat} (hS:∀ k,S k → k < m) (W:World) (l:Nat) (o o':Obj) (hl:m≤l) (h:W.heap[l]?=some o) (h1:o.isCells=false) (h2:o.isWalk=false):dj S W (W.putObj l o') :=
 ⟨(grownBy_putObj' W l o').size,fun k hk=>World.putObj_heap_other (fun e=>by have:=hS k hk;omega)⟩
theorem Blk.keepS {w w':World} {S:Nat → Prop} {g:Nat} {e:TypeId} {cs:Array Value} (h:Blk w g e cs) (hk:dj S w w') (hg:S g):Blk w' g e cs:=⟨(hk.same g hg).trans h.heap⟩
theorem mq (S:Nat → Prop) (A A':QA) (n cap cap':Nat) (l l':List Int) (bA bB m:Nat) (w:World)
  (hl:Sl (aa .i8) w S A n cap l) (hl':Sl (aa .i8) w S A' n cap' l') (hn2:n≤1024)
  (BA:Blk w bA 25 #[.slice A n cap]) (BB:Blk w bB 25 #[.slice A' n cap']) (hb:S bA∧S bB) (hS:∀ k,S k → k < w.heap.size) (hm:1≤m) :
  SeqStopsK Fence.wide m prog 122 #[.pointer (some ⟨bA,0,none⟩),.pointer (some ⟨bB,0,none⟩)] e88 (dj S) (fun ys=>ys=(List.range n).map (ls l l' hl.allK hl'.allK)) (fun _=>True) n w:=by
 intro lo J Jx W0 hW hJ hJx hY h0
 obtain ⟨XF,hXF⟩:∃ f,ls l l' hl.allK hl'.allK=f:=⟨_,rfl⟩
 have X1:∀ i,(XF i).1.1=l.getD i 0∧(XF i).2.1=l'.getD i 0:=fun i=>by rw [← hXF];exact ⟨rfl,rfl⟩
 rw [hXF]
 have hWb:dj S w W0:=⟨hW.size,fun k hk=>hW.block k (hS k hk)⟩
 have HL:=zH (hl.keep fun b h=>hWb.same b h)
 have HL':=zH (hl'.keep fun b h=>hWb.same b h)
 have GB:=zH hb
 have BA:=zH (BA.keepS hWb hb.1)
 have BB:=zH (BB.keepS hWb hb.2)
 have HX:=zH X1
 have HY:=zH hY
 have mx:n≤9223372036854775807:=oM
 have a0:=BA.o.cell 0
 clear hl hl' hXF hW hWb hJ hJx hY hb hS X1
 rw [callsIn_wide]
 simp only [List.append_toArray,List.cons_append,List.nil_append]
 go_in
 go_wp2_with fail
 clear a0
 go_loopw [8] (fun ii wr=>∃ k:Nat,k≤n∧ii=.int .i64 k∧J ((List.range k).map XF) wr∧dj S W0 wr) (fun ii _=>n - (intOf ii).toNat)
 case atStart=>exact ⟨0,zl _,rfl,h0,dj.refl _ _⟩
 case round =>
  obtain ⟨k,hk,rfl,hj,hbw⟩:=hrel
  have BB:=zH (BB.o.keepS hbw GB.o.2)
  have HL:=zH (HL.o.keep fun b h=>hbw.same b h)
  have HL':=zH (HL'.o.keep fun b h=>hbw.same b h)
  have HJS:=zH hj
  have HB:=zH hbw
  clear hj hbw
  by_cases hlt:k < n
  ·have p1':(k:Int) < (n:Int):=oM
   obtain ⟨b,o,rfl,-,-,cx,-⟩:=HL.o.int_at k hlt
   obtain ⟨b',o',rfl,-,-,cy,-⟩:=HL'.o.int_at k hlt
   obtain ⟨v8,hv8⟩:∃ v:I8 × I8,XF k=v:=⟨_,rfl⟩
   have hx:=HX.o k
   rw [hv8] at hx
   rw [← hx.1] at cx
   rw [← hx.2] at cy
   have b0:=BB.o.cell 0
   simp only [List.getElem?_toArray,List.getElem?_cons_zero] at b0
   have j8:∀ W,J ((List.range k).map XF ++ [v8]) W → J ((List.range (k+1)).map XF) W:=fun W h=>by
    rw [List.range_succ,List.map_append]
    show J (_ ++ [XF k]) W
    rw [hv8];exact h
   have J8:=zH j8
   obtain ⟨fn,tmps,assign,body,hy,hR⟩:=HY.o ((List.range k).map XF) v8 wr HJS.o (by simpa using hlt)
   simp only [e88] at hy
   clear hv8 hx j8
   go_upto_region 3 with fail
   rw [← wpIn_wide (n:=m)]
   gi_wp2
   refine hR.mono ?_
   rintro e w4 (⟨rfl,hJ4,hk4⟩|⟨rfl,hJx4⟩)
   ·gi_wp2
    go_wp2
    exact ⟨⟨k+1,by omega,by go_num,J8.o _ hJ4,HB.o.trans hk4⟩,by simp [intOf];omega⟩
   ·gi_wp2
    go_wp2_with fail
    refine bodyPost_ret (results_none rfl _ _ _) rfl ?_
    exact ⟨⟨_,rfl⟩,.inr ⟨_,trivial,hJx4⟩⟩
  ·obtain rfl:k=n:=oM
   go_wp2_with fail
   refine bodyPost_end (results_none rfl _ _ _) rfl ?_
   exact ⟨⟨_,rfl⟩,.inl ⟨(List.range k).map XF,by first|rfl|simp,HJS.o⟩⟩
theorem rg (A A':QA) (n cap n' cap':Nat) (w:World) :
  Calls prog 86 #[.slice A n cap,.slice A' n' cap'] w fun e w'=>e=.returned (.func (.func 122) #[] #[.pointer (some ⟨w.heap.size,0,none⟩),.pointer (some ⟨w.heap.size+1,0,none⟩)])∧w'=(w.alloc (.cells #[.slice A n cap] 25)).alloc (.cells #[.slice A' n' cap'] 25):=by
 go_in
 go_wp2
 go_ret
 exact ⟨rfl,rfl⟩
end Go.Proofs.YtmihnoagagbgaaaGreat
namespace Go.Proofs.YtmihnoagagbgaaaGreat
open Go.RowKit Go.ChangeShapes Go.WideShapes Tryz
set_option maxRecDepth 100000
set_option maxHeartbeats 16000000
theorem pu (h v c h2 v2 c2:Int) (d:af) (W:QA) (nw cw:Nat) (B:QA) (nb cb:Nat) (w:World) (i0:InK .i64 h) (i1:InK .i64 v) (i2:InK .i64 c) (hout:InK .i64 d.out) (hp:InK .i64 d.p) (hnw:nw=d.w.length) (hnb:nb=d.bias.length) (mw:nw≤1048576) (mb:nb≤1048576) (hk:1≤d.kind∧d.kind≤9) :
  Calls prog 70 #[.agg (nD d W nw cw B nb cb),.agg (sN h v c),.agg (sN h2 v2 c2)] w fun e w'=>e=aL (aD h v c h2 v2 c2 d)∧Below w w w':=by
 obtain ⟨r,hr⟩:∃ r,aD h v c h2 v2 c2 d=r:=⟨_,rfl⟩
 rw [hr]
 unfold aD at hr
 have VV:=zH hr.symm
 clear hr
 have FR:=zW w
 obtain ⟨w1,w2,w3,w4,yw1,yw2,yw3,yw4,l1,l2,l3,l4,BN,BA,BB,BR,yk4⟩:=bk4 w (nD d W nw cw B nb cb) 42 (sN h v c) 24 (sN h2 v2 c2) 24 (sN 0 0 0) 24
 replace FR:=zF yk4 FR
 clear yk4
 have n0:=BN.o.cell 0
 rcases (show d.kind=1 ∨ d.kind=2 ∨ d.kind=3 ∨ d.kind=4 ∨ d.kind=5 ∨ d.kind=6 ∨ d.kind=7 ∨ d.kind=8 ∨ d.kind=9 by omega) with e|e|e|e|e|e|e|e|e
 ·clear hk
  have k1:(d.kind == 1)=true:=by simp [e]
  have k2:(d.kind == 2)=false:=by simp [e]
  have k3:(d.kind == 3)=false:=by simp [e]
  have k4:(d.kind == 4)=false:=by simp [e]
  have k5:(d.kind == 5)=false:=by simp [e]
  have k6:(d.kind == 6)=false:=by simp [e]
  have k7:(d.kind == 7)=false:=by simp [e]
  have k8:(d.kind == 8)=false:=by simp [e]
  have k9:(d.kind == 9)=false:=by simp [e]
  have CN:=zH (fun w=>dB h v c d W nw cw B nb cb w i0 i1 i2 hout hnw hnb mw mb)
  obtain ⟨⟨⟨x1,x2,x3⟩,xe⟩,hx⟩:∃ x,aN h v c d=x:=⟨_,rfl⟩
  have R:=zH (show r=((x1,x2,x3),xe) by rw [VV.o,← hx];simp [e])
  rw [hx] at CN
  simp only [aL] at CN
  clear VV hx e i0 i1 i2 hout hp hnw hnb mw mb
  go_in
  go_wp2_with (first
   | (refine lGJ19 BA.o ?_)
   | (refine lGJ19 BN.o ?_))
  clear yw1 yw2 yw3 yw4 n0
  refine qM (CN.o _) fun w5 hb=>?_
  obtain ⟨FR,BN,BA,BB,BR⟩:=uz5 hb FR BN BA BB BR
  clear hb
  go_wp2_with (first
   | (refine sGJ19 (sN x1 x2 x3) BR.o ?_;intro w7 BR7 g7))
  refine rG BR7 ?_;exact ⟨by rw [R.o];rfl,(FR.o.away g7 oM).out⟩
 ·clear hk
  have k1:(d.kind == 1)=false:=by simp [e]
  have k2:(d.kind == 2)=true:=by simp [e]
  have k3:(d.kind == 3)=false:=by simp [e]
  have k4:(d.kind == 4)=false:=by simp [e]
  have k5:(d.kind == 5)=false:=by simp [e]
  have k6:(d.kind == 6)=false:=by simp [e]
  have k7:(d.kind == 7)=false:=by simp [e]
  have k8:(d.kind == 8)=false:=by simp [e]
  have k9:(d.kind == 9)=false:=by simp [e]
  have CN:=zH (fun w=>eU h v c d W nw cw B nb cb w i0 i1 i2 hout hnw hnb mw mb)
  obtain ⟨⟨⟨x1,x2,x3⟩,xe⟩,hx⟩:∃ x,aM h v c d=x:=⟨_,rfl⟩
  have R:=zH (show r=((x1,x2,x3),xe) by rw [VV.o,← hx];simp [e])
  rw [hx] at CN
  simp only [aL] at CN
  clear VV hx e i0 i1 i2 hout hp hnw hnb mw mb
  go_in
  go_wp2_with (first
   | (refine lGJ19 BA.o ?_)
   | (refine lGJ19 BN.o ?_))
  clear yw1 yw2 yw3 yw4 n0
  refine qM (CN.o _) fun w5 hb=>?_
  obtain ⟨FR,BN,BA,BB,BR⟩:=uz5 hb FR BN BA BB BR
  clear hb
  go_wp2_with (first
   | (refine sGJ19 (sN x1 x2 x3) BR.o ?_;intro w7 BR7 g7))
  refine rG BR7 ?_;exact ⟨by rw [R.o];rfl,(FR.o.away g7 oM).out⟩
 ·clear hk
  have k1:(d.kind == 1)=false:=by simp [e]
  have k2:(d.kind == 2)=false:=by simp [e]
  have k3:(d.kind == 3)=true:=by simp [e]
  have k4:(d.kind == 4)=false:=by simp [e]
  have k5:(d.kind == 5)=false:=by simp [e]
  have k6:(d.kind == 6)=false:=by simp [e]
  have k7:(d.kind == 7)=false:=by simp [e]
  have k8:(d.kind == 8)=false:=by simp [e]
  have k9:(d.kind == 9)=false:=by simp [e]
  have CN:=zH (fun w=>nf h v c d W nw cw B nb cb w i0 i1 i2 hout hnw hnb mw mb)
  obtain ⟨⟨⟨x1,x2,x3⟩,xe⟩,hx⟩:∃ x,dq h v c d=x:=⟨_,rfl⟩
  have R:=zH (show r=((x1,x2,x3),xe) by rw [VV.o,← hx];simp [e])
  rw [hx] at CN
  simp only [aL] at CN
  clear VV hx e i0 i1 i2 hout hp hnw hnb mw mb
  go_in
  go_wp2_with (first
   | (refine lGJ19 BA.o ?_)
   | (refine lGJ19 BN.o ?_))
  clear yw1 yw2 yw3 yw4 n0
  refine qM (CN.o _) fun w5 hb=>?_
  obtain ⟨FR,BN,BA,BB,BR⟩:=uz5 hb FR BN BA BB BR
  clear hb
  go_wp2_with (first
   | (refine sGJ19 (sN x1 x2 x3) BR.o ?_;intro w7 BR7 g7))
  refine rG BR7 ?_;exact ⟨by rw [R.o];rfl,(FR.o.away g7 oM).out⟩
 ·clear hk
  have k1:(d.kind == 1)=false:=by simp [e]
  have k2:(d.kind == 2)=false:=by simp [e]
  have k3:(d.kind == 3)=false:=by simp [e]
  have k4:(d.kind == 4)=true:=by simp [e]
  have k5:(d.kind == 5)=false:=by simp [e]
  have k6:(d.kind == 6)=false:=by simp [e]
  have k7:(d.kind == 7)=false:=by simp [e]
  have k8:(d.kind == 8)=false:=by simp [e]
  have k9:(d.kind == 9)=false:=by simp [e]
  have CN:=zH (fun w=>dQ h v c d.k d.s d.p c w i0 i1 i2 i2)
  obtain ⟨n3,n4,n5⟩:=uc3 BN 3 4 5
  have a2:=BA.o.cell 2
  obtain ⟨⟨⟨x1,x2,x3⟩,xe⟩,hx⟩:∃ x,aw h v c d.k d.s d.p c=x:=⟨_,rfl⟩
  have R:=zH (show r=((x1,x2,x3),xe) by rw [VV.o,← hx];simp [e])
  rw [hx] at CN
  simp only [aL] at CN
  clear VV hx e i0 i1 i2 hout hp hnw hnb mw mb
  go_in
  go_wp2_with (first
   | (refine lGJ19 BA.o ?_))
  clear yw1 yw2 yw3 yw4 n0 n3 n4 n5 a2
  refine qM (CN.o _) fun w5 hb=>?_
  obtain ⟨FR,BN,BA,BB,BR⟩:=uz5 hb FR BN BA BB BR
  clear hb
  go_wp2_with (first
   | (refine sGJ19 (sN x1 x2 x3) BR.o ?_;intro w7 BR7 g7))
  refine rG BR7 ?_;exact ⟨by rw [R.o];rfl,(FR.o.away g7 oM).out⟩
 ·clear hk
  have k1:(d.kind == 1)=false:=by simp [e]
  have k2:(d.kind == 2)=false:=by simp [e]
  have k3:(d.kind == 3)=false:=by simp [e]
  have k4:(d.kind == 4)=false:=by simp [e]
  have k5:(d.kind == 5)=true:=by simp [e]
  have k6:(d.kind == 6)=false:=by simp [e]
  have k7:(d.kind == 7)=false:=by simp [e]
  have k8:(d.kind == 8)=false:=by simp [e]
  have k9:(d.kind == 9)=false:=by simp [e]
  have CN:=zH (fun w=>dQ h v c d.k d.s d.p c w i0 i1 i2 i2)
  obtain ⟨n3,n4,n5⟩:=uc3 BN 3 4 5
  have a2:=BA.o.cell 2
  obtain ⟨⟨⟨x1,x2,x3⟩,xe⟩,hx⟩:∃ x,aw h v c d.k d.s d.p c=x:=⟨_,rfl⟩
  have R:=zH (show r=((x1,x2,x3),xe) by rw [VV.o,← hx];simp [e])
  rw [hx] at CN
  simp only [aL] at CN
  clear VV hx e i0 i1 i2 hout hp hnw hnb mw mb
  go_in
  go_wp2_with (first
   | (refine lGJ19 BA.o ?_))
  clear yw1 yw2 yw3 yw4 n0 n3 n4 n5 a2
  refine qM (CN.o _) fun w5 hb=>?_
  obtain ⟨FR,BN,BA,BB,BR⟩:=uz5 hb FR BN BA BB BR
  clear hb
  go_wp2_with (first
   | (refine sGJ19 (sN x1 x2 x3) BR.o ?_;intro w7 BR7 g7))
  refine rG BR7 ?_;exact ⟨by rw [R.o];rfl,(FR.o.away g7 oM).out⟩
 ·clear hk
  have k1:(d.kind == 1)=false:=by simp [e]
  have k2:(d.kind == 2)=false:=by simp [e]
  have k3:(d.kind == 3)=false:=by simp [e]
  have k4:(d.kind == 4)=false:=by simp [e]
  have k5:(d.kind == 5)=false:=by simp [e]
  have k6:(d.kind == 6)=true:=by simp [e]
  have k7:(d.kind == 7)=false:=by simp [e]
  have k8:(d.kind == 8)=false:=by simp [e]
  have k9:(d.kind == 9)=false:=by simp [e]
  have CN:=zH (fun w=>dS h v c h2 v2 c2 d W nw cw B nb cb w i0 i1 i2 hout hp hnw hnb mw mb oM)
  obtain ⟨⟨⟨x1,x2,x3⟩,xe⟩,hx⟩:∃ x,bJ d.kind h v c h2 v2 c2 d.p=x:=⟨_,rfl⟩
  have R:=zH (show r=((x1,x2,x3),xe) by rw [VV.o,← hx];simp [e])
  rw [hx] at CN
  simp only [aL] at CN
  clear VV hx e i0 i1 i2 hout hp hnw hnb mw mb
  go_in
  go_wp2_with (first
   | (refine lGJ19 BA.o ?_)
   | (refine lGJ19 BB.o ?_)
   | (refine lGJ19 BN.o ?_))
  clear yw1 yw2 yw3 yw4 n0
  refine qM (CN.o _) fun w5 hb=>?_
  obtain ⟨FR,BN,BA,BB,BR⟩:=uz5 hb FR BN BA BB BR
  clear hb
  go_wp2_with (first
   | (refine sGJ19 (sN x1 x2 x3) BR.o ?_;intro w7 BR7 g7))
  refine rG BR7 ?_;exact ⟨by rw [R.o];rfl,(FR.o.away g7 oM).out⟩
 ·clear hk
  have k1:(d.kind == 1)=false:=by simp [e]
  have k2:(d.kind == 2)=false:=by simp [e]
  have k3:(d.kind == 3)=false:=by simp [e]
  have k4:(d.kind == 4)=false:=by simp [e]
  have k5:(d.kind == 5)=false:=by simp [e]
  have k6:(d.kind == 6)=false:=by simp [e]
  have k7:(d.kind == 7)=true:=by simp [e]
  have k8:(d.kind == 8)=false:=by simp [e]
  have k9:(d.kind == 9)=false:=by simp [e]
  have CN:=zH (fun w=>dS h v c h2 v2 c2 d W nw cw B nb cb w i0 i1 i2 hout hp hnw hnb mw mb oM)
  obtain ⟨⟨⟨x1,x2,x3⟩,xe⟩,hx⟩:∃ x,bJ d.kind h v c h2 v2 c2 d.p=x:=⟨_,rfl⟩
  have R:=zH (show r=((x1,x2,x3),xe) by rw [VV.o,← hx];simp [e])
  rw [hx] at CN
  simp only [aL] at CN
  clear VV hx e i0 i1 i2 hout hp hnw hnb mw mb
  go_in
  go_wp2_with (first
   | (refine lGJ19 BA.o ?_)
   | (refine lGJ19 BB.o ?_)
   | (refine lGJ19 BN.o ?_))
  clear yw1 yw2 yw3 yw4 n0
  refine qM (CN.o _) fun w5 hb=>?_
  obtain ⟨FR,BN,BA,BB,BR⟩:=uz5 hb FR BN BA BB BR
  clear hb
  go_wp2_with (first
   | (refine sGJ19 (sN x1 x2 x3) BR.o ?_;intro w7 BR7 g7))
  refine rG BR7 ?_;exact ⟨by rw [R.o];rfl,(FR.o.away g7 oM).out⟩
 ·clear hk
  have k1:(d.kind == 1)=false:=by simp [e]
  have k2:(d.kind == 2)=false:=by simp [e]
  have k3:(d.kind == 3)=false:=by simp [e]
  have k4:(d.kind == 4)=false:=by simp [e]
  have k5:(d.kind == 5)=false:=by simp [e]
  have k6:(d.kind == 6)=false:=by simp [e]
  have k7:(d.kind == 7)=false:=by simp [e]
  have k8:(d.kind == 8)=true:=by simp [e]
  have k9:(d.kind == 9)=false:=by simp [e]
  have CN:=zH (fun w=>dS h v c h2 v2 c2 d W nw cw B nb cb w i0 i1 i2 hout hp hnw hnb mw mb oM)
  obtain ⟨⟨⟨x1,x2,x3⟩,xe⟩,hx⟩:∃ x,bJ d.kind h v c h2 v2 c2 d.p=x:=⟨_,rfl⟩
  have R:=zH (show r=((x1,x2,x3),xe) by rw [VV.o,← hx];simp [e])
  rw [hx] at CN
  simp only [aL] at CN
  clear VV hx e i0 i1 i2 hout hp hnw hnb mw mb
  go_in
  go_wp2_with (first
   | (refine lGJ19 BA.o ?_)
   | (refine lGJ19 BB.o ?_)
   | (refine lGJ19 BN.o ?_))
  clear yw1 yw2 yw3 yw4 n0
  refine qM (CN.o _) fun w5 hb=>?_
  obtain ⟨FR,BN,BA,BB,BR⟩:=uz5 hb FR BN BA BB BR
  clear hb
  go_wp2_with (first
   | (refine sGJ19 (sN x1 x2 x3) BR.o ?_;intro w7 BR7 g7))
  refine rG BR7 ?_;exact ⟨by rw [R.o];rfl,(FR.o.away g7 oM).out⟩
 ·clear hk
  have k1:(d.kind == 1)=false:=by simp [e]
  have k2:(d.kind == 2)=false:=by simp [e]
  have k3:(d.kind == 3)=false:=by simp [e]
  have k4:(d.kind == 4)=false:=by simp [e]
  have k5:(d.kind == 5)=false:=by simp [e]
  have k6:(d.kind == 6)=false:=by simp [e]
  have k7:(d.kind == 7)=false:=by simp [e]
  have k8:(d.kind == 8)=false:=by simp [e]
  have k9:(d.kind == 9)=true:=by simp [e]
  have CN:=zH (fun w=>dS h v c h2 v2 c2 d W nw cw B nb cb w i0 i1 i2 hout hp hnw hnb mw mb oM)
  obtain ⟨⟨⟨x1,x2,x3⟩,xe⟩,hx⟩:∃ x,bJ d.kind h v c h2 v2 c2 d.p=x:=⟨_,rfl⟩
  have R:=zH (show r=((x1,x2,x3),xe) by rw [VV.o,← hx];simp [e])
  rw [hx] at CN
  simp only [aL] at CN
  clear VV hx e i0 i1 i2 hout hp hnw hnb mw mb
  go_in
  go_wp2_with (first
   | (refine lGJ19 BA.o ?_)
   | (refine lGJ19 BB.o ?_)
   | (refine lGJ19 BN.o ?_))
  clear yw1 yw2 yw3 yw4 n0
  refine qM (CN.o _) fun w5 hb=>?_
  obtain ⟨FR,BN,BA,BB,BR⟩:=uz5 hb FR BN BA BB BR
  clear hb
  go_wp2_with (first
   | (refine sGJ19 (sN x1 x2 x3) BR.o ?_;intro w7 BR7 g7))
  refine rG BR7 ?_;exact ⟨by rw [R.o];rfl,(FR.o.away g7 oM).out⟩
end Go.Proofs.YtmihnoagagbgaaaGreat
