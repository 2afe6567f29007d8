/-
  Tensors that may be (layer 5).
  tensor (layer 5): what a right tensor is.
  Three weights moved over a row (layer 15): the walks of wheel.Blocks, wheel.at.
  Three weights moved over rows (layer 15): the plain law: what the sums of rounds of four give back are the sums of the windows.
  An append to a slice of the call's own, as an operation by itself (in a region that draws its order).
  'append(l, r...)' and 'make([]T, 0, n)' as operations by themselves (in a region that draws its order).
  Three weights moved over rows (layer 15): rows of rows; wheel.alike where all rows are as long; wheel.Many where there are rows, at most 1024, as many as weights, all as long.
  The frame of a law's proof: from a walk that ends in true and leaves all old memory as it was to the given statement's inner claim; each argument opened to data.
  'T{x}' of one struct: a block of its cells (a law for the operation, so that the walk need not run it).
  A load of a part of a block, inside a region that draws its order and is walked once (quiet).
  A region that draws its order, in the body of a loop over a function: by the laws for such a region anywhere.
  copy into a slice of the call's own (numbers): what went over lies there.
  Lists alike, element by element.
  slices.Equal of []int8.
  slices.Equal of []int32.
  The elements of an []int.
  A node that lays all numbers in a row, as data.
-/
import Derived.Test.YtmihnoagagbgaaaGreatJ01
import Derived.Laws.CopyOwn
import Derived.Test.YtmihnoagagbgaaaGreatJ03
import Derived.RangeFuncCalls
set_option linter.unusedVariables false
set_option linter.unusedSimpArgs false
set_option maxRecDepth 100000
set_option maxHeartbeats 16000000
namespace Go.Proofs.YtmihnoagagbgaaaGreat
open Go.RowKit Go.ChangeShapes Go.WideShapes Tryz
set_option maxRecDepth 100000
set_option maxHeartbeats 16000000
theorem av (h v c:Int) (A:QA) (n cap:Nat) (w:World) (h0:InK .i64 h) (h1:InK .i64 v) (h2:InK .i64 c) (hn:n≤maxLen) :
  Calls prog 11 #[.agg (tN h v c A n cap)] w fun e w'=>e=.returned (.bool (decide (0 < ab h v c∧ab h v c=n)))∧Below w w w':=by
 have H0:=zH h0
 have H1:=zH h1
 have H2:=zH h2
 unfold maxLen at hn
 clear h0 h1 h2
 go_in
 go_wp2_with fail
 refine qM (bQ h c v _ H0.o H1.o H2.o) fun w' hb=>?_
 have hc:=eE hb (p:=⟨w.heap.size,3,none⟩) (v:=.slice A n cap) (by simp [go_sem]) sM
 generalize he:ab h v c=m at *
 have HE:=zH he
 clear he
 by_cases hm:0 < m
 ·go_wp2
  go_ret
  exact ⟨au (by rw [HE.o,Bool.eq_iff_iff];simp [hm]),((qB _ _).alloc (lR _) _).trans (hb.mono sM)⟩
 ·go_wp2
  go_ret
  exact ⟨au (by rw [HE.o,Bool.eq_iff_iff];simp;omega),((qB _ _).alloc (lR _) _).trans (hb.mono sM)⟩
theorem aF (h v c:Int) (A:QA) (n cap:Nat) (w:World) (h0:InK .i64 h) (h1:InK .i64 v) (h2:InK .i64 c) (hn:n≤maxLen) :
  Calls prog 15 #[.agg (tN h v c A n cap)] w fun e w'=>e=.returned (.bool (decide (0 < ab h v c∧ab h v c=n)))∧Below w w w':=by
 have H0:=zH h0
 have H1:=zH h1
 have H2:=zH h2
 unfold maxLen at hn
 clear h0 h1 h2
 go_in
 go_wp2_with fail
 have g1:Below w w (w.alloc (.cells (tN h v c A n cap) 27)):=by go_grown
 have bA:=Blk.now w w.heap.size 27 (tN h v c A n cap) rfl
 generalize w.alloc (.cells (tN h v c A n cap) 27)=w0 at *
 have BA:=zH bA
 have cA:∀ (x:Ext w0) (i:Nat),x.1.cell? ⟨w.heap.size,i,none⟩=((tN h v c A n cap):Array Value)[i]?:=fun x i=>(BA.o.ext x).cell i
 clear bA
 have e1:∀ x:Ext w0,Calls prog 25 #[.agg (sN h v c)] x.1 fun e w''=>e=.returned (.int .i64 (ab h v c))∧∃ y:Ext w0,w''=y.1 :=
  fun x=>aR x (aQ h c v _ H0.o H1.o H2.o)
 generalize hm:ab h v c=m at *
 have E1:=zH e1
 have HM:=zH hm
 clear hm e1
 by_cases hm:0 < m
 ·refine aB w0 kM kM (qB _ _) ?_
  repeat (go_big_quiet_step ((exact E1.o _)))
  refine wpQuiet_nil ?_
  rintro _ ⟨⟨w3,hb⟩,rfl⟩
  go_wp2
  go_ret
  exact ⟨au (by rw [HM.o,Bool.eq_iff_iff];simp [hm]),ai g1 hb g1.size⟩
 ·have hd:decide (0 < m)=false:=by simp;omega
  refine aB w0 kM kM (qB _ _) ?_
  repeat (go_big_quiet_step ((exact E1.o _)))
  refine wpQuiet_nil ?_
  rintro _ ⟨⟨w3,hb⟩,rfl⟩
  go_wp2
  go_ret
  exact ⟨au (by rw [HM.o,Bool.eq_iff_iff];simp;omega),ai g1 hb g1.size⟩
def ae.ok (t:ae):Bool:=decide (0 < ab t.h t.v t.c∧ab t.h t.v t.c=t.data.length)
theorem Sl.far {α:Type} {t:Ty α} {w:World} {S:Nat → Prop} {A:QA} {n cap:Nat} {l:List α} (h:Sl t w S A n cap l) (p:Addr) (u:Value) (hp:∀ b,S b → b ≠ p.block):Sl t (w.setCell p u) S A n cap l :=
 h.keep fun b hb=>Below.heap_setCell w p u b (hp b hb)
end Go.Proofs.YtmihnoagagbgaaaGreat
namespace Go.Proofs.YtmihnoagagbgaaaGreat
open Go.RowKit Go.ChangeShapes Go.WideShapes Fx Tryz
set_option maxRecDepth 100000
set_option maxHeartbeats 16000000
def es (n:Int):Int:=if n < 3 then 0 else (n - 1) / 2
theorem jN (n:Int) (w:World) (h0:0≤n) (h1:n≤140737488355328) :
  Calls prog 184 #[.int .i64 n] w fun e w'=>e=.returned (.int .i64 (es n))∧w'=w:=by
 by_cases c:n < 3
 ·have hv:es n=0:=if_pos c
  rw [hv]
  go_in
  go_wp2
  go_ret
  exact ⟨rfl,rfl⟩
 ·have hv:es n=(n - 2+1) / 2:=by unfold es;rw [if_neg c];omega
  rw [hv]
  go_in
  go_wp2
  go_ret
  exact ⟨rfl,rfl⟩
def at4 (l:List Int) (p:Nat):Nat → Int:=fun j=>l.getD (p+j) 0
theorem o8 (l:List Int) (p:Nat):splice [Value.int .i16 0,.int .i16 0,.int .i16 0,.int .i16 0] 0 (((l.drop p).take 4).map (Value.int .i16))=(i4 .i16 (at4 l p)).toList:=by
 have h:∀ j,at4 l p j=(l.drop p).getD j 0:=fun j=>by simp [at4,gD,List.getElem?_drop]
 unfold i4
 rw [h,h,h,h]
 generalize l.drop p=m
 match m with
 | []=>rfl
 | [a]=>rfl
 | [a,b]=>rfl
 | [a,b,c]=>rfl
 | a :: b :: c :: d :: r=>simp [splice]
theorem uB (A:QA) (n cap:Nat) (l:List Int) (p:Nat) (w:World) (hl:Sl (aa .i16) w (blo w) A n cap l) (hp:p < n) :
  Calls prog 188 #[.slice A n cap,.int .i64 p] w fun e w'=>e=.returned (.agg (i4 .i16 (at4 l p)))∧Below w w w':=by
 obtain ⟨b,off,rfl,hb1,hb2,-,-⟩:=hl.int_at p hp
 have hcap:=hl.cap_le
 have hmax:=hl.max_le
 have hmx:maxLen≤9223372036854775807:=by decide
 have FR:=zW w
 have L:=zH (Old.now hl)
 obtain ⟨w1,w2,yw1,yw2,l1,_,BO,BC,yk2⟩:=bk2 w #[.int .i16 0,.int .i16 0,.int .i16 0,.int .i16 0] 244 #[.int .i16 0,.int .i16 0,.int .i16 0,.int .i16 0] 244
 obtain ⟨FR,L⟩:=uz2 yk2 FR L
 clear yk2
 clear hl
 have p1:(p:Int)≤n:=oM
 have p2:(n:Int)≤cap:=oM
 have p3:(cap:Int)≤9223372036854775807:=oM
 go_in
 go_wp2_with fail
 clear yw1 yw2
 obtain ⟨cs,hcs⟩:∃ cs,((l.drop p).take 4).map (Value.int .i16)=cs:=⟨_,rfl⟩
 have hll:=L.o.out.n_eq
 have hlen:cs.length=Nat.min (n - p) 4:=by rw [← hcs,List.length_map,List.length_take,List.length_drop,hll];exact Nat.min_comm _ _
 have hlen4:cs.length≤4:=by rw [hlen];exact Nat.min_le_right _ _
 have SRC:=zH (show ∀ j v,cs[j]?=some v → w2.drew.cell? ((⟨b,off+p,none⟩:Addr).add j)=some v from by
  intro j v hv
  have hj:j < cs.length:=(List.getElem?_eq_some_iff.1 hv).1
  have hj2:p+j < n:=by rw [hlen] at hj;have:=Nat.min_le_left (n - p) 4;have:j < n - p:=Nat.lt_of_lt_of_le hj this;omega
  obtain ⟨b',off',e',-,-,hc,-⟩:=L.o.draw.out.int_at (p+j) hj2
  simp only [Option.some.injEq,Addr.mk.injEq,and_true] at e'
  obtain ⟨rfl,rfl⟩:=e'
  have ea:(⟨b,off+p,none⟩:Addr).add j=⟨b,off+(p+j),none⟩:=by unfold Addr.add;split <;> simp_all <;> omega
  rw [ea,hc]
  rw [← hcs,List.getElem?_map,List.getElem?_take] at hv
  split at hv
  ·rw [List.getElem?_drop] at hv
   cases hq:l[p+j]? with
   | none=>rw [hq] at hv;cases hv
   | some x=>rw [hq] at hv;rw [gD,hq];exact hv
  ·cases hv)
 refine wp_region_held_drew (S:=fun w'=>True) kM ?_ (fun hS=>?_)
 ·exact trivial
 refine kH' 0 hS ?_
 refine kH' 1 hS ?_
 refine kH' 2 hS ?_
 refine kH' 3 hS ?_
 refine rH 4 rfl (fun K hK=>?_)
 refine step_copy_splice rfl (.tmp 6) (.tmp 9) 195 195 rfl 224 (by rw [underlying195]) kM (some ⟨w1.heap.size,0,none⟩) (some ⟨b,off+p,none⟩) 4 4 (n - p) (cap - p) rfl (by show Value.slice (if cap=p then _ else _) (n - p) (cap - p)=_;rw [if_neg oM]) w1.heap.size 0 [.int .i16 0,.int .i16 0,.int .i16 0,.int .i16 0] 244 BC.o.draw.heap cs hlen (fun _=>⟨rfl,_,rfl,SRC.o⟩) (by simp;omega) (by intro v hv;rw [← hcs,List.mem_map] at hv;obtain ⟨x,-,rfl⟩:=hv;rfl) w1.heap.size w2.drew (qB _ _) (lR _) ?_;intro w5 HG hb5;refine hK.out _ _ trivial (fun hS=>?_)
 clear hK K
 try simp only [pX]
 refine wpAnyH_done kM ?_ _
 have B5:Blk w5 w1.heap.size 244 (i4 .i16 (at4 l p)):=⟨by have h:=HG.o;rw [← hcs,o8] at h;simpa using h⟩
 have BO5:=BO.o.draw.below hb5 l1
 have F5:Below w w w5:=FR.o.draw.out.trans (hb5.mono oM)
 clear hS HG hb5 BC BO FR L SRC hcs hlen hlen4
 go_wp2_with (first|(refine wpList_load_blk rfl 244 (.tmp 5) rfl w1.heap.size 0 rfl _ (i4 .i16 (at4 l p)) (i4 .i16 (at4 l p)) _ B5 underlying244 rfl (by show _=some 4;kernel_rfl) rfl ?_)|(refine wpList_store_all rfl 244 (.tmp 4) (.tmp 11) rfl w.heap.size (i4 .i16 (at4 l p)) rfl rfl _ _ BO5 rfl (by show _=some 4;kernel_rfl) (qS _ _) ?_;intro w6 B6 g6))
 refine de rfl B6 rfl underlying244 (by show _=some 4;kernel_rfl) rfl ?_
 exact ⟨rfl,F5.grown g6 F5.size (fun j hj=>by have:=sI hj;omega)⟩
end Go.Proofs.YtmihnoagagbgaaaGreat
namespace Go.Proofs.YtmihnoagagbgaaaGreat
open Fx Tryz
set_option maxRecDepth 100000
set_option maxHeartbeats 16000000
abbrev W3:=Int × Int × Int
def t3 (v:W3):Nat → Int:=w3Z v.1 v.2.1 v.2.2
def eA (xs:List (List Int)) (ws:List W3) (p:Nat):Nat → Nat → Fx.Wd
 | 0=>fun _=>(0,0)
 | k+1=>plusW (eA xs ws p k) (timesW (ofW (at4 (xs.getD k []) p)) (ofW (t3 (ws.getD k (0,0,0)))))
def eB (xs:List (List Int)) (ws:List W3) (p:Nat):Nat → Nat → Int × Int
 | 0=>fun _=>(0,0)
 | k+1=>fun i=>cadd (eB xs ws p k i) (crossZ (at4 (xs.getD k []) p) (t3 (ws.getD k (0,0,0))) i)
def dh (xs:List (List Int)) (ws:List W3) (p:Nat):Nat → Int
 | 0=>0
 | k+1=>dh xs ws p k+((xs.getD k []).getD p 0*(ws.getD k (0,0,0)).1+(xs.getD k []).getD (p+1) 0*(ws.getD k (0,0,0)).2.1+(xs.getD k []).getD (p+2) 0*(ws.getD k (0,0,0)).2.2)
def In3 (v:W3):Prop:=InK .i8 v.1∧InK .i8 v.2.1∧InK .i8 v.2.2
structure dY (xs:List (List Int)) (ws:List W3):Prop where
 row:∀ k i,InK .i16 ((xs.getD k []).getD i 0)
 tap:∀ k,In3 (ws.getD k (0,0,0))
theorem dY.at4 {xs:List (List Int)} {ws:List W3} (h:dY xs ws) (k p:Nat):∀ i,i < 4 → (Go.Proofs.YtmihnoagagbgaaaGreat.at4 (xs.getD k []) p i).natAbs≤32768:=fun i _=>by
 have:=h.row k (p+i)
 rw [iF] at this
 unfold Go.Proofs.YtmihnoagagbgaaaGreat.at4
 omega
theorem dY.t3 {xs:List (List Int)} {ws:List W3} (h:dY xs ws) (k:Nat):∀ i,i < 4 → (Go.Proofs.YtmihnoagagbgaaaGreat.t3 (ws.getD k (0,0,0)) i).natAbs≤128:=fun i _=>by
 obtain ⟨h1,h2,h3⟩:=h.tap k
 rw [aT] at h1 h2 h3
 unfold Go.Proofs.YtmihnoagagbgaaaGreat.t3 w3Z
 split <;> omega
theorem iZ {xs:List (List Int)} {ws:List W3} (h:dY xs ws) (p k i:Nat) :
  cMulBits (ofW (at4 (xs.getD k []) p) i).1 (ofW (at4 (xs.getD k []) p) i).2 (ofW (t3 (ws.getD k (0,0,0))) i).1 (ofW (t3 (ws.getD k (0,0,0))) i).2
   = some ((timesW (ofW (at4 (xs.getD k []) p)) (ofW (t3 (ws.getD k (0,0,0)))) i).1,(timesW (ofW (at4 (xs.getD k []) p)) (ofW (t3 (ws.getD k (0,0,0)))) i).2)
  ∧ Cd (timesW (ofW (at4 (xs.getD k []) p)) (ofW (t3 (ws.getD k (0,0,0)))) i) (crossZ (at4 (xs.getD k []) p) (t3 (ws.getD k (0,0,0))) i)
  ∧ Cb (crossZ (at4 (xs.getD k []) p) (t3 (ws.getD k (0,0,0))) i) 134217728:=by
 obtain ⟨a1,a2⟩:=of_ok (h.at4 k p) dM i
 obtain ⟨b1,b2⟩:=of_ok (h.t3 k) dM i
 obtain ⟨c1,c2⟩:=mulW_ok a1 b1 a2 b2 dM
 exact ⟨c1,c2,(a2.cmul b2).le dM⟩
theorem lD {xs:List (List Int)} {ws:List W3} (h:dY xs ws) (p:Nat):∀ k,k≤1024 → ∀ i,Cd (eA xs ws p k i) (eB xs ws p k i)∧Cb (eB xs ws p k i) (k*134217728)
 | 0,_,i=>⟨cd_zero,by simp [eB],by simp [eB]⟩
 | k+1,hk,i=>by
  obtain ⟨h1,h2⟩:=lD h p k oM i
  obtain ⟨-,h3,h4⟩:=iZ h p k i
  have h5:=h2.cadd h4
  refine ⟨(addW_ok h1 h3 (h5.le oM)).2,?_⟩
  exact h5.le oM
theorem ta {xs:List (List Int)} {ws:List W3} (h:dY xs ws) (p k:Nat) (hk:k < 1024) (i:Nat) :
  cSumBits .add .f64 (eA xs ws p k i).1 (eA xs ws p k i).2 (timesW (ofW (at4 (xs.getD k []) p)) (ofW (t3 (ws.getD k (0,0,0)))) i).1 (timesW (ofW (at4 (xs.getD k []) p)) (ofW (t3 (ws.getD k (0,0,0)))) i).2
   = some ((plusW (eA xs ws p k) (timesW (ofW (at4 (xs.getD k []) p)) (ofW (t3 (ws.getD k (0,0,0))))) i).1,(plusW (eA xs ws p k) (timesW (ofW (at4 (xs.getD k []) p)) (ofW (t3 (ws.getD k (0,0,0))))) i).2):=by
 obtain ⟨h1,h2⟩:=lD h p k oM i
 obtain ⟨-,h3,h4⟩:=iZ h p k i
 exact (addW_ok h1 h3 ((h2.cadd h4).le oM)).1
theorem rX (a b q:Int × Int):cmul (cadd a b) q=cadd (cmul a q) (cmul b q):=by
 unfold cmul cadd
 simp only [Prod.mk.injEq]
 constructor <;> grind
theorem kI (q a b:Int × Int):∀ n,turnZ q (cadd a b) n=cadd (turnZ q a n) (turnZ q b n)
 | 0=>rfl
 | n+1=>by
  show cmul (turnZ q (cadd a b) n) q=_
  rw [kI q a b n,rX]
  rfl
theorem pc (a b c d:Int × Int):cadd (cadd a b) (cadd c d)=cadd (cadd a c) (cadd b d):=by
 unfold cadd
 simp only [Prod.mk.injEq]
 constructor <;> omega
theorem jc (q:Int × Int) (f g:Nat → Int × Int) (k:Nat):∀ j,sumZ q (fun i=>cadd (f i) (g i)) k j=cadd (sumZ q f k j) (sumZ q g k j)
 | 0=>rfl
 | j+1=>by
  show cadd (sumZ q (fun i=>cadd (f i) (g i)) k j) (turnZ q (cadd (f j) (g j)) ((j*k) % 4))=_
  rw [jc q f g k j,kI,pc]
  rfl
theorem kE (q:Int × Int) (k:Nat) (h:Quarter q):sumsZ q (fun _=>(0,0)) k=(0,0):=by
 have ht:∀ n,turnZ q (0,0) n=(0,0):=by
  intro n
  induction n with
  | zero=>rfl
  | succ n ih=>show cmul (turnZ q (0,0) n) q=_;rw [ih];unfold cmul;simp
 have hs:∀ j,sumZ q (fun _=>(0,0)) k j=(0,0):=by
  intro j
  induction j with
  | zero=>rfl
  | succ j ih=>show cadd (sumZ q (fun _=>(0,0)) k j) (turnZ q (0,0) _)=_;rw [ih,ht];rfl
 exact hs 4
theorem lH (xs:List (List Int)) (ws:List W3) (p:Nat):∀ k,(sumsZ (0,1) (eB xs ws p k) 2).1=4*dh xs ws p k∧(sumsZ (0,1) (eB xs ws p k) 3).1=4*dh xs ws (p+1) k
 | 0=>by
  have h2:=kE (0,1) 2 (.inl rfl)
  have h3:=kE (0,1) 3 (.inl rfl)
  constructor
  ·show (sumsZ (0,1) (fun _=>(0,0)) 2).1=_;rw [h2];rfl
  ·show (sumsZ (0,1) (fun _=>(0,0)) 3).1=_;rw [h3];rfl
 | k+1=>by
  obtain ⟨h1,h2⟩:=lH xs ws p k
  obtain ⟨h3,h4⟩:=back_cross (at4 (xs.getD k []) p) (t3 (ws.getD k (0,0,0)))
  constructor
  ·show (sumZ (0,1) (fun i=>cadd (eB xs ws p k i) (crossZ (at4 (xs.getD k []) p) (t3 (ws.getD k (0,0,0))) i)) 2 4).1=_
   rw [jc]
   show (sumsZ (0,1) (eB xs ws p k) 2).1+(sumsZ (0,1) (crossZ (at4 (xs.getD k []) p) (t3 (ws.getD k (0,0,0)))) 2).1=_
   rw [h1,h3]
   simp only [dh,at4,t3,w3Z,Nat.add_zero]
   omega
  ·show (sumZ (0,1) (fun i=>cadd (eB xs ws p k i) (crossZ (at4 (xs.getD k []) p) (t3 (ws.getD k (0,0,0))) i)) 3 4).1=_
   rw [jc]
   show (sumsZ (0,1) (eB xs ws p k) 3).1+(sumsZ (0,1) (crossZ (at4 (xs.getD k []) p) (t3 (ws.getD k (0,0,0)))) 3).1=_
   rw [h2,h4]
   simp only [dh,at4,t3,w3Z,Nat.add_assoc,Nat.reduceAdd]
   omega
theorem uv (xs:List (List Int)) (ws:List W3) (p k:Nat):bU (eB xs ws p k) 2=dh xs ws p k∧bU (eB xs ws p k) 3=dh xs ws (p+1) k:=by
 obtain ⟨h1,h2⟩:=lH xs ws p k
 unfold bU
 rw [h1,h2]
 exact ⟨Int.mul_tdiv_cancel_left _ dM,Int.mul_tdiv_cancel_left _ dM⟩
end Go.Proofs.YtmihnoagagbgaaaGreat
namespace Go.Proofs.YtmihnoagagbgaaaGreat
open Go.RowKit Go.ChangeShapes Go.WideShapes Tryz
set_option maxRecDepth 100000
set_option maxHeartbeats 16000000
theorem bF {w w':World} {p:Addr} {v:Value} {row:Option Nat} (g:w.grownBy w' row) (h:w.cell? p=some v) (hne:some p.block ≠ row):w'.cell? p=some v:=by
 have hlt:=World.block_lt_of_cell? w p h
 unfold World.cell? at *
 rw [g.block p.block hlt hne]
 exact h
section
variable {α:Type} {t:Ty α} {w w':World} {S S':Nat → Prop} {l:List α} {base n:Nat} {E:TypeId} {v:Value}
variable {P:Program} {ops:Array Oper} {rest:List Oper} {o:Oper} {a:Act} {Q:Go.Exit → Act → World → Prop} {T:TypeId} {z:Value} {bytes:Nat}
theorem cU {K:Act → World → Prop} {W:World} {cs:Array Value} (s x:Operand) (ho:o.op=.call { callee:=.builtin .append,args:=#[s,x],argTypes:=#[T,T] }) (ei:EI P T E z t.size bytes)
  (hs:a.eval s=v) (own:Own t W S base E v n l) (c:Nat) (hx:a.eval x=.slice (some ⟨W.heap.size,0,none⟩) 1 c) (y:α) (hr:t.rep W S cs.toList y)
  (h63:n+1≤maxLen) (hbytes:(n+1)*bytes≤140737488355328) (hbase:base≤W.heap.size) (hin:∀ b,S b → b < W.heap.size∧some b ≠ v.ownBlock)
  (h:∀ v' w',Own t w' S base E v' (n+1) (l ++ [y]) → W.grownBy w' v.ownBlock → (v'.ownBlock=v.ownBlock ∨ v'.ownBlock=some (W.heap.size+1)) → K (a.put o.dst v') w') :
  Oper.wp P o a (W.alloc (.cells cs E)) K Q:=by
 obtain ⟨i,hi,hz0,hz1,hz2⟩:=info_parts ei.hi
 obtain ⟨vs,h1,h2⟩:=own.out
 have hnews:∀ j u,cs.toList[j]?=some u → (W.alloc (.cells cs E)).cell? ((⟨W.heap.size,0,none⟩:Addr).add j)=some u:=by
  intro j u hu
  have hadd:(⟨W.heap.size,0,none⟩:Addr).add j=⟨W.heap.size,j,none⟩:=by unfold Addr.add;split <;> simp_all
  rw [hadd,cell_of_row (W.alloc (.cells cs E)) W.heap.size j cs E (0,0) (heap_alloc_new W _)]
  simpa using hu
 obtain ⟨v',w',hrun,k1,k2,_,k3⟩:=run_append_own_at (P:=P) (W.alloc (.cells cs E)) base T o.type E i z t.size bytes ei.ht hi hz0 hz1 hz2 ei.hz ei.hp v n vs (h1.alloc _) ⟨W.heap.size,0,none⟩ 1 c cs.toList
  (by rw [t.len hr,Nat.one_mul]) hnews (t.one hr) h63 hbytes (by simp;omega)
 have hg:W.grownBy w' v.ownBlock:=⟨k2.os,k2.tape,k2.output,lT sM k2.size,fun k hk hne=>(k2.block k (by simp;omega) hne).trans (Below.heap_alloc W _ k hk)⟩
 unfold Oper.wp execOp
 simp only [ho,resolve,invoke,builtin,Sem.run_bind,Sem.run_pure,Result.andThen_ok,List.map_toArray,List.map_cons,List.map_nil,hs,hx,hrun]
 refine (h v' w' ⟨vs ++ cs.toList,k1,?_⟩ hg (by simpa using k3))
 refine (h2.keep fun b hb=>hg.block b (hin b hb).1 (hin b hb).2).snoc (t.keep hr fun b hb=>hg.block b (hin b hb).1 (hin b hb).2)
end
section
variable {P:Program} {o:Oper} {a:Act} {Q:Go.Exit → Act → World → Prop} {T E:TypeId} {z:Value} {bytes base n m c:Nat} {v:Value} {k:IntKind} {l l2:List Int} {S:Nat → Prop}
theorem pG {α:Type} {t:Ty α} {K:Act → World → Prop} {W:World} (lo co:Operand) (ho:o.op=Op.makeSlice T lo co) (ei:EI P T E z t.size bytes) (kl kc:IntKind) (hl:a.eval lo=.int kl 0) (hc:a.eval co=.int kc (c:Int))
  (b2:bytes*c≤281474976710656) (b3:c≤maxLen) (b4:base≤W.heap.size)
  (h:∀ w',Own t w' (fun _=>False) base E (.slice (some ⟨W.heap.size,0,none⟩) 0 c) 0 ([]:List α) → W.grownBy w' none → K (a.put o.dst (.slice (some ⟨W.heap.size,0,none⟩) 0 c)) w') :
  Oper.wp P o a W K Q:=by
 obtain ⟨i,hi,hz0,hz1,hz2⟩:=info_parts ei.hi
 obtain ⟨w',hrun,h1,hg⟩:=run_make_own (P:=P) W base T E i z t.size ei.ht hi hz0 hz1 kl kc c (by rw [hz2];exact b2) b3 b4
 unfold Oper.wp execOp
 simp only [ho,hl,hc,Sem.run_bind,hrun,Sem.run_pure,Result.andThen_ok]
 exact h w' ⟨[],h1,rfl⟩ hg
end
end Go.Proofs.YtmihnoagagbgaaaGreat
namespace Go.Proofs.YtmihnoagagbgaaaGreat
open Go.RowKit Go.ChangeShapes Go.WideShapes Fx Tryz
set_option maxRecDepth 100000
set_option maxHeartbeats 16000000
theorem Sl.row_at {α:Type} {t:Ty α} {w:World} {S:Nat → Prop} {X:QA} {n cap:Nat} {xs:List (List α)} (h:Sl (tSlice t) w S X n cap xs) (i:Nat) (hi:i < n) :
  ∃ b off A c,X=some ⟨b,off,none⟩∧S b∧w.cell? ⟨b,off+i,none⟩=some (.slice A (xs.getD i []).length c)∧Sl t w S A (xs.getD i []).length c (xs.getD i []):=by
 obtain ⟨x,b,off,v,hx,hA,hS,hb,hr,hc⟩:=h.cell1 rfl i hi
 obtain ⟨A,c,hv,hs⟩:=eS.1 hr
 simp only [List.cons.injEq,and_true] at hv
 subst hv
 have:xs.getD i []=x:=by rw [gD,hx];rfl
 rw [this]
 exact ⟨b,off,A,c,hA,hS,hc,hs⟩
theorem qw (X:QA) (n cap m:Nat) (xs:List (List Int)) (w:World) (h:Sl (tSlice (aa .i16)) w (blo w) X n cap xs) (hn:1≤n) (hm:∀ i,i < n → (xs.getD i []).length=m) :
  Calls prog 182 #[.slice X n cap] w fun e w'=>e=.returned (.bool true)∧w'=w:=by
 obtain ⟨b,off,A0,q0,rfl,-,hc0,hs0⟩:=h.row_at 0 oM
 rw [hm 0 oM] at hc0 hs0
 rw [Nat.add_zero] at hc0
 have hcap:=h.cap_le
 have hmax:=h.max_le
 have hmx:maxLen≤9223372036854775807:=by decide
 have hm2:=hs0.cap_le
 have hm3:=hs0.max_le
 have H:=zH h
 have HM:=zH hm
 clear h hm
 go_in
 go_wp2
 go_loopw [7] (fun i wr=>∃ k:Nat,k≤n∧i=.int .i64 k∧wr=w) (fun i _=>n - (intOf i).toNat)
 case atStart=>exact ⟨0,zl _,rfl,rfl⟩
 case round =>
  obtain ⟨k,hk,rfl,rfl⟩:=hrel
  by_cases hlt:k < n
  ·have p1:(k:Int) < (n:Int):=oM
   obtain ⟨b',off',A',c',e',-,hc,-⟩:=H.o.row_at k hlt
   simp only [Option.some.injEq,Addr.mk.injEq,and_true] at e'
   obtain ⟨rfl,rfl⟩:=e'
   rw [HM.o k hlt] at hc
   go_wp2
   exact ⟨⟨k+1,by omega,by go_num,by trivial⟩,by simp [intOf];omega⟩
  ·obtain rfl:k=n:=oM
   go_wp2
   go_ret
   exact ⟨rfl,by trivial⟩
end Go.Proofs.YtmihnoagagbgaaaGreat
namespace Go.Proofs.YtmihnoagagbgaaaGreat
open Go.RowKit Go.ChangeShapes Go.WideShapes Go.Deep Go.ChangeAt Tryz
set_option maxRecDepth 100000
set_option maxHeartbeats 16000000
section
variable {H:Type} {enc:TypeId × Value → H} {P:Program}
theorem gZ (hl:laidOutB P=true) {W W':World} (hb:Below W.heap.size W W'):∀ {ts:List TypeId} {vs:List Value} {ds:List (DataW H)} {p:List MemPlace},
  (ts.all fun t=>P.readableRec t && decide (t < P.types.size))=true → DataW.TrodAll enc P W 0 (fun _=>true) true ts vs ds p → (∀ x ∈ p,x.block < W.heap.size) →
  DataW.TrodAll enc P W' 0 (fun b=>decide (b < W.heap.size)) true ts vs ds p
 | [],vs,ds,p,_,h,_=>by obtain ⟨rfl,rfl,rfl⟩:=trodAll_nil h;exact trodAll_mk0
 | t :: ts,vs,ds,p,ht,h,hlt=>by
  obtain ⟨v,vs',d,ds',p1,q1,rfl,rfl,rfl,h1,h2⟩:=trodAll_cons h
  simp only [List.all_cons,Bool.and_eq_true,decide_eq_true_eq] at ht
  exact ⟨p1,q1,Below.trod hl ht.1.1 ht.1.2 h1 hb (fun x hx=>hlt x (by simp [hx])),gZ hl hb (by simpa using ht.2) h2 (fun x hx=>hlt x (by simp [hx])),rfl⟩
theorem gH:∀ {w:World} {base:Nat} {spare:Nat → Bool} {held:Bool} {ts:List TypeId} {vs:List Value} {ds:List (DataW H)} {p:List MemPlace},DataW.TrodAll enc P w base spare held ts vs ds p → vs.length=ts.length∧ds.length=ts.length
 | _,_,_,_,[],_,_,_,h=>by obtain ⟨rfl,rfl,rfl⟩:=trodAll_nil h;exact ⟨rfl,rfl⟩
 | _,_,_,_,_ :: _,_,_,_,h=>by
  obtain ⟨v,vs',d,ds',p1,q1,rfl,rfl,rfl,h1,h2⟩:=trodAll_cons h
  obtain ⟨a,b⟩:=gH h2
  simp [a,b]
theorem sp {C:Checked} {os:Os} {f:FuncId} {fn:Func} {s:ChangeSpec} {T:TypeId}
  (own:ownKnob C.prog.godebug=none) (started:os.Started) (noInit:C.prog.inits.idxOf? f=none) (hfn:C.prog.funcs[f]?=some fn)
  (witness:∃ (w:World) (tape:Tape) (i:Input),w.os=os∧(w.forCall tape i).Shaped C.prog∧i.vars=[]∧Input.okWide C.prog (w.forCall tape i) .any w.heap.size f i ∧
   s.pre6 enc C.prog fn [] false (w.forCall tape i).memory i.args∧({}:Assume).holds C.prog (lone (Frame.enter C.prog f i.args .normal) [] (w.forCall tape i)))
  (hl:laidOutB C.prog=true) (hpar:(fn.params.toList.all fun t=>C.prog.readableRec t && decide (t < C.prog.types.size))=true)
  (hres:fn.resultTypes=#[T]) (hT:C.prog.underlying T=some .bool) (hv:s.vars=[])
  (hs:∀ (ds:List (DataW H)),ds.length=fn.params.size → (s.fn H ds).results=[.lit (.bool true)]∧(s.fn H ds).args=ds∧(s.fn H ds).vars=[])
  (walk:∀ (W:World) (base:Nat) (args:Array Value) (ds:List (DataW H)) (p:List MemPlace),
   (∀ (j:Nat) t v,fn.params[j]?=some t → args[j]?=some v → Value.okWide C.prog W .any base t v) →
   DataW.TrodAll enc C.prog W 0 (fun _=>true) true fn.params.toList args.toList ds p →
   Calls C.prog f args W fun e W'=>e=.returned (.bool true)∧Below W.heap.size W W') :
  ReturnsInHanded {} C os f .any (s.pre6 enc C.prog fn [] false) (s.post enc C.prog fn false true false false):=by
 refine returnsInHanded_of_change own started noInit hfn witness ?_
 intro W base args ds gs before hval hW _ _
 have hW':=hW
 obtain ⟨p,q,hA,hV,rfl,hfz,hnd⟩:=hW
 rw [hv] at hV
 obtain ⟨rfl,rfl⟩:=trodVars_none hV
 refine (walk W base args ds p hval hA).mono fun e W' ⟨he,hb⟩=>⟨_,he,?_⟩
 obtain ⟨e1,e2,e3⟩:=hs ds (by have:=(gH hA).2;simpa using this)
 have hlt:∀ x ∈ p,x.block < W.heap.size:=fun x hx=>hW'.lt x (by simp [hx])
 refine ⟨ds,[],p ++ [],[],p,[],hW',?_,?_,?_,hb.frame _,fun h=>by cases h⟩
 ·rw [hres,List.append_nil,e1]
  exact trodAll_mk1 (shut_bool hT true)
 ·rw [List.append_nil,e2]
  exact gZ hl hb hpar hA hlt
 ·rw [List.append_nil,e3,hv]
  exact rfl
variable {w:World} {spare:Nat → Bool} {held:Bool} {base:Nat}
theorem qA {α:Type} {T E:TypeId} {t:Ty α} {r:Reach} {b0:Nat} {v:Value} {d:DataW H} {p:List MemPlace} (hT:P.underlying T=some (.slice E)) (ho:Opens P T (tSlice t)) (hv:Value.okWide P w r b0 T v) (h:DataW.Trod enc P w base spare held T v d p) :
  ∃ A n cap l,v=.slice A n cap∧Sl t w (blo w) A n cap l:=by
 obtain ⟨A,n,cap,rfl⟩:=okWide_slice hT hv
 obtain ⟨l,hl⟩:=ho.trod h
 exact ⟨A,n,cap,l,rfl,Sl.of_rep hl⟩
theorem o6 {α:Type} {T:TypeId} {fs:Array Field} {t:Ty α} {r:Reach} {b0:Nat} {v:Value} {d:DataW H} {p:List MemPlace} (hT:P.underlying T=some (.struct fs)) (ho:Opens P T t) (hv:Value.okWide P w r b0 T v) (h:DataW.Trod enc P w base spare held T v d p) :
  ∃ cs y,v=.agg cs∧t.rep w (blo w) cs.toList y:=by
 obtain ⟨cs,rfl,_⟩:=okWide_struct hT hv
 obtain ⟨y,hy⟩:=ho.trod h
 exact ⟨cs,y,rfl,hy⟩
end
end Go.Proofs.YtmihnoagagbgaaaGreat
namespace Go.Proofs.YtmihnoagagbgaaaGreat
open Go Go.RowKit Tryz
set_option maxRecDepth 100000
set_option maxHeartbeats 16000000
theorem jo (off:Nat):∀ (l:List Value) (k:Nat) (cs:Array Value),(l.zipIdx k).foldl (fun cs (x:Value × Nat)=>cs.setIfInBounds (off+x.2) x.1) cs=gP cs (off+k) l
 | [],_,_=>rfl
 | v :: r,k,cs=>by
  rw [List.zipIdx_cons,List.foldl_cons,jo off r (k+1)]
  rfl
theorem r7 (cells vs:Array Value) (size:Nat) (h1:vs.size=size) (h2:cells.size=size):Instr.fill (fun i=>some (i*size,size)) cells [(0,.agg vs)]=some vs:=by
 have hv:(Value.agg vs).cells=vs:=rfl
 unfold Instr.fill
 simp only [hv,Nat.zero_mul,Nat.zero_add]
 rw [if_neg (by simp;omega)]
 unfold Instr.fill
 have:=jo 0 vs.toList 0 cells
 simp only [Nat.zero_add] at this
 rw [← Array.foldl_toList,Array.toList_zipIdx,this]
 congr 1
 exact pQ oM
theorem mP {P:Program} {T E:TypeId} {z:Value} {size bytes:Nat} (w:World) (ei:EI P T E z size bytes) (vs:Array Value) (hvs:vs.size=size) (hsm:size≤16777216) :
  (Instr.buildSlice T 1 #[(0,.agg vs)]).run P w=.ok (.slice (some ⟨w.heap.size,0,none⟩) 1 1) (w.alloc (.cells vs E)):=by
 obtain ⟨i,hi,hz0,hz1,hz2⟩:=info_parts ei.hi
 have hp:=ei.hp
 have hsz:(sizeOf E).run P w=.ok size w:=by simp [sizeOf,typeInfo,hi,hz1]
 have hzv:(zeroValue E).run P w=.ok z w:=by simp [zeroValue,typeInfo,hi,hz0]
 have hf:=r7 ((Array.range (1*size)).map (z.cells[· % z.cells.size]!)) vs size hvs sM
 have hnot:¬ (1*size > 2 ^ 24):=oM
 have hnz:¬ (1*size=0):=oM
 unfold Instr.buildSlice
 simp only [Sem.run_bind,run_underlying ei.ht w,Result.andThen_ok,hsz,if_neg hnot,if_neg hnz,hzv,Sem.run_pure,hf,newRow,newObj]
 rfl
section
variable {P:Program} {ops:Array Oper} {rest:List Oper} {o:Oper} {a:Act} {w:World} {Q:Exit → Act → World → Prop} {T E:TypeId} {z:Value} {size bytes:Nat}
theorem di (hgd:o.guard=none) (x:Operand) (ho:o.op=.buildSlice T 1 #[(0,x)]) (ei:EI P T E z size bytes) (vs:Array Value) (hx:a.eval x=.agg vs) (hvs:vs.size=size) (hsm:size≤16777216)
  (h:wpList P ops Q rest (a.put o.dst (.slice (some ⟨w.heap.size,0,none⟩) 1 1)) (w.alloc (.cells vs E))):wpList P ops Q (o :: rest) a w:=by
 refine wpList_plain hgd fun K hK=>?_
 unfold Oper.wp execOp
 simp only [ho,List.map_toArray,List.map_cons,List.map_nil,hx,Sem.run_bind,mP w ei vs hvs hsm,Sem.run_pure,Result.andThen_ok]
 exact hK _ _ h
end
theorem kr {w:World} {g off:Nat} {e:TypeId} {cs:Array Value} {vs:List Value} (hb:Blk w g e cs) (hvs:(cs.toList.drop off).take vs.length=vs):w.rangeAt g off vs:=by
 intro j v hv
 rw [hb.cell]
 rw [← hvs,List.getElem?_take] at hv
 split at hv
 ·rw [List.getElem?_drop] at hv
  simpa using hv
 ·cases hv
theorem jg {P:Program} {ops:Array Oper} {C:World → Prop} {Q:Act → Prop} {a:Act} {o:Oper} {rest:List Oper} (hw:Region.wanted o (yielded ops a.tmps)=true) (ty:TypeId) (x:Operand) (ho:o.op=.load ty x)
  (b off:Nat) (hx:a.eval x=.pointer (some ⟨b,off,none⟩)) (cs:List Value) (d:TypeDesc) (hC:∀ w,C w → w.rangeAt b off cs)
  (hu:P.underlying ty=some d) (hd:d.isRow=true) (hi:(P.info? ty).map (·.size)=some cs.length) (h:wpQuiet P ops C Q rest (a.put o.dst (.agg cs.toArray))):wpQuiet P ops C Q (o :: rest) a :=
 BigFrame.wpQuiet_want hw fun K hK=>⟨.agg cs.toArray,fun w hw'=>by
  unfold Oper.quietAt execOp
  simp only [ho,hx,Instr.loadAt,Instr.sureAddr,Sem.run_bind,Sem.run_pure,Result.andThen_ok,run_loadVar_mid w b off ty cs d (hC w hw') hu hd hi]
  exact ⟨rfl,rfl⟩,hK _ h⟩
end Go.Proofs.YtmihnoagagbgaaaGreat
namespace Go.Proofs.YtmihnoagagbgaaaGreat
open Go Tryz
set_option maxRecDepth 100000
set_option maxHeartbeats 16000000
section
variable {P:Program} {ops:Array Oper} {Q:Exit → Act → World → Prop} {l n:Nat}
def uu (ops:Array Oper):Bool:=ops.all fun o=>match o.op with|.defer _=>false|_=>true
theorem qj (o:Oper) (a:Act) (K:Act → World → Prop) (r:Result Next) (h:o.upon P a K Q r) (K':Act → World → Prop) (hK:∀ a w,K a w → K' a w):o.uponIn (Fence.wide.inRound l) n P a K' Q r:=by
 cases r with
 | ok x w' =>
  cases x with
  | value v=>exact hK _ _ h
  | skip=>exact hK _ _ h
  | defer d=>exact hK _ _ h
  | enter f args =>
   refine ⟨(fun h=>by cases h),CallsIn.inRound l (callsIn_wide.2 (Calls.mono h ?_))⟩
   intro e w'' he
   cases e with
   | returned v=>exact hK _ _ he
   | panicked chain=>exact he
   | outgrown=>exact he
  | row row args =>
   refine ⟨(fun h=>by cases h),fun c cs _=>?_⟩
   obtain ⟨v,w'',hr,hs⟩:=h c cs
   exact ⟨v,w'',hK _ _ hr,stepsIn_wide.2 hs⟩
  | _=>exact h.elim
 | halt x w' =>
  cases x with
  | panic v=>exact h
  | _=>exact h.elim
theorem fl (hd:uu ops=true) (hq:¬ LetsOut Q):∀ (s:List Nat) (a:Act) (w:World),wpOps P ops Q s a w → wpOpsIn (Fence.wide.inRound l) n P ops Q s a w
 | [],_,_,h=>h
 | i :: rest,a,w,h=>by
  simp only [wpOps] at h
  simp only [wpOpsIn]
  cases ho:ops[i]? with
  | none=>rw [ho] at h;exact fl hd hq rest _ _ h
  | some o =>
   rw [ho] at h
   simp only at h ⊢
   by_cases hw:Region.wanted o (yielded ops a.tmps)=true
   ·rw [if_pos hw] at h ⊢
    rcases h with h|h
    ·refine ⟨fun _ _=>trivial,?_⟩
     have hnd:∀ c,o.op ≠ .defer c:=by
      intro c e
      have:=Array.all_eq_true_iff_forall_mem.1 hd o (Array.mem_of_getElem? ho)
      rw [e] at this
      cases this
     show o.uponIn _ n P a _ Q ((o.semAt (some l) a.eval).run P w)
     rw [Oper.semAt_eq _ _ _ hnd]
     exact qj o a _ _ h _ (fl hd hq rest)
    ·exact absurd h.2 hq
   ·rw [if_neg hw] at h ⊢
    exact ⟨fun _ _=>trivial,fl hd hq rest _ _ h⟩
theorem m7 {id:Nat} {a:Act} {w:World} (C:World → Prop) (k0:Nat) (hm:P.follows .mixedOrders=true) (hd:uu ops=true) (hq:¬ LetsOut Q) (hS:C w.drew)
  (h:C w.drew → aX P .any ops Q C k0 ops.size (Array.replicate ops.size false) a w.drew):(Code.region id ops true).wpIn (Fence.wide.inRound l) n P Q a w :=
 wpIn_region_draw fun t=>fl hd hq _ _ _ (by
  simp only [Region.schedule,hm,Bool.true_or,if_true]
  exact wpAny_sound ops.size t _ a _ (gW _ _ _ _ (h hS)))
end
section
variable {P:Program} {ops:Array Oper} {Q:Exit → Act → World → Prop} {o:Oper} {a:Act} {k:IntKind} {w:World} {base q N:Nat} {E:TypeId} {L:List Int}
theorem pH (own:Own (aa k) w (fun _=>False) base E (.slice (some ⟨q,0,none⟩) N N) N L) (off:Nat) (xs:List Int) (hx:∀ x ∈ xs,InK k x) (hfit:off+xs.length≤N) :
  ∃ cur:Array Value,w.heap[q]?=some (.cells cur E (0,0))∧cur.size=N∧∀ w',w'=w.setRow q (cur.toList.take off ++ (xs.map (Value.int k) ++ cur.toList.drop (off+xs.length))).toArray →
   Own (aa k) w' (fun _=>False) base E (.slice (some ⟨q,0,none⟩) N N) N (splice L off xs)∧w.grownBy w' (some q):=by
 obtain ⟨vs,⟨h1,h2⟩,h3⟩:=own.out
 obtain ⟨e1,e2⟩:=h3.ints_iff
 rcases h2 with ⟨e,-⟩|⟨g,cap,cur,e,hb,hg,hc,hm,hs,ht⟩
 ·cases e
 ·injection e with e e' e''
  injection e with e
  injection e with e
  subst e e''
  have sz:(aa k).size=1:=rfl
  rw [sz,Nat.mul_one] at hs ht h1
  have hcl:cur.toList=L.map (Value.int k):=by
   rw [← e1,← ht,List.take_of_length_le (by rw [Array.length_toList];omega)]
  refine ⟨cur,hg,hs,?_⟩
  rintro w' rfl
  have hl:(splice L off xs).length=N:=by
   have:L.length=N:=by rw [← h1,e1,List.length_map]
   rw [length_splice _ _ _ oM,this]
  have hrow:(cur.toList.take off ++ (xs.map (Value.int k) ++ cur.toList.drop (off+xs.length)))=(splice L off xs).map (Value.int k):=by
   rw [hcl];simp [splice]
  rw [hrow]
  refine ⟨⟨(splice L off xs).map (Value.int k),⟨by rw [List.length_map,hl,sz,Nat.mul_one],.inr ⟨q,N,((splice L off xs).map (Value.int k)).toArray,rfl,hb,setRow_heap w q _ _ E _ hg,lR _,hm,by simp [hl,sz],by rw [sz,Nat.mul_one,List.take_of_length_le (by simp [hl])]⟩⟩,RowsOf.ints ?_⟩,⟨rfl,rfl,rfl,by simp [World.setRow],fun j _ hj=>setRow_other w q j _ (fun e=>hj (by rw [e]))⟩⟩
  intro x hxm
  unfold splice at hxm
  rcases List.mem_append.1 hxm with h|h
  ·exact e2 x (List.mem_of_mem_take h)
  ·rcases List.mem_append.1 h with h|h
   ·exact hx x h
   ·exact e2 x (List.mem_of_mem_drop h)
theorem fD {K:Act → World → Prop} (d s:Operand) (dT sT:TypeId) (ho:o.op=.call { callee:=.builtin .copy,args:=#[d,s],argTypes:=#[dT,sT] }) (elem:TypeId) (hu:P.underlying dT=some (.slice elem)) (hsz:(P.info? elem).map (·.size)=some 1)
  (own:Own (aa k) w (fun _=>False) base E (.slice (some ⟨q,0,none⟩) N N) N L) (off dLen dCap:Nat) (hd:a.eval d=.slice (some ⟨q,off,none⟩) dLen dCap) (ad:Addr) (sLen sCap:Nat) (hs:a.eval s=.slice (some ad) sLen sCap)
  (xs:List Int) (hx:∀ x ∈ xs,InK k x) (hn:xs.length=Nat.min sLen dLen) (hsrc:∀ j,j < xs.length → w.cell? (ad.add j)=some (.int k (xs.getD j 0))) (hfit:off+xs.length≤N)
  (h:∀ w',Own (aa k) w' (fun _=>False) base E (.slice (some ⟨q,0,none⟩) N N) N (splice L off xs) → w.grownBy w' (some q) → K (a.put o.dst (goInt xs.length)) w'):Oper.wp P o a w K Q:=by
 obtain ⟨cur,hg,hc,hw⟩:=pH own off xs hx hfit
 have hrun:=run_copy_row (P:=P) w dT sT o.type elem q off dLen dCap ad sLen sCap cur E (xs.map (Value.int k)) hu hsz hg (by simpa using hn) (fun j v hv=>by
  rw [List.getElem?_map] at hv
  have hj:j < xs.length:=by
   cases e:xs[j]? with
   | none=>rw [e] at hv;cases hv
   | some y=>exact (List.getElem?_eq_some_iff.1 e).1
  rw [hsrc j hj,← hv,gD,List.getElem?_eq_getElem hj];rfl) (by simpa [hc] using hfit) (by intro v hv;obtain ⟨y,-,rfl⟩:=List.mem_map.1 hv;rfl)
 obtain ⟨h1,h2⟩:=hw _ rfl
 have:=h _ h1 h2
 unfold Oper.wp
 simp only [List.length_map] at hrun
 simp [execOp,ho,resolve,invoke,builtin,hd,hs,hrun,Result.andThen]
 exact this
theorem iC {rest:List Oper} (hgd:o.guard=none) (d s:Operand) (dT sT:TypeId) (ho:o.op=.call { callee:=.builtin .copy,args:=#[d,s],argTypes:=#[dT,sT] }) (elem:TypeId) (hu:P.underlying dT=some (.slice elem)) (hsz:(P.info? elem).map (·.size)=some 1)
  (own:Own (aa k) w (fun _=>False) base E (.slice (some ⟨q,0,none⟩) N N) N L) (off dLen dCap:Nat) (hd:a.eval d=.slice (some ⟨q,off,none⟩) dLen dCap) (ad:Addr) (sLen sCap:Nat) (hs:a.eval s=.slice (some ad) sLen sCap)
  (xs:List Int) (hx:∀ x ∈ xs,InK k x) (hn:xs.length=Nat.min sLen dLen) (hsrc:∀ j,j < xs.length → w.cell? (ad.add j)=some (.int k (xs.getD j 0))) (hfit:off+xs.length≤N)
  (h:∀ w',Own (aa k) w' (fun _=>False) base E (.slice (some ⟨q,0,none⟩) N N) N (splice L off xs) → w.grownBy w' (some q) → wpList P ops Q rest (a.put o.dst (goInt xs.length)) w'):wpList P ops Q (o :: rest) a w :=
 wpList_plain hgd fun K hK=>fD d s dT sT ho elem hu hsz own off dLen dCap hd ad sLen sCap hs xs hx hn hsrc hfit fun w' h1 h2=>hK _ _ (h w' h1 h2)
end
end Go.Proofs.YtmihnoagagbgaaaGreat
namespace Go.Proofs.YtmihnoagagbgaaaGreat
open Tryz
theorem hZ {l l':List Int} {n:Nat} (h1:l.length=n) (h2:l'.length=n) (h:∀ j,j < n → l.getD j 0=l'.getD j 0):l=l':=by
 apply List.ext_getElem oM
 intro j ha hb
 have:=h j oM
 rw [gD,gD,List.getElem?_eq_getElem ha,List.getElem?_eq_getElem hb] at this
 exact this
end Go.Proofs.YtmihnoagagbgaaaGreat
namespace Go.Proofs.YtmihnoagagbgaaaGreat
open Go.RowKit Go.ChangeShapes Go.WideShapes Tryz
set_option maxRecDepth 100000
set_option maxHeartbeats 16000000
theorem pj (A A':QA) (n cap n' cap':Nat) (l l':List Int) (w:World) (h:xA w A n cap l) (h':xA w A' n' cap' l') :
  Calls prog 114 #[.slice A n cap,.slice A' n' cap'] w fun e w'=>e=.returned (.bool (decide (l=l')))∧Below w w w':=by
 have hm:n≤9223372036854775807:=lT h.cap_le h.max_le
 have hm':n'≤9223372036854775807:=lT h'.cap_le h'.max_le
 have H:=zH h
 have H':=zH h'
 clear h h'
 by_cases hn:n=n'
 rotate_left
 ·have d1:((n:Int) != (n':Int))=true:=by rw [bne_iff_ne];omega
  have d2:decide (l=l')=false:=by rw [decide_eq_false_iff_not];rintro rfl;exact hn (H.o.n_eq.symm.trans H'.o.n_eq)
  rw [d2]
  clear hn
  go_in
  go_wp2
  go_ret
  exact ⟨rfl,qB _ _⟩
 subst hn
 have d1:((n:Int) != (n:Int))=false:=by simp
 go_in
 go_wp2
 go_loopw [13] (fun i wr=>∃ k:Nat,k≤n∧i=.int .i64 k∧wr.heap=w.heap∧Below w w wr∧∀ j,j < k → l.getD j 0=l'.getD j 0) (fun i _=>n - (intOf i).toNat)
 case atStart=>exact ⟨0,zl _,rfl,rfl,qB _ _,fun j hj=>absurd hj (Nat.not_lt_zero _)⟩
 case round =>
  obtain ⟨k,hk,rfl,hh,hb,hq⟩:=hrel
  have HQ:=zH hq
  clear hq
  by_cases hlt:k < n
  ·obtain ⟨b,off,rfl,_,_,c0,i0⟩:=(H.o.below hb (fun _ h=>h)).int_at k hlt
   obtain ⟨b',off',rfl,_,_,c1,i1⟩:=(H'.o.below hb (fun _ h=>h)).int_at k hlt
   have HH:=zH hh
   clear hh i0 i1
   by_cases he:l.getD k 0=l'.getD k 0
   ·rw [← he] at c1
    generalize hx:l.getD k 0=x at *
    have d3:(x != x)=false:=by simp
    have HX:=zH hx
    have HE:=zH he
    clear hx he
    go_wp2_with fail
    go_quiet (fail)
    go_wp2_with fail
    refine ⟨⟨k+1,by omega,by go_num,HH.o,am hb _,fun j hj=>?_⟩,by simp [intOf];omega⟩
    by_cases hjk:j < k
    ·exact HQ.o j hjk
    ·obtain rfl:j=k:=oM
     rw [HX.o,HE.o]
   ·have d2:decide (l=l')=false:=by rw [decide_eq_false_iff_not];rintro rfl;exact he rfl
    have d3:(l.getD k 0 != l'.getD k 0)=true:=by rw [bne_iff_ne];exact he
    generalize l.getD k 0=x at *
    generalize l'.getD k 0=y at *
    have D2:=zH d2
    clear d2 he
    go_wp2_with fail
    go_quiet (fail)
    go_wp2
    go_ret
    exact ⟨by rw [D2.o];rfl,am hb _⟩
  ·obtain rfl:k=n:=oM
   go_wp2
   go_ret
   exact ⟨by rw [qT (hZ H.o.n_eq H'.o.n_eq HQ.o)];rfl,hb⟩
theorem np (A A':QA) (n cap n' cap':Nat) (l l':List Int) (w:World) (h:xB w A n cap l) (h':xB w A' n' cap' l') :
  Calls prog 115 #[.slice A n cap,.slice A' n' cap'] w fun e w'=>e=.returned (.bool (decide (l=l')))∧Below w w w':=by
 have hm:n≤9223372036854775807:=lT h.cap_le h.max_le
 have hm':n'≤9223372036854775807:=lT h'.cap_le h'.max_le
 have H:=zH h
 have H':=zH h'
 clear h h'
 by_cases hn:n=n'
 rotate_left
 ·have d1:((n:Int) != (n':Int))=true:=by rw [bne_iff_ne];omega
  have d2:decide (l=l')=false:=by rw [decide_eq_false_iff_not];rintro rfl;exact hn (H.o.n_eq.symm.trans H'.o.n_eq)
  rw [d2]
  clear hn
  go_in
  go_wp2
  go_ret
  exact ⟨rfl,qB _ _⟩
 subst hn
 have d1:((n:Int) != (n:Int))=false:=by simp
 go_in
 go_wp2
 go_loopw [13] (fun i wr=>∃ k:Nat,k≤n∧i=.int .i64 k∧wr.heap=w.heap∧Below w w wr∧∀ j,j < k → l.getD j 0=l'.getD j 0) (fun i _=>n - (intOf i).toNat)
 case atStart=>exact ⟨0,zl _,rfl,rfl,qB _ _,fun j hj=>absurd hj (Nat.not_lt_zero _)⟩
 case round =>
  obtain ⟨k,hk,rfl,hh,hb,hq⟩:=hrel
  have HQ:=zH hq
  clear hq
  by_cases hlt:k < n
  ·obtain ⟨b,off,rfl,_,_,c0,i0⟩:=(H.o.below hb (fun _ h=>h)).int_at k hlt
   obtain ⟨b',off',rfl,_,_,c1,i1⟩:=(H'.o.below hb (fun _ h=>h)).int_at k hlt
   have HH:=zH hh
   clear hh i0 i1
   by_cases he:l.getD k 0=l'.getD k 0
   ·rw [← he] at c1
    generalize hx:l.getD k 0=x at *
    have d3:(x != x)=false:=by simp
    have HX:=zH hx
    have HE:=zH he
    clear hx he
    go_wp2_with fail
    go_quiet (fail)
    go_wp2_with fail
    refine ⟨⟨k+1,by omega,by go_num,HH.o,am hb _,fun j hj=>?_⟩,by simp [intOf];omega⟩
    by_cases hjk:j < k
    ·exact HQ.o j hjk
    ·obtain rfl:j=k:=oM
     rw [HX.o,HE.o]
   ·have d2:decide (l=l')=false:=by rw [decide_eq_false_iff_not];rintro rfl;exact he rfl
    have d3:(l.getD k 0 != l'.getD k 0)=true:=by rw [bne_iff_ne];exact he
    generalize l.getD k 0=x at *
    generalize l'.getD k 0=y at *
    have D2:=zH d2
    clear d2 he
    go_wp2_with fail
    go_quiet (fail)
    go_wp2
    go_ret
    exact ⟨by rw [D2.o];rfl,am hb _⟩
  ·obtain rfl:k=n:=oM
   go_wp2
   go_ret
   exact ⟨by rw [qT (hZ H.o.n_eq H'.o.n_eq HQ.o)];rfl,hb⟩
theorem jn:EI prog 44 3 (.int .i64 0) 1 8:=⟨underlying44,by kernel_rfl,rfl,by decide⟩
def pn:af:=⟨9,0,0,0,0,0,0,0,0,[],[],0,0,0,0,0,0,0,0⟩
theorem qL (w:World) (S:Nat → Prop):ee.rep w S [.int .i64 9,.int .i64 0,.int .i64 0,.int .i64 0,.int .i64 0,.int .i64 0,.int .i64 0,.int .i8 0,.int .i8 0,.slice none 0 0,.slice none 0 0,.int .i32 0,.int .i64 0,.int .i8 0,.int .i32 0,.int .i64 0,.int .i8 0,.int .i8 0,.int .i8 0] pn :=
 ⟨(9,0,0,0,0,0,0,0,0,[],[],(0,0,0),(0,0,0),0,0),rfl,
  _,_,rfl,⟨rfl,by decide⟩,_,_,rfl,⟨rfl,by decide⟩,_,_,rfl,⟨rfl,by decide⟩,_,_,rfl,⟨rfl,by decide⟩,_,_,rfl,⟨rfl,by decide⟩,_,_,rfl,⟨rfl,by decide⟩,_,_,rfl,⟨rfl,by decide⟩,_,_,rfl,⟨rfl,by decide⟩,_,_,rfl,⟨rfl,by decide⟩,
  _,_,rfl,(Sl.nil _ _ _).rep,_,_,rfl,(Sl.nil _ _ _).rep,_,_,rfl,⟨_,_,rfl,⟨rfl,by decide⟩,_,_,rfl,⟨rfl,by decide⟩,rfl,by decide⟩,_,_,rfl,⟨_,_,rfl,⟨rfl,by decide⟩,_,_,rfl,⟨rfl,by decide⟩,rfl,by decide⟩,_,_,rfl,⟨rfl,by decide⟩,rfl,by decide⟩
end Go.Proofs.YtmihnoagagbgaaaGreat
