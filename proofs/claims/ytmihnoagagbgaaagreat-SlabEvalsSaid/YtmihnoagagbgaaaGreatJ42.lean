/-
  Two tensors joined (layer 20): join.Of, the first tensor right.
-/
import Derived.Test.YtmihnoagagbgaaaGreatJ41
import Derived.Test.YtmihnoagagbgaaaGreatJ36
set_option linter.unusedVariables false
set_option linter.unusedSimpArgs false
set_option maxRecDepth 100000
set_option maxHeartbeats 16000000
namespace Go.Proofs.YtmihnoagagbgaaaGreat
open Tryz
open Go.RowKit Go.ChangeShapes Go.WideShapes Fx
attribute [local go_sem] Oper.semAt_some
theorem eZ {t:Ty Int} {w:World} {S:Nat → Prop} {base n r:Nat} {E:TypeId} {v:Value} {l:List Int} {o:Obj} (h:Own t w S base E v n l) (hr:w.heap[r]?=some o) (ho:o.isCells=false):v.ownBlock ≠ some r:=by
 obtain ⟨vs,h1,-⟩:=h.out
 rcases h1.2 with ⟨e,-⟩|⟨g,cap,cur,e,-,hg,-⟩
 ·subst e;intro h;cases h
 ·subst e
  intro h
  injection h with h
  subst h
  rw [hg] at hr
  cases hr
  cases ho
theorem Blk.noncells {w:World} {g r:Nat} {e:TypeId} {cs:Array Value} {o:Obj} (h:Blk w g e cs) (hr:w.heap[r]?=some o) (ho:o.isCells=false):g ≠ r:=by
 intro e
 subst e
 rw [h.heap] at hr
 cases hr
 cases ho
theorem oe {P:Program} {fn:Func} {tm:Array Value} {w:World} {g:Nat} {e ty:TypeId} {cs:Array Value} {fs:Array Field} {p u:Tmp} (h:fn.results=#[.cell p ty,.tmp u]) (hb:Blk w g e cs) (hp:tm.getD p undef=.pointer (some ⟨g,0,none⟩)) (hu:P.underlying ty=some (.struct fs)) (hi:(P.info? ty).map (·.size)=some cs.size) :
  (results fn tm).run P w=.ok (.tuple #[.agg cs,tm.getD u undef]) w:=by
 rw [results_cell_tmp h,hp,cK,Result.andThen_ok,run_loadVar_row w g e ty cs (0,0) (.struct fs) hb.heap hu rfl hi,Result.andThen_ok]
theorem nA {B:Nat} {w w':World} (hb:Below w w w'):KeepsFrom B w w':=⟨hb.size,fun k o _ hk _=>by
 have:=(Array.getElem?_eq_some_iff.1 hk).1
 rw [hb.block k this];exact hk⟩
theorem j9 {B:Nat} {w w':World} {r:Option Nat} (hg:w.grownBy w' r) (h:∀ (k:Nat) (o:Obj),r=some k → w.heap[k]?=some o → o.isCells=false → False):KeepsFrom B w w':=⟨hg.size,fun k o _ hk ho=>by
 have:=(Array.getElem?_eq_some_iff.1 hk).1
 rw [hg.block k this (fun e=>h k o e.symm hk ho)];exact hk⟩
theorem pt (a b:ae) (A A':QA) (n cap n' cap':Nat) (d:af) (W:QA) (nw cw:Nat) (B:QA) (nb cb:Nat) (w:World) (ht:ak a) (hu:ak b) (hd:aE d)
  (ha:xA w A n cap a.data) (hbs:xA w A' n' cap' b.data) (c1:a.ok=true) :
  Calls prog 47 #[.agg (tN a.h a.v a.c A n cap),.agg (tN b.h b.v b.c A' n' cap'),.agg (nN d.kind d.a d.b d.k d.s d.p d.out d.za d.zb W nw cw B nb cb d.qm d.qs d.qz d.rm d.rs d.rz d.lo d.hi)] w (ar .i8 (dH a b d).1 (dH a b d).2 w):=by
 have HA:=zH ha
 have HB:=zH hbs
 have HD:=zH hd
 obtain ⟨H,V,C,TK⟩:=cY c1
 have hn2:n≤1024:=by have:=TK.n_le;rw [ha.n_eq] at this;exact this
 have c1':decide (0 < ab a.h a.v a.c∧ab a.h a.v a.c=n)=true:=by rw [← HA.o.n_eq];simpa [ae.ok] using c1
 have RA:=zH (fun w=>av a.h a.v a.c A n cap w ht.h ht.v ht.c (lT ha.cap_le ha.max_le))
 rw [c1'] at RA
 have RB:=zH (fun w=>av b.h b.v b.c A' n' cap' w hu.h hu.v hu.c (lT hbs.cap_le hbs.max_le))
 have c2':decide (0 < ab b.h b.v b.c∧ab b.h b.v b.c=n')=b.ok:=by unfold ae.ok;rw [HB.o.n_eq]
 rw [c2'] at RB
 have mx:n≤9223372036854775807:=oM
 have QE:=zH (fun w=>eo w a.h a.v a.c b.h b.v b.c)
 have NN:=zH (show b.ok=true → ([a.h,a.v,a.c] == [b.h,b.v,b.c])=true → n'=n by
  intro h1 h2
  simp only [List.cons_beq_cons,Bool.and_eq_true,beq_iff_eq,List.beq_nil_eq,and_true] at h2
  have e1:a.h=b.h:=by simpa using h2.1
  have e2:a.v=b.v:=by simpa using h2.2.1
  have e3:a.c=b.c:=by simpa using h2.2.2.1
  rw [h1] at c2'
  simp only [decide_eq_true_eq] at c1' c2'
  rw [e1,e2,e3] at c1'
  omega)
 have HQ:=zH (show dH a b d=if b.ok=false then (aj,5) else if ([a.h,a.v,a.c] == [b.h,b.v,b.c])=false then (aj,5) else if aq d.qm d.qs=false then (aj,7) else if aq d.rm d.rs=false then (aj,7) else (⟨a.h,a.v,a.c,(List.range n).map fun i=>cG d (a.data.getD i 0) (b.data.getD i 0)⟩,0) by unfold dH;rw [ha.n_eq])
 have MY:=zH (show ie d=(aq d.qm d.qs && aq d.rm d.rs) from rfl)
 obtain ⟨x,hx⟩:∃ x,dH a b d=x:=⟨_,rfl⟩
 rw [hx] at HQ ⊢
 have FR:=zW w
 obtain ⟨w1,w2,w3,w4,yw1,yw2,yw3,yw4,l1,l2,l3,l4,BA,BB,BN,BR,yk4⟩:=bk4 w (tN a.h a.v a.c A n cap) 27 (tN b.h b.v b.c A' n' cap') 27 (nN d.kind d.a d.b d.k d.s d.p d.out d.za d.zb W nw cw B nb cb d.qm d.qs d.qz d.rm d.rs d.rz d.lo d.hi) 42 (tN 0 0 0 none 0 0) 27
 replace FR:=zF yk4 FR
 clear yk4
 obtain ⟨ok,hok⟩:∃ q,b.ok=q:=⟨_,rfl⟩
 obtain ⟨sm,hsm⟩:∃ q,([a.h,a.v,a.c] == [b.h,b.v,b.c])=q:=⟨_,rfl⟩
 obtain ⟨k1,hk1⟩:∃ q,aq d.qm d.qs=q:=⟨_,rfl⟩
 obtain ⟨k2,hk2⟩:∃ q,aq d.rm d.rs=q:=⟨_,rfl⟩
 rw [hok] at RB HQ NN
 rw [hsm] at QE HQ NN
 rw [hk1] at HQ MY
 rw [hk2] at HQ MY
 have MM:=zH (fun w=>iN d W nw cw B nb cb w)
 obtain ⟨mv,hmv⟩:∃ q,ie d=q:=⟨_,rfl⟩
 have MV2:=zH hmv
 rw [hmv] at MM MY
 clear hmv ht hu hd ha hbs c1 c1' c2' TK hx hok hsm hk1 hk2
 by_cases q1:ok=false
 ·subst q1
  rw [if_pos rfl] at HQ
  rw [HQ.o]
  go_in
  go_wp2_with (first|(refine lGJ19 BA.o ?_)|(go_at_call 11;with_reducible refine (RA.o _).mono ?_;rintro e w5 ⟨rfl,hb⟩;have l5:=hb.size;obtain ⟨FR,BA,BB,BN,BR⟩:=uz5 hb FR BA BB BN BR;clear hb yw1 yw2 yw3 yw4;obtain ⟨b0,b1,b2,b3⟩:=uc4 BB 0 1 2 3)|(go_at_call 11;with_reducible refine (RB.o _).mono ?_;rintro e w6 ⟨rfl,hb⟩;have l6:=hb.size;obtain ⟨FR,BA,BB,BN,BR⟩:=uz5 hb FR BA BB BN BR;clear hb b0 b1 b2 b3;obtain ⟨a0,a1,a2⟩:=uc3 BA 0 1 2;obtain ⟨b0,b1,b2⟩:=uc3 BB 0 1 2)|(refine sGJ19 (tN 0 0 0 none 0 0) BR.o ?_;intro wy By gy))
  refine rG By ?_
  exact ar.none (FR.o.away gy oM).out
 rw [Bool.not_eq_false] at q1
 subst q1
 rw [if_neg dM] at HQ
 by_cases q2:sm=false
 ·subst q2
  rw [if_pos rfl] at HQ
  rw [HQ.o]
  go_in
  go_wp2_with (first|(refine lGJ19 BA.o ?_)|(go_at_call 11;with_reducible refine (RA.o _).mono ?_;rintro e w5 ⟨rfl,hb⟩;have l5:=hb.size;obtain ⟨FR,BA,BB,BN,BR⟩:=uz5 hb FR BA BB BN BR;clear hb yw1 yw2 yw3 yw4;obtain ⟨b0,b1,b2,b3⟩:=uc4 BB 0 1 2 3)|(go_at_call 11;with_reducible refine (RB.o _).mono ?_;rintro e w6 ⟨rfl,hb⟩;have l6:=hb.size;obtain ⟨FR,BA,BB,BN,BR⟩:=uz5 hb FR BA BB BN BR;clear hb b0 b1 b2 b3;obtain ⟨a0,a1,a2⟩:=uc3 BA 0 1 2;obtain ⟨b0,b1,b2⟩:=uc3 BB 0 1 2)|(refine bq 24 _ (.tmp 22) (.tmp 24) rfl _ _ rfl rfl (by rfl) kM _ (QE.o _) ?_;try simp only [Bool.not_true,Bool.not_false])|(refine sGJ19 (tN 0 0 0 none 0 0) BR.o ?_;intro wy By gy))
  refine rG By ?_
  exact ar.none (FR.o.away gy oM).out
 rw [Bool.not_eq_false] at q2
 subst q2
 rw [if_neg dM] at HQ
 by_cases q3:mv=false
 ·subst q3
  have hq:x=(aj,7):=by
   rw [HQ.o]
   have:=MY.o
   cases k1 <;> cases k2 <;> first|rfl|(simp at this)
  rw [hq]
  go_in
  go_wp2_with (first|(refine lGJ19 BA.o ?_)|(go_at_call 11;with_reducible refine (RA.o _).mono ?_;rintro e w5 ⟨rfl,hb⟩;have l5:=hb.size;obtain ⟨FR,BA,BB,BN,BR⟩:=uz5 hb FR BA BB BN BR;clear hb yw1 yw2 yw3 yw4;obtain ⟨b0,b1,b2,b3⟩:=uc4 BB 0 1 2 3)|(go_at_call 11;with_reducible refine (RB.o _).mono ?_;rintro e w6 ⟨rfl,hb⟩;have l6:=hb.size;obtain ⟨FR,BA,BB,BN,BR⟩:=uz5 hb FR BA BB BN BR;clear hb b0 b1 b2 b3;obtain ⟨a0,a1,a2⟩:=uc3 BA 0 1 2;obtain ⟨b0,b1,b2⟩:=uc3 BB 0 1 2)|(refine bq 24 _ (.tmp 22) (.tmp 24) rfl _ _ rfl rfl (by rfl) kM _ (QE.o _) ?_;try simp only [Bool.not_true,Bool.not_false])|(refine lGJ19 BN.o ?_)|(go_at_call 85;with_reducible refine (MM.o _).mono ?_;rintro e w7 ⟨rfl,hb⟩;have l7:=hb.size;obtain ⟨FR,BA,BB,BN,BR⟩:=uz5 hb FR BA BB BN BR;clear hb a0 a1 a2 b0 b1 b2)|(refine sGJ19 (tN 0 0 0 none 0 0) BR.o ?_;intro wy By gy))
  refine rG By ?_
  exact ar.none (FR.o.away gy oM).out
 rw [Bool.not_eq_false] at q3
 subst q3
 have hq:x=(⟨a.h,a.v,a.c,(List.range n).map (fun i=>cG d (a.data.getD i 0) (b.data.getD i 0))⟩,0):=by
  rw [HQ.o]
  have:=MY.o
  cases k1 <;> cases k2 <;> first|rfl|(simp at this)
 rw [hq]
 obtain rfl:n=n':=(NN.o rfl rfl).symm
 have OV:=zH (fun x y (h:InK .i8 x) (h':InK .i8 y) w=>nt x y d W nw cw B nb cb w h h' HD.o MV2.o)
 clear hq HQ MY NN
 refine (callsIn_wide (n:=6)).1 ?_
 refine callsIn_of_wp_marks func47 rfl trivial ?_ rfl
 simp only [ntmps47,List.size_toArray,List.length_cons,List.length_nil,Nat.reduceAdd,Nat.reduceSub,Array.replicate_succ,Array.replicate_zero,List.push_toArray,List.append_toArray,List.nil_append,List.cons_append]
 rw [wpIn_wide]
 go_wp2_with (first|(refine lGJ19 BA.o ?_)|(go_at_call 11;with_reducible refine (RA.o _).mono ?_;rintro e w5 ⟨rfl,hb⟩;have l5:=hb.size;obtain ⟨FR,BA,BB,BN,BR⟩:=uz5 hb FR BA BB BN BR;clear hb yw1 yw2 yw3 yw4;obtain ⟨b0,b1,b2,b3⟩:=uc4 BB 0 1 2 3)|(go_at_call 11;with_reducible refine (RB.o _).mono ?_;rintro e w6 ⟨rfl,hb⟩;have l6:=hb.size;obtain ⟨FR,BA,BB,BN,BR⟩:=uz5 hb FR BA BB BN BR;clear hb b0 b1 b2 b3;obtain ⟨a0,a1,a2⟩:=uc3 BA 0 1 2;obtain ⟨b0,b1,b2⟩:=uc3 BB 0 1 2)|(refine bq 24 _ (.tmp 22) (.tmp 24) rfl _ _ rfl rfl (by rfl) kM _ (QE.o _) ?_;try simp only [Bool.not_true,Bool.not_false])|(refine lGJ19 BN.o ?_)|(go_at_call 85;with_reducible refine (MM.o _).mono ?_;rintro e w7 ⟨rfl,hb⟩;have l7:=hb.size;obtain ⟨FR,BA,BB,BN,BR⟩:=uz5 hb FR BA BB BN BR;clear hb a0 a1 a2 b0 b1 b2;obtain ⟨w8,yw8⟩:∃ x,w7.alloc (.cells (tN 0 0 0 none 0 0) 27)=x:=⟨_,rfl⟩;have hb:Below w7 w7 w8:=(by rw [← yw8];exact (qB _ _).alloc (lR _) _);have BG:=zH (show Blk w8 w7.heap.size 27 (tN 0 0 0 none 0 0) by rw [← yw8];exact Blk.now _ _ _ _ rfl);have BA5:=zH BA.o;obtain ⟨FR,BA,BB,BN,BR⟩:=uz5 hb FR BA BB BN BR;clear hb)|(refine lQJ 24 (sN a.h a.v a.c) BA5.o ?_)|(refine sGJ19 (tN a.h a.v a.c none 0 0) BG.o ?_;intro wy By gy;have ca:=(BA.o.away gy (.inl oM)).cell 3;have cb':=(BB.o.away gy (.inl oM)).cell 3;simp only [gX] at ca cb')|(go_at_call 86;refine qM (rg A A' n cap n cap' _) fun wp hwp=>?_;have HWP:=zH hwp;clear hwp))
 have l9:w8.heap.size=w7.heap.size+1:=by rw [← yw8];simp
 clear yw8 BA5 BG
 replace FR:=zA gy FR
 replace BA:=zA gy BA
 replace BB:=zA gy BB
 replace BN:=zA gy BN
 replace BR:=zA gy BR
 have BG:=zH By
 have lgy:=By.lt
 clear By gy
 have hwp:=HWP.o
 have hb:Below wy wy wp:=by rw [hwp];exact ((qB _ _).alloc (lR _) _).alloc sM _
 have P1:Blk wp wy.heap.size 25 #[.slice A n cap]:=by rw [hwp];exact (Blk.now _ _ _ _ rfl).past _
 have P2:Blk wp (wy.heap.size+1) 25 #[.slice A' n cap']:=by rw [hwp];exact Blk.now _ _ _ _ sM
 have lp:wp.heap.size=wy.heap.size+2:=by rw [hwp];simp
 clear HWP hwp ca cb'
 obtain ⟨FR,BA,BB,BN,BR,BG⟩:=uz6 hb FR BA BB BN BR BG
 clear hb
 have lw:w.heap.size≤wp.heap.size:=FR.o.size
 have hS:∀ k,(k < w.heap.size ∨ k=wy.heap.size ∨ k=wy.heap.size+1) → k < wp.heap.size:=fun k h=>by omega
 have sA:=((Old.now HA.o).fut FR.u).out.more (S':=fun k=>k < w.heap.size ∨ k=wy.heap.size ∨ k=wy.heap.size+1) (fun b h=>Or.inl h)
 have sB:=((Old.now HB.o).fut FR.u).out.more (S':=fun k=>k < w.heap.size ∨ k=wy.heap.size ∨ k=wy.heap.size+1) (fun b h=>Or.inl h)
 have hS0:=zH hS
 have PS:=mq (fun k=>k < w.heap.size ∨ k=wy.heap.size ∨ k=wy.heap.size+1) A A' n cap cap' a.data b.data wy.heap.size (wy.heap.size+1) 5 wp sA sB hn2 P1 P2 ⟨.inr (.inl rfl),.inr (.inr rfl)⟩ hS dM
 have XE:=zH (show ((List.range n).map (ls a.data b.data sA.allK sB.allK)).map (fun p=>cG d p.1.1 p.2.1)=(List.range n).map (fun i=>cG d (a.data.getD i 0) (b.data.getD i 0)) by rw [List.map_map];rfl)
 rw [← wpIn_wide (n:=6)]
 refine wpIn_rangeFunc_ownG rfl dM (gf:=122) (lb:=#[.pointer (some ⟨wy.heap.size,0,none⟩),.pointer (some ⟨wy.heap.size+1,0,none⟩)]) rfl trivial (enters_of func122 kM rfl)
  PS (fun h k=>h.trans k) (fun X l o o' h1 h2 h3 h4=>dj.put hS X l o o' h1 h2 h3 h4) (qB _ _) (fun _=>rfl)
  (fun pre X=>(Blk X w2.heap.size 42 (nN d.kind d.a d.b d.k d.s d.p d.out d.za d.zb W nw cw B nb cb d.qm d.qs d.qz d.rm d.rs d.rz d.lo d.hi)∧Blk X w3.heap.size 27 (tN 0 0 0 none 0 0)∧∃ u,Blk X w7.heap.size 27 #[.int .i64 a.h,.int .i64 a.v,.int .i64 a.c,u]∧Own (aa .i8) X (fun _=>False) wp.heap.size 37 u pre.length (pre.map fun p=>cG d p.1.1 p.2.1))∧Below w w X∧wp.heap.size≤X.heap.size) (fun _ _ _=>False) ?hI (fun _ _ _ _ _ hs _ _=>hs) ⟨⟨BN.o,BR.o,_,BG.o,Own.nil _ _ _ _ _⟩,FR.u,lR _⟩ (fun x=>{ tmps:=#[.agg (tN a.h a.v a.c A n cap),.agg (tN b.h b.v b.c A' n cap'),.agg (nN d.kind d.a d.b d.k d.s d.p d.out d.za d.zb W nw cw B nb cb d.qm d.qs d.qz d.rm d.rs d.rz d.lo d.hi),.pointer (some ⟨w.heap.size,0,none⟩),.pointer (some ⟨w1.heap.size,0,none⟩),.pointer (some ⟨w2.heap.size,0,none⟩),.pointer (some ⟨w3.heap.size,0,none⟩),.int .i64 0,.pointer (some ⟨w7.heap.size,0,none⟩),.int .i8 x.1.1,.int .i8 x.2.1,.bool false,.agg (tN a.h a.v a.c A n cap),.bool true,.bool false,.bool false,.agg (tN b.h b.v b.c A' n cap'),.bool true,.bool false,.bool false,.bool false,.pointer (some ⟨w.heap.size,0,none⟩),.agg (sN a.h a.v a.c),.pointer (some ⟨w1.heap.size,0,none⟩),.agg (sN b.h b.v b.c),.bool false,.bool false,undef,.bool false,.agg (nN d.kind d.a d.b d.k d.s d.p d.out d.za d.zb W nw cw B nb cb d.qm d.qs d.qz d.rm d.rs d.rz d.lo d.hi),.bool true,.bool false,undef,.pointer (some ⟨w.heap.size,0,none⟩),.agg (sN a.h a.v a.c),.agg (tN a.h a.v a.c none 0 0),.pointer (some ⟨w.heap.size,3,none⟩),.slice A n cap,.pointer (some ⟨w1.heap.size,3,none⟩),.slice A' n cap',.func (.func 122) #[] #[.pointer (some ⟨wy.heap.size,0,none⟩),.pointer (some ⟨wy.heap.size+1,0,none⟩)],.int .i8 x.1.1,.int .i8 x.2.1,undef,undef,undef,undef,undef,undef,undef,undef,undef,undef],defers:=[] }) ?assign ?body ?done ?stop
 case hI =>
  rintro pre X X' row ⟨⟨i1,i2,u,i3,i4⟩,i5,i6⟩ hg hr
  have nb:∀ g (e:TypeId) (cs:Array Value),Blk X g e cs → some g ≠ row:=fun g e cs h eq=>by
   obtain ⟨-,o,ho,hc⟩:=hr g eq.symm
   exact h.noncells ho hc rfl
  refine ⟨⟨i1.rowR hg (nb _ _ _ i1),i2.rowR hg (nb _ _ _ i2),u,i3.rowR hg (nb _ _ _ i3),i4.flat hg ?_ (fun _ h=>h)⟩,i5.grown hg i5.size (fun k e=>lT lw (hr k e).1),lT i6 hg.size⟩
  by_cases h:u.ownBlock=row
  ·cases row with
   | none=>exact .inl h
   | some r =>
    obtain ⟨-,o,ho,hc⟩:=hr r rfl
    exact absurd h (eZ i4 ho hc)
  ·exact .inr h
 case assign =>
  intro l x X K hK
  simp only [e88]
  gi_wp2
  exact hK
 case body =>
  rintro l pre x Wr ⟨⟨i1,i2,u,i3,i4⟩,i5,i6⟩ hlt
  obtain ⟨k,hk⟩:∃ k,pre.length=k:=⟨_,rfl⟩
  obtain ⟨PL,hPL⟩:∃ q,(pre.map fun p=>cG d p.1.1 p.2.1)=q:=⟨_,rfl⟩
  rw [hk,hPL] at i4
  rw [hk] at hlt
  have BN:=zH i1
  have BR:=zH i2
  have BG:=zH i3
  have ON:=zH i4
  have FR:=zH (show Far w Wr from ⟨i5⟩)
  have HKP:=zH (And.intro hk hPL)
  have CX:=zH (OV.o x.1.1 x.2.1 x.1.2 x.2.2)
  obtain ⟨v,hv⟩:∃ v,cG d x.1.1 x.2.1=v:=⟨_,rfl⟩
  have RE:=zH (show InK .i8 v by rw [← hv];exact ma d _ _)
  rw [hv] at CX
  have HV:=zH hv
  have lgr:=i3.lt
  clear i1 i2 i3 i4 i5 hk hPL hv
  refine wpIn_block ?_
  have OD:=zH (ON.o.heap (w':=Wr.drew) rfl)
  have fd:Below w w Wr.drew:=FR.u.drew
  have nu:=zH (show ∀ b,b < wp.heap.size → some b ≠ u.ownBlock from fun b hb e=>absurd (ON.o.lt b e.symm).1 oM)
  have lpr:=zH (show wp.heap.size≤Wr.heap.size from i6)
  refine m7 (fun w'=>w'.cell? ⟨w7.heap.size,3,none⟩=some u∧Blk w' w2.heap.size 42 (nN d.kind d.a d.b d.k d.s d.p d.out d.za d.zb W nw cw B nb cb d.qm d.qs d.qz d.rm d.rs d.rz d.lo d.hi)∧Below w w w') 8 kM kM (by rintro ⟨_,_,h⟩;exact h) ?_ (fun hS=>?_)
  ·exact ⟨BG.o.drew.cell 3,BN.o.drew,fd⟩
  refine kT' 0 hS ?_
  refine kT' 1 hS ?_
  refine kT' 2 hS ?_
  refine kT' 3 hS ?_
  refine tkT 4 rfl (yP (nN d.kind d.a d.b d.k d.s d.p d.out d.za d.zb W nw cw B nb cb d.qm d.qs d.qz d.rm d.rs d.rz d.lo d.hi) (fun w hs=>hs.2.1)) hS ?_
  try simp only [pX]
  refine rT 5 (fun K hK=>?_)
  go_simp
  refine qM (CX.o _) fun wa hb=>?_;have KW:=zH (ai (show Below Wr.heap.size Wr Wr.drew from (qB _ _).drew) hb (lR _));have OA:=zH (OD.o.below hb (lR _) (fun _ h=>h.elim));have za:wp.heap.size≤wa.heap.size:=lT lpr.out hb.size;have XX:=zH (And.intro (BN.o.drew.later hb) (And.intro (BR.o.drew.later hb) (BG.o.drew.later hb)));have FA:=zH (ai fd hb fd.size)
  refine xK hK (zR hb hS) fun hS=>?_
  clear hK K
  refine rT 6 (fun K hK=>?_)
  go_simp
  have hb:Below wa wa (wa.alloc (.cells #[.int .i8 v] 37)):=(qB _ _).alloc (lR _) _
  refine xK hK (zR hb hS) fun hS=>?_
  clear hK K
  refine rT 7 (fun K hK=>?_)
  (rw [if_pos (by rfl)];refine cU (W:=wa) (cs:=#[.int .i8 v]) (E:=37) (t:=aa .i8) (.tmp 44) (.tmp 49) rfl dy rfl OA.o 1 rfl v ⟨rfl,RE.o⟩ (by unfold maxLen;omega) oM za (fun _ h=>h.elim) ?_;intro u' wb own7 g7 at7;have B7:=zH (XX.o.2.2.rowR g7 (nu.out _ oM));refine hK.out _ _ ⟨B7.o.cell 3,XX.o.1.rowR g7 (nu.out _ oM),FA.o.grown g7 FA.o.size (fun j hj=>lT oM (OA.o.lt j hj).1)⟩ (fun hS=>?_))
  clear hK K
  try simp only [pX]
  refine wpAnyT_tail _ _ rfl rfl kM ?_
  have FZ:=hS.2.2
  have XN:=zH hS.2.1
  have XR:=zH (XX.o.2.1.rowR g7 (nu.out _ oM))
  have NU:=zH (show u'.ownBlock=none ∨ u'.ownBlock ≠ some w7.heap.size by
   cases hu:u'.ownBlock with
   | none=>exact .inl rfl
   | some m=>right;intro e;have:=(own7.lt m hu).1;have:=sI e;omega)
  obtain ⟨A7,c7,rfl,-⟩:=own7.sl (S':=fun _=>True) dM (fun _ _ _=>trivial) (fun _ _=>trivial)
  have K7:KeepsFrom wp.heap.size Wr wb:=(nA KW.o).trans (j9 g7 (fun k o e hk ho=>eZ OA.o hk ho e))
  have S7:dj (fun k=>k < w.heap.size ∨ k=wy.heap.size ∨ k=wy.heap.size+1) Wr wb:=⟨lT KW.o.size g7.size,fun k hk=>by
   have h1:=hS0.out k hk
   have h2:=KW.o.size
   have h3:=lpr.out
   rw [g7.block k oM (nu.out k oM),KW.o.block k oM]⟩
  clear hS hb at7
  go_wp2_with (refine wpList_store_one rfl 25 (.tmp 51) (.tmp 50) rfl w7.heap.size 3 (.slice A7 (k+1) c7) rfl rfl rfl rfl _ #[.int .i64 a.h,.int .i64 a.v,.int .i64 a.c,u] (tN a.h a.v a.c A7 (k+1) c7) B7.o sM kM rfl ?_;intro w8' B8 g8)
  have O8:=own7.flat g8 (by rcases NU.o with e|e;exact .inl e;exact .inr e) (fun _ h=>h)
  have F8:=(show Far w wb from ⟨FZ⟩).away g8 oM
  have K8:=K7.trans (j9 (B:=wp.heap.size) g8 (fun k o e hk ho=>by injection e with e;subst e;exact B7.o.noncells hk ho rfl))
  have S8:dj (fun k=>k < w.heap.size ∨ k=wy.heap.size ∨ k=wy.heap.size+1) Wr w8':=S7.trans ⟨g8.size,fun k hk=>by
   have h1:=hS0.out k hk
   have h2:=B7.o.lt
   have h4:=S7.size
   have h3:=lpr.out
   exact g8.block k oM (fun e=>by injection e with e;omega)⟩
  refine ⟨K8,S8,⟨XN.o.away g8 (.inl oM),XR.o.away g8 (.inl oM),_,B8,?_⟩,F8.out,by have:=S8.size;have:=lpr.out;omega⟩
  rw [List.length_append,List.map_append,HKP.o.1,HKP.o.2]
  show Own _ _ _ _ _ _ _ (PL ++ [cG d x.1.1 x.2.1])
  rw [HV.o]
  exact O8
 case done =>
  rintro D ys X hD rfl ⟨⟨i1,i2,u,i3,i4⟩,i5,i6⟩ hK
  have e1:((List.range n).map (ls a.data b.data sA.allK sB.allK)).length=n:=by simp
  rw [e1,XE.o] at i4
  obtain ⟨FL,hFL⟩:∃ q,(List.range n).map (fun i=>cG d (a.data.getD i 0) (b.data.getD i 0))=q:=⟨_,rfl⟩
  rw [hFL] at i4
  have HFL:=zH hFL
  have BR:=zH i2
  have BG:=zH i3
  have ON:=zH i4
  have FR:=zH (show Far w X from ⟨i5⟩)
  have DK:=zH (And.intro hK hD)
  obtain ⟨A9,c9,rfl,-⟩:=ON.o.sl (S':=fun _=>True) dM (fun _ _ _=>trivial) (fun _ _=>trivial)
  clear i1 i2 i3 i4 i5 hK hD e1 PS XE sA sB hFL P1 P2
  go_step
  go_wp2_with (first|(refine lGJ19 BG.o ?_)|(refine sGJ19 (tN a.h a.v a.c A9 n c9) BR.o ?_;intro w9 B9 g9))
  have hK9:w9.heap[D]?=some (.deferred (some [])):=by rw [g9.block D (Array.getElem?_eq_some_iff.1 DK.o.1).1 (fun e=>by have:=DK.o.2;injection e with e;omega)];exact DK.o.1
  refine ⟨by simp,.inl ⟨_,_,rfl,run_takeDeferred hK9,?_⟩⟩
  have hDw:=DK.o.2
  have gp:=grownBy_putObj' w9 D (.deferred none)
  have e2:=(ON.o.flat g9 (by
   cases hu:(Value.slice A9 n c9).ownBlock with
   | none=>exact .inl rfl
   | some m=>right;intro e;have:=(ON.o.lt m hu).1;have:=sI e;omega) (fun _ h=>h))
  have e3:=e2.flat gp (.inr (eZ e2 hK9 rfl)) (fun _ h=>h)
  have B3:=B9.rowR gp (fun e=>by injection e with e;omega)
  have F9:=FR.o.away g9 oM
  have F3:=F9.out.grown gp F9.size (fun k e=>by injection e with e;omega)
  obtain ⟨A2,c2,hv,s⟩:=e3.sl (S':=bin w.heap.size _) dM (fun b h1 h2=>⟨by omega,h2⟩) (fun b h=>h.elim)
  injection hv with hv1 hv2 hv3
  subst hv1 hv3
  refine ⟨_,oe rfl B3 rfl underlying27 kM,_,_,_,rfl,?_,F3⟩
  rw [HFL.o]
  exact s
 case stop =>
  rintro D c pre W _ _ h _
  exact h.elim
end Go.Proofs.YtmihnoagagbgaaaGreat
