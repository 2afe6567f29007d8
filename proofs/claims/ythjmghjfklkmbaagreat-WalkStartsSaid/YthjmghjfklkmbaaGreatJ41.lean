/-
  What a net tells of its costs (layer 36): Net.Table, Net.Steps.
  The document's Few of a bundle (layer 31) and its Steps (layer 36).
-/
import Derived.Test.YthjmghjfklkmbaaGreatJ40
set_option linter.unusedVariables false
set_option linter.unusedSimpArgs false
namespace Go.Proofs.YthjmghjfklkmbaaGreat
open Go.RowKit Go.ChangeShapes Go.WideShapes
set_option maxRecDepth 100000
set_option maxHeartbeats 4000000
theorem netTable_nil (w:World):Calls Tryz.prog 8 #[.pointer none] w fun e w'=>e=.returned (.slice none 0 0)∧w'=w:=by
 go_enter Tryz.func8,Tryz.ntmps8
 go_wp2_with fail
 go_ret
 exact ⟨rfl,rfl⟩
theorem netTable_any (g:Nat) (cs:Array Value) (B:Option Addr) (n cb:Nat) (tb:List (List Int)) (w:World) (hb:Blk w g 84 cs) (h5:cs[5]?=some (.slice B n cb)) (ht:Sl tRow w (blo w.heap.size) B n cb tb) (hn:n≤100) (hr:∀ r ∈ tb,r.length≤100) :
  Calls Tryz.prog 8 #[.pointer (some ⟨g,0,none⟩)] w (RetSl tRow w tb):=by
 have H:=zH (And.intro (Far.refl w) hb)
 have TN:=zH ht.n_eq
 have HT:=zH (Old.now ht)
 have HR:=zH hr
 have C5:=zH h5
 have c5:=(hb.cell 5).trans h5
 have hg:=hb.lt
 clear hb h5 ht hr
 go_enter Tryz.func8,Tryz.ntmps8
 go_wp2_with (at_make;refine wpList_make (t:=tRow) (S:=fun _=>False) (base:=w.heap.size) rfl _ _ rfl ei_rowT .i64 .i64 _ _ n rfl rfl rfl rfl (by omega) (by unfold maxLen;omega) (Nat.le_refl _) [] (tSlice_iff.2 ⟨none,0,rfl,Sl.nil _ _ _⟩) (fun _ h=>h.elim) ?_;intro w1 hown hg1;have cz:=(hg1.block g hg (by simp));have c5':w1.cell? ⟨g,5,none⟩=some (.slice B n cb):=(World.cell?_of_block cz).trans c5)
 have hoB:=hown.toB (Nat.le_of_ble_eq_true rfl)
 rcases hoB with ⟨q,-,-⟩|⟨g2,cap,cur0,q,hg2,OB⟩
 ·cases q
 simp only [Value.slice.injEq,Option.some.injEq,Addr.mk.injEq,true_and,and_true] at q
 obtain ⟨rfl,rfl⟩:=q
 have k1:Below w.heap.size w w1:=⟨hg1.os,hg1.tape,hg1.output,hg1.size,fun i hi=>hg1.block i hi (by simp)⟩
 have z1:w.heap.size < w1.heap.size:=OB.blk.lt
 have H2:=zF k1 H
 clear H cz c5 c5' hown hg1 hg2
 go_loopw [21] (fun i wr=>∃ (k:Nat) (S:Nat → Nat → Prop) (cur:Array Value),k≤n∧i=.int .i64 k∧OwnB tRow wr S w.heap.size 50 n n (tb.take k ++ List.replicate (n - k) []) cur∧(∀ j x,j < n → S j x → w1.heap.size≤x∧x < wr.heap.size)∧w1.grownBy wr (some w.heap.size)) (fun i _=>n - (intOf i).toNat)
 case atStart=>exact ⟨0,_,cur0,Nat.zero_le _,rfl,OB,fun _ _ _ h=>h.elim,World.grownBy.refl _ _⟩
 case round =>
  clear OB
  obtain ⟨k,S,cur,hk,rfl,hO,hS,hG⟩:=hrel
  obtain ⟨wo,hwo⟩:∃ x,x=wr:=⟨_,rfl⟩
  subst hwo
  have OB:=zH hO
  have SS:=zH hS
  have GG:=zH hG
  have H:=zA hG H2
  have zo:=hG.size
  clear hO hS hG
  by_cases hlt:k < n
  ·have p1:(k:Int) < (n:Int):=by omega
   have gk:IntKind.i64.wrap ((k:Int)+1)=((k+1:Nat):Int):=(IntWalk.i64_in _ (by omega)).trans (by simp)
   obtain ⟨r,gr,off,v,hx,hA,hgr,-,hr,hc⟩:=(HT.out.fut H.out.1.out).out.cell1 rfl k hlt
   obtain ⟨A',c',e,hs⟩:=tSlice_iff.1 hr
   simp only [List.cons.injEq,and_true] at e
   subst e hA
   have r6:=HR.out r (List.mem_of_getElem? hx)
   have TK:=zH (take_snoc _ _ _ hx)
   have s0:=hs.more (blo_more H.out.1.size)
   have OC:=zH (And.intro OB.out.size (And.intro OB.out.le OB.out.blk))
   rw [rowSize,Nat.mul_one] at OC
   have f0:k < cur.size:=by rw [OC.out.1];omega
   clear hr hs hgr
   go_wp2_with (first
    | (at_builtin;refine wpList_extend (W:=wo) (base:=wo.heap.size) rfl _ _ rfl ei_int rfl (Own.nil (tInt .i64) wo (fun _=>False) wo.heap.size 3) rfl s0 (by unfold maxLen;omega) (by omega) (Nat.le_refl _) ?_;intro v' w5 o5 g5 a5;rw [Nat.zero_add,List.nil_append] at o5;have g5:wo.grownBy w5 none:=g5;obtain ⟨A5,c5,rfl,sl5⟩:=o5.sl (S':=bin wo.heap.size w5.heap.size) (by decide) (fun b h1 h2=>⟨h1,h2⟩) (fun _ h=>h.elim);have k5:Below wo.heap.size wo w5:=⟨g5.os,g5.tape,g5.output,g5.size,fun i hi=>g5.block i hi (by simp)⟩;have OB5:=zH (OC.out.2.2.fut k5);obtain ⟨cur1,hc1⟩:∃ c:Array Value,c.toList=cur.toList.take k ++ [.slice A5 r.length c5] ++ cur.toList.drop (k+1):=⟨_,List.toList_toArray⟩)
    | (refine wpList_store_one rfl _ (.tmp 30) (.tmp 29) rfl w.heap.size k (.slice A5 r.length c5) rfl rfl rfl rfl _ cur cur1 OB5.out f0 (by kernel_rfl) hc1 ?_;intro w6 b6 g6))
   have z5:=g5.size
   have z6:=g6.size
   have C1:=zH hc1
   have hO2:OwnB tRow w6 (fun j x=>(j ≠ k∧S j x) ∨ (j=k∧wo.heap.size≤x∧x < w6.heap.size)) w.heap.size 50 n n ((tb.take k ++ List.replicate (n - k) []).set k r) cur1:=by
    refine OwnB.put (w:=w5) (o:=0) (ps:=[.slice A5 r.length c5]) (OB.out.fut k5 fun j x hj hs=>(SS.out j x hj hs).2) hlt g6 b6 (by rw [C1.out,rowSize,Nat.mul_one];rfl) (Nat.le_of_ble_eq_true rfl) (fun j x hj hjk hs=>⟨.inl ⟨hjk,hs⟩,Nat.lt_of_lt_of_le (SS.out j x hj hs).2 z5,by have:=(SS.out j x hj hs).1;omega⟩) ?_
    rw [rowSize,List.take_zero,List.nil_append,List.drop_of_length_le (by rw [List.length_take];exact Nat.min_le_left _ _),List.append_nil]
    exact tSlice_iff.2 ⟨_,_,rfl,(sl5.keep fun x hx=>g6.block x hx.2 fun e=>by have:=Option.some.inj e;have:=hx.1;omega).more fun x hx=>.inr ⟨rfl,hx.1,Nat.lt_of_lt_of_le hx.2 z6⟩⟩
   have hset:(tb.take k ++ List.replicate (n - k) ([]:List Int)).set k r=tb.take (k+1) ++ List.replicate (n - (k+1)) []:=by
    have hl:(tb.take k).length=k:=by rw [List.length_take,TN.out];omega
    rw [TK.out,List.set_append_right _ _ (by omega),hl,Nat.sub_self,show n - k=(n - (k+1))+1 by omega,List.replicate_succ,List.set_cons_zero,List.append_assoc]
    rfl
   rw [hset] at hO2
   refine ⟨⟨k+1,_,cur1,by omega,by go_num,hO2,?_,(GG.out.trans (below_grown k5)).trans g6⟩,by simp [intOf];omega⟩
   ·rintro j x hj (⟨hjk,hs⟩|⟨rfl,h1,h2⟩)
    ·have:=SS.out j x hj hs
     exact ⟨this.1,by omega⟩
    ·exact ⟨by omega,h2⟩
  ·obtain rfl:n=k:=by omega
   have p1:¬ (n:Int) < (n:Int):=by omega
   rw [Nat.sub_self,List.replicate_zero,List.append_nil,List.take_of_length_le (by rw [TN.out];exact Nat.le_refl _)] at OB
   go_wp2_with fail
   go_ret
   exact ⟨some ⟨w.heap.size,0,none⟩,n,n,rfl,OB.out.sl ⟨Nat.le_refl _,by omega⟩ fun j x hj hs=>⟨by have:=(SS.out j x hj hs).1;omega,(SS.out j x hj hs).2⟩,H.out.1.out⟩
def lens {α:Type} (l:List (List α)):Nat:=(l.map List.length).sum
theorem lens_next {α:Type} {l:List (List α)} {k:Nat} {r:List α} (h:l[k]?=some r):lens (l.take (k+1))=lens (l.take k)+r.length:=by
 unfold lens
 rw [take_snoc _ _ _ h,List.map_append,List.sum_append]
 simp
theorem lens_le {α:Type} {l:List (List α)} {c:Nat} (h:∀ r ∈ l,r.length≤c):∀ k,lens (l.take k)≤k*c
 | 0=>by simp [lens]
 | k+1=>by
  have ih:=lens_le h k
  rw [Nat.add_mul,Nat.one_mul]
  cases q:l[k]? with
  | none =>
   have:=List.getElem?_eq_none_iff.1 q
   rw [List.take_of_length_le (by omega)] at ih ⊢
   omega
  | some r =>
   rw [lens_next q]
   have:=h r (List.mem_of_getElem? q)
   omega
theorem netSteps_any (g:Nat) (cs:Array Value) (B:Option Addr) (n cb:Nat) (tb:List (List Int)) (w:World) (hb:Blk w g 84 cs) (h5:cs[5]?=some (.slice B n cb)) (ht:Sl tRow w (blo w.heap.size) B n cb tb) (hn:n≤100) (hr:∀ r ∈ tb,r.length≤100) :
  Calls Tryz.prog 11 #[.pointer (some ⟨g,0,none⟩)] w fun e w'=>e=.returned (.int .i64 (lens tb:Nat))∧Below w.heap.size w w':=by
 have TB:=zH (fun w hb ht=>netTable_any g cs B n cb tb w hb h5 ht hn hr)
 have HT:=zH (Old.now ht)
 have BK:=zH hb
 have HR:=zH hr
 have LB:=zH (lens_le hr)
 have TN:=zH ht.n_eq
 clear hb h5 ht hr
 go_enter Tryz.func11,Tryz.ntmps11
 go_wp2_with fail
 refine (TB.out _ BK.out HT.out.out).mono ?_
 rintro e w2 ⟨A,m,c,rfl,q,hb⟩
 have HQ:=zH (Old.now q.old)
 have MM:=q.n_eq
 have G2:=zH hb
 obtain rfl:m=n:=by rw [← MM,TN.out]
 clear hb q MM TB
 go_wp2_with fail
 go_loopw [3,9] (fun mn i wr=>∃ k:Nat,k≤m∧i=.int .i64 k∧mn=.int .i64 (lens (tb.take k):Nat)∧Below w2.heap.size w2 wr) (fun _ i _=>m - (intOf i).toNat)
 case atStart=>exact ⟨0,Nat.zero_le _,rfl,rfl,Below.refl _ _⟩
 case round =>
  obtain ⟨k,hk,rfl,rfl,hbr⟩:=hrel
  have GR:=zH hbr
  clear hbr
  by_cases hlt:k < m
  ·have p1:(k:Int) < (m:Int):=by omega
   have gk:IntKind.i64.wrap ((k:Int)+1)=((k+1:Nat):Int):=(IntWalk.i64_in _ (by omega)).trans (by simp)
   obtain ⟨r,gr,off,v,hx,hA,hgr,-,hr,hc⟩:=(HQ.out.fut GR.out).out.cell1 rfl k hlt
   obtain ⟨A',c',e,hs⟩:=tSlice_iff.1 hr
   simp only [List.cons.injEq,and_true] at e
   subst e hA
   have LN:=zH (lens_next hx)
   have l1:=LB.out k
   have l2:=HR.out r (List.mem_of_getElem? hx)
   have gs:IntKind.i64.wrap ((lens (tb.take k):Int)+(r.length:Int))=((lens (tb.take (k+1)):Nat):Int):=(IntWalk.i64_in _ (by have:=Nat.mul_le_mul_right 100 hk;omega)).trans (by rw [LN.out];simp)
   clear hr hs hgr hx
   go_wp2_with fail
   exact ⟨⟨k+1,by omega,by go_num,rfl,GR.out⟩,by simp [intOf];omega⟩
  ·obtain rfl:m=k:=by omega
   have p1:¬ (m:Int) < (m:Int):=by omega
   have TT:=zH (show tb.take m=tb from List.take_of_length_le (by rw [TN.out];exact Nat.le_refl _))
   go_wp2_with fail
   go_ret
   exact ⟨by rw [TT.out] <;> rfl,below_later GR.out G2.out⟩
theorem netSteps_nil (w:World):Calls Tryz.prog 11 #[.pointer none] w fun e w'=>e=.returned (.int .i64 0)∧Below w.heap.size w w':=by
 have TB:=zH (fun w=>netTable_nil w)
 go_enter Tryz.func11,Tryz.ntmps11
 go_wp2_with fail
 refine (TB.out _).mono ?_
 rintro e w2 ⟨rfl,rfl⟩
 go_wp2_with fail
 go_loopw [3,9] (fun mn i wr=>i=.int .i64 0∧mn=.int .i64 0∧wr=w2) (fun _ _ _=>0)
 case atStart=>exact ⟨rfl,rfl,rfl⟩
 case round =>
  obtain ⟨rfl,rfl,rfl⟩:=hrel
  go_wp2_with fail
  go_ret
  exact ⟨rfl,Below.refl _ _⟩
theorem rsteps36_any (u:Bun) (A:Option Addr) (n cap:Nat) (w:World) (hu:Sl tModel w (blo w.heap.size) A n cap u.models) (hf:fewU u) :
  Calls Tryz.prog 12 #[.agg #[.int .i64 u.h,.int .i64 u.v,.int .i64 u.c,.int .i64 u.cl,.slice A n cap]] w fun e w'=>e=.returned (.int .i64 (lens u.models:Nat))∧Below w.heap.size w w':=by
 have HU:=zH (Old.now hu)
 have LU:=zH hu.n_eq
 have LB:=zH (lens_le (l:=u.models) (c:=8) fun r hr=>(hf.2 r hr).1)
 have FU:=zH (fun r hr=>(hf.2 r hr).1)
 have n4:n≤4:=by have:=hf.1;rw [hu.n_eq] at this;exact this
 have H:=zH (Far.refl w)
 obtain ⟨w1,hw_w1,B1,k1⟩:=nB w #[.int .i64 u.h,.int .i64 u.v,.int .i64 u.c,.int .i64 u.cl,.slice A n cap] 26
 replace H:=zN k1 H B1
 clear B1 k1 hu hf
 have cA:=fun i=>H.out.2.cell i
 go_enter Tryz.func12,Tryz.ntmps12
 go_wp2_with fail
 clear cA hw_w1
 go_loopw [3,4] (fun mn i wr=>∃ k:Nat,k≤n∧i=.int .i64 k∧mn=.int .i64 (lens (u.models.take k):Nat)∧Below w1.heap.size w1 wr) (fun _ i _=>n - (intOf i).toNat)
 case atStart=>exact ⟨0,Nat.zero_le _,rfl,rfl,Below.refl _ _⟩
 case round =>
  obtain ⟨k,hk,rfl,rfl,hbr⟩:=hrel
  have GR:=zH hbr
  replace H:=zF hbr H
  have cA:=fun i=>H.out.2.cell i
  clear hbr
  by_cases hlt:k < n
  ·have p1:(k:Int) < (n:Int):=by omega
   have gk:IntKind.i64.wrap ((k:Int)+1)=((k+1:Nat):Int):=(IntWalk.i64_in _ (by omega)).trans (by simp)
   obtain ⟨m,ga,oa,A',n',c',hm,rfl,hga,hca,hA⟩:=(HU.out.fut H.out.1.out).out.model_at k hlt
   have LN:=zH (lens_next hm)
   have l1:=LB.out k
   have l2:=FU.out m (List.mem_of_getElem? hm)
   have l3:=hA.n_eq
   rw [l3] at l2
   have gs:IntKind.i64.wrap ((lens (u.models.take k):Int)+(n':Int))=((lens (u.models.take (k+1)):Nat):Int):=(IntWalk.i64_in _ (by have:=Nat.mul_le_mul_right 8 hk;omega)).trans (by rw [LN.out,l3];simp)
   clear hga hA hm l3
   go_wp2_with fail
   exact ⟨⟨k+1,by omega,by go_num,rfl,GR.out⟩,by simp [intOf];omega⟩
  ·obtain rfl:n=k:=by omega
   have p1:¬ (n:Int) < (n:Int):=by omega
   have TT:=zH (show u.models.take n=u.models from List.take_of_length_le (by rw [LU.out];exact Nat.le_refl _))
   go_wp2_with fail
   go_ret
   exact ⟨by rw [TT.out] <;> rfl,H.out.1.out⟩
def RetFew (u:Bun) (w:World) (e:Ending) (w':World):Prop:=∃ b:Bool,e=.returned (.bool b)∧(b=true → fewU u)∧Below w.heap.size w w'
theorem few31_any (u:Bun) (A:Option Addr) (n cap:Nat) (w:World) (hu:Sl tModel w (blo w.heap.size) A n cap u.models) :
  Calls Tryz.prog 4 #[.agg #[.int .i64 u.h,.int .i64 u.v,.int .i64 u.c,.int .i64 u.cl,.slice A n cap]] w (RetFew u w):=by
 have HU:=zH (Old.now hu)
 have LU:=zH hu.n_eq
 have F27:=zH (fun L m cm l w h=>few27_any L m cm l 0 0 0 none 0 0 w h)
 have n9:n≤9223372036854775807:=Nat.le_trans hu.cap_le hu.max_le
 have H:=zH (Far.refl w)
 obtain ⟨w1,hw_w1,B1,k1⟩:=nB w #[.int .i64 u.h,.int .i64 u.v,.int .i64 u.c,.int .i64 u.cl,.slice A n cap] 26
 replace H:=zN k1 H B1
 clear B1 k1 hu
 have cA:=fun i=>H.out.2.cell i
 by_cases c1:4 < n
 ·have t1:decide (4 < (n:Int))=true:=by simp;omega
  go_enter Tryz.func4,Tryz.ntmps4
  go_wp2_with fail
  go_ret
  exact ⟨false,rfl,(fun h=>by cases h),H.out.1.out⟩
 have t1:decide (4 < (n:Int))=false:=by simp;omega
 go_enter Tryz.func4,Tryz.ntmps4
 go_wp2_with fail
 clear cA hw_w1 t1
 go_loopw [3] (fun i wr=>∃ k:Nat,k≤n∧i=.int .i64 k∧(∀ j m,j < k → u.models[j]?=some m → m.length≤8∧∀ b ∈ m,fewB b)∧Below w1.heap.size w1 wr) (fun i _=>n - (intOf i).toNat)
 case atStart=>exact ⟨0,Nat.zero_le _,rfl,fun j m hj=>absurd hj (Nat.not_lt_zero _),Below.refl _ _⟩
 case round =>
  obtain ⟨k,hk,rfl,hq,hbr⟩:=hrel
  obtain ⟨wo,hwo⟩:∃ x,x=wr:=⟨_,rfl⟩
  subst hwo
  have GR:=zH hbr
  have HQ:=zH hq
  replace H:=zF hbr H
  have cA:=fun i=>H.out.2.cell i
  clear hbr hq
  by_cases hlt:k < n
  ·have p1:(k:Int) < (n:Int):=by omega
   have gk:IntKind.i64.wrap ((k:Int)+1)=((k+1:Nat):Int):=(IntWalk.i64_in _ (by omega)).trans (by simp)
   obtain ⟨m,ga,oa,A',n',c',hm,rfl,hga,hca,hA⟩:=(HU.out.fut H.out.1.out).out.model_at k hlt
   have HM:=zH hm
   have LM:=zH hA.n_eq
   have n8:n'≤9223372036854775807:=Nat.le_trans hA.cap_le hA.max_le
   have HA:=zH (show Old w tBlk wo A' n' c' m from ⟨hA,H.out.1.size⟩)
   clear hm hga hA
   by_cases c2:8 < n'
   ·have t2:decide (8 < (n':Int))=true:=by simp;omega
    go_wp2_with fail
    go_ret
    exact ⟨false,rfl,(fun h=>by cases h),H.out.1.out⟩
   have t2:decide (8 < (n':Int))=false:=by simp;omega
   go_wp2_with fail
   clear cA hca t2
   go_loopw [5] (fun i wr=>∃ q:Nat,q≤n'∧i=.int .i64 q∧(∀ j b,j < q → m[j]?=some b → fewB b)∧Below wo.heap.size wo wr) (fun i _=>n' - (intOf i).toNat)
   case atStart=>exact ⟨0,Nat.zero_le _,rfl,fun j m hj=>absurd hj (Nat.not_lt_zero _),Below.refl _ _⟩
   case round =>
    obtain ⟨q,hq,rfl,hb2,hbi⟩:=hrel
    obtain ⟨wi,hwi⟩:∃ x,x=wr:=⟨_,rfl⟩
    subst hwi
    have GI:=zH hbi
    have HB:=zH hb2
    replace H:=zF hbi H
    replace HA:=zF hbi HA
    clear hbi hb2
    by_cases hlq:q < n'
    ·have p2:(q:Int) < (n':Int):=by omega
     have gq:IntKind.i64.wrap ((q:Int)+1)=((q+1:Nat):Int):=(IntWalk.i64_in _ (by omega)).trans (by simp)
     obtain ⟨b,g,off,L,nl,cl,W,nw,cw,B,nb,cb,hb,rfl,hgb,rg,hat⟩:=HA.out.out.blk_at q hlq
     have BM:=zH hb
     have l2:=hat.hw.n_eq
     have l3:=hat.hb.n_eq
     have m2:=Nat.le_trans hat.hw.cap_le hat.hw.max_le
     have m3:=Nat.le_trans hat.hb.cap_le hat.hb.max_le
     have HN:=zH (show Sl tNode wi (blo wi.heap.size) L nl cl b.nodes from hat.nodes.more fun x hx=>Nat.lt_of_lt_of_le (show x < w.heap.size from hx) HA.out.le)
     have RG:=zH rg
     have c0:wi.cell? ⟨g,off+q*5,none⟩=some (.slice L nl cl):=rg 0 _ rfl
     have HX:=zH (Far.refl wi)
     clear hb hgb rg hat
     go_wp2_with fail
     refine (F27.out L nl cl b.nodes _ HN.out).mono ?_
     rintro e w4 ⟨f,rfl,hf,hb4⟩
     replace H:=zF hb4 H
     replace HX:=zF hb4 HX
     have FB:=zH hf
     have c2:=(rangeF RG.out hb4) 2 _ rfl
     have c3:=(rangeF RG.out hb4) 3 _ rfl
     clear hb4 hf c0
     cases f with
     | false =>
      clear c2 c3
      go_wp2_with fail
      go_ret
      exact ⟨false,rfl,(fun h=>by cases h),H.out.1.out⟩
     | true =>
     by_cases g2:4000 < nw
     ·have t3:decide (4000 < (nw:Int))=true:=by simp;omega
      go_wp2_with fail
      go_ret
      exact ⟨false,rfl,(fun h=>by cases h),H.out.1.out⟩
     have t3:decide (4000 < (nw:Int))=false:=by simp;omega
     by_cases g3:100 < nb
     ·have t4:decide (100 < (nb:Int))=true:=by simp;omega
      go_wp2_with fail
      go_ret
      exact ⟨false,rfl,(fun h=>by cases h),H.out.1.out⟩
     have t4:decide (100 < (nb:Int))=false:=by simp;omega
     have Q:=zH (show fewB b from ⟨(FB.out rfl).1,by omega,by omega⟩)
     clear l2 l3
     go_wp2_with fail
     refine ⟨⟨q+1,by omega,by go_num,fun j d' hj hd'=>?_,below_later HX.out.out GI.out⟩,by simp [intOf];omega⟩
     by_cases hjk:j < q
     ·exact HB.out j d' hjk hd'
     ·obtain rfl:j=q:=by omega
      rw [BM.out] at hd'
      cases hd'
      exact Q.out
    ·obtain rfl:n'=q:=by omega
     have p2:¬ (n':Int) < (n':Int):=by omega
     have Q:=zH (show m.length≤8∧∀ b ∈ m,fewB b from ⟨by rw [LM.out];omega,fun b hb=>by
      obtain ⟨j,hj⟩:=List.getElem?_of_mem hb
      exact HB.out j b (by have:=(List.getElem?_eq_some_iff.1 hj).1;rw [LM.out] at this;exact this) hj⟩)
     go_wp2_with fail
     refine ⟨⟨k+1,by omega,by go_num,fun j m' hj hm'=>?_,below_later GI.out GR.out⟩,by simp [intOf];omega⟩
     by_cases hjk:j < k
     ·exact HQ.out j m' hjk hm'
     ·obtain rfl:j=k:=by omega
      rw [HM.out] at hm'
      cases hm'
      exact Q.out
  ·obtain rfl:n=k:=by omega
   have p1:¬ (n:Int) < (n:Int):=by omega
   have FN:=zH (show fewU u from ⟨by rw [LU.out];omega,fun d hd=>by
    obtain ⟨j,hj⟩:=List.getElem?_of_mem hd
    exact HQ.out j d (by have:=(List.getElem?_eq_some_iff.1 hj).1;rw [LU.out] at this;exact this) hj⟩)
   go_wp2_with fail
   go_ret
   exact ⟨true,rfl,fun _=>FN.out,H.out.1.out⟩
end Go.Proofs.YthjmghjfklkmbaaGreat
