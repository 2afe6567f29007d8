/-
  What a net tells of its costs (layer 36): Net.Table, Net.Steps.
  The document's Few of a bundle (layer 31) and its Steps (layer 36).
  A new engine (layer 43), of 9 tokens, with room for one who waits and for one who is under way; accounts, lines (layers 39, 40).
  How a new engine stands (layer 43: Stats).
-/
import Derived.Test.YtppcjcigekoipaaGreatJ41
import Derived.Test.YtppcjcigekoipaaGreatJ46
import Derived.Test.YtppcjcigekoipaaGreatJ47
set_option linter.unusedVariables false
set_option linter.unusedSimpArgs false
namespace Go.Proofs.YtppcjcigekoipaaGreat
open Go.RowKit Go.ChangeShapes Go.WideShapes
set_option maxRecDepth 100000
set_option maxHeartbeats 4000000
theorem netTable_nil (w:World):Calls Tryz.prog 26 #[.pointer none] w fun e w'=>e=.returned (.slice none 0 0)∧w'=w:=by
 go_enter Tryz.func26,Tryz.ntmps26
 go_wp2_with fail
 go_ret
 exact ⟨rfl,rfl⟩
theorem netTable_any (g:Nat) (cs:Array Value) (B:Option Addr) (n cb:Nat) (tb:List (List Int)) (w:World) (hb:Blk w g 75 cs) (h5:cs[5]?=some (.slice B n cb)) (ht:Sl tRow w (blo w.heap.size) B n cb tb) (hn:n≤100) (hr:∀ r ∈ tb,r.length≤100) :
  Calls Tryz.prog 26 #[.pointer (some ⟨g,0,none⟩)] w (RetSl tRow w tb):=by
 have H:=zH (And.intro (Far.refl w) hb)
 have TN:=zH ht.n_eq
 have HT:=zH (Old.now ht)
 have HR:=zH hr
 have C5:=zH h5
 have c5:=(hb.cell 5).trans h5
 have hg:=hb.lt
 clear hb h5 ht hr
 go_enter Tryz.func26,Tryz.ntmps26
 go_wp2_with (at_make;refine wpList_make (t:=tRow) (S:=fun _=>False) (base:=w.heap.size) rfl _ _ rfl ei_rowT .i64 .i64 _ _ n rfl rfl rfl rfl (by omega) (by unfold maxLen;omega) (Nat.le_refl _) [] (tSlice_iff.2 ⟨none,0,rfl,Sl.nil _ _ _⟩) (fun _ h=>h.elim) ?_;intro w1 hown hg1;have cz:=(hg1.block g hg (by simp));have c5':w1.cell? ⟨g,5,none⟩=some (.slice B n cb):=(World.cell?_of_block cz).trans c5)
 have hoB:=hown.toB (Nat.le_of_ble_eq_true rfl)
 rcases hoB with ⟨q,-,-⟩|⟨g2,cap,cur0,q,hg2,OB⟩
 ·cases q
 simp only [Value.slice.injEq,Option.some.injEq,Addr.mk.injEq,true_and,and_true] at q
 obtain ⟨rfl,rfl⟩:=q
 have k1:Below w.heap.size w w1:=⟨hg1.os,hg1.tape,hg1.output,hg1.size,fun i hi=>hg1.block i hi (by simp)⟩
 have z1:w.heap.size < w1.heap.size:=OB.blk.lt
 have H2:=zF k1 H
 clear H cz c5 c5' hown hg1 hg2
 go_loopw [21] (fun i wr=>∃ (k:Nat) (S:Nat → Nat → Prop) (cur:Array Value),k≤n∧i=.int .i64 k∧OwnB tRow wr S w.heap.size 120 n n (tb.take k ++ List.replicate (n - k) []) cur∧(∀ j x,j < n → S j x → w1.heap.size≤x∧x < wr.heap.size)∧w1.grownBy wr (some w.heap.size)) (fun i _=>n - (intOf i).toNat)
 case atStart=>exact ⟨0,_,cur0,Nat.zero_le _,rfl,OB,fun _ _ _ h=>h.elim,World.grownBy.refl _ _⟩
 case round =>
  clear OB
  obtain ⟨k,S,cur,hk,rfl,hO,hS,hG⟩:=hrel
  obtain ⟨wo,hwo⟩:∃ x,x=wr:=⟨_,rfl⟩
  subst hwo
  have OB:=zH hO
  have SS:=zH hS
  have GG:=zH hG
  have H:=zA hG H2
  have zo:=hG.size
  clear hO hS hG
  by_cases hlt:k < n
  ·have p1:(k:Int) < (n:Int):=by omega
   have gk:IntKind.i64.wrap ((k:Int)+1)=((k+1:Nat):Int):=(IntWalk.i64_in _ (by omega)).trans (by simp)
   obtain ⟨r,gr,off,v,hx,hA,hgr,-,hr,hc⟩:=(HT.out.fut H.out.1.out).out.cell1 rfl k hlt
   obtain ⟨A',c',e,hs⟩:=tSlice_iff.1 hr
   simp only [List.cons.injEq,and_true] at e
   subst e hA
   have r6:=HR.out r (List.mem_of_getElem? hx)
   have TK:=zH (take_snoc _ _ _ hx)
   have s0:=hs.more (blo_more H.out.1.size)
   have OC:=zH (And.intro OB.out.size (And.intro OB.out.le OB.out.blk))
   rw [rowSize,Nat.mul_one] at OC
   have f0:k < cur.size:=by rw [OC.out.1];omega
   clear hr hs hgr
   go_wp2_with (first
    | (at_builtin;refine wpList_extend (W:=wo) (base:=wo.heap.size) rfl _ _ rfl ei_int rfl (Own.nil (tInt .i64) wo (fun _=>False) wo.heap.size 3) rfl s0 (by unfold maxLen;omega) (by omega) (Nat.le_refl _) ?_;intro v' w5 o5 g5 a5;rw [Nat.zero_add,List.nil_append] at o5;have g5:wo.grownBy w5 none:=g5;obtain ⟨A5,c5,rfl,sl5⟩:=o5.sl (S':=bin wo.heap.size w5.heap.size) (by decide) (fun b h1 h2=>⟨h1,h2⟩) (fun _ h=>h.elim);have k5:Below wo.heap.size wo w5:=⟨g5.os,g5.tape,g5.output,g5.size,fun i hi=>g5.block i hi (by simp)⟩;have OB5:=zH (OC.out.2.2.fut k5);obtain ⟨cur1,hc1⟩:∃ c:Array Value,c.toList=cur.toList.take k ++ [.slice A5 r.length c5] ++ cur.toList.drop (k+1):=⟨_,List.toList_toArray⟩)
    | (refine wpList_store_one rfl _ (.tmp 30) (.tmp 29) rfl w.heap.size k (.slice A5 r.length c5) rfl rfl rfl rfl _ cur cur1 OB5.out f0 (by kernel_rfl) hc1 ?_;intro w6 b6 g6))
   have z5:=g5.size
   have z6:=g6.size
   have C1:=zH hc1
   have hO2:OwnB tRow w6 (fun j x=>(j ≠ k∧S j x) ∨ (j=k∧wo.heap.size≤x∧x < w6.heap.size)) w.heap.size 120 n n ((tb.take k ++ List.replicate (n - k) []).set k r) cur1:=by
    refine OwnB.put (w:=w5) (o:=0) (ps:=[.slice A5 r.length c5]) (OB.out.fut k5 fun j x hj hs=>(SS.out j x hj hs).2) hlt g6 b6 (by rw [C1.out,rowSize,Nat.mul_one];rfl) (Nat.le_of_ble_eq_true rfl) (fun j x hj hjk hs=>⟨.inl ⟨hjk,hs⟩,Nat.lt_of_lt_of_le (SS.out j x hj hs).2 z5,by have:=(SS.out j x hj hs).1;omega⟩) ?_
    rw [rowSize,List.take_zero,List.nil_append,List.drop_of_length_le (by rw [List.length_take];exact Nat.min_le_left _ _),List.append_nil]
    exact tSlice_iff.2 ⟨_,_,rfl,(sl5.keep fun x hx=>g6.block x hx.2 fun e=>by have:=Option.some.inj e;have:=hx.1;omega).more fun x hx=>.inr ⟨rfl,hx.1,Nat.lt_of_lt_of_le hx.2 z6⟩⟩
   have hset:(tb.take k ++ List.replicate (n - k) ([]:List Int)).set k r=tb.take (k+1) ++ List.replicate (n - (k+1)) []:=by
    have hl:(tb.take k).length=k:=by rw [List.length_take,TN.out];omega
    rw [TK.out,List.set_append_right _ _ (by omega),hl,Nat.sub_self,show n - k=(n - (k+1))+1 by omega,List.replicate_succ,List.set_cons_zero,List.append_assoc]
    rfl
   rw [hset] at hO2
   refine ⟨⟨k+1,_,cur1,by omega,by go_num,hO2,?_,(GG.out.trans (below_grown k5)).trans g6⟩,by simp [intOf];omega⟩
   ·rintro j x hj (⟨hjk,hs⟩|⟨rfl,h1,h2⟩)
    ·have:=SS.out j x hj hs
     exact ⟨this.1,by omega⟩
    ·exact ⟨by omega,h2⟩
  ·obtain rfl:n=k:=by omega
   have p1:¬ (n:Int) < (n:Int):=by omega
   rw [Nat.sub_self,List.replicate_zero,List.append_nil,List.take_of_length_le (by rw [TN.out];exact Nat.le_refl _)] at OB
   go_wp2_with fail
   go_ret
   exact ⟨some ⟨w.heap.size,0,none⟩,n,n,rfl,OB.out.sl ⟨Nat.le_refl _,by omega⟩ fun j x hj hs=>⟨by have:=(SS.out j x hj hs).1;omega,(SS.out j x hj hs).2⟩,H.out.1.out⟩
def lens {α:Type} (l:List (List α)):Nat:=(l.map List.length).sum
theorem lens_next {α:Type} {l:List (List α)} {k:Nat} {r:List α} (h:l[k]?=some r):lens (l.take (k+1))=lens (l.take k)+r.length:=by
 unfold lens
 rw [take_snoc _ _ _ h,List.map_append,List.sum_append]
 simp
theorem lens_le {α:Type} {l:List (List α)} {c:Nat} (h:∀ r ∈ l,r.length≤c):∀ k,lens (l.take k)≤k*c
 | 0=>by simp [lens]
 | k+1=>by
  have ih:=lens_le h k
  rw [Nat.add_mul,Nat.one_mul]
  cases q:l[k]? with
  | none =>
   have:=List.getElem?_eq_none_iff.1 q
   rw [List.take_of_length_le (by omega)] at ih ⊢
   omega
  | some r =>
   rw [lens_next q]
   have:=h r (List.mem_of_getElem? q)
   omega
theorem netSteps_any (g:Nat) (cs:Array Value) (B:Option Addr) (n cb:Nat) (tb:List (List Int)) (w:World) (hb:Blk w g 75 cs) (h5:cs[5]?=some (.slice B n cb)) (ht:Sl tRow w (blo w.heap.size) B n cb tb) (hn:n≤100) (hr:∀ r ∈ tb,r.length≤100) :
  Calls Tryz.prog 27 #[.pointer (some ⟨g,0,none⟩)] w fun e w'=>e=.returned (.int .i64 (lens tb:Nat))∧Below w.heap.size w w':=by
 have TB:=zH (fun w hb ht=>netTable_any g cs B n cb tb w hb h5 ht hn hr)
 have HT:=zH (Old.now ht)
 have BK:=zH hb
 have HR:=zH hr
 have LB:=zH (lens_le hr)
 have TN:=zH ht.n_eq
 clear hb h5 ht hr
 go_enter Tryz.func27,Tryz.ntmps27
 go_wp2_with fail
 refine (TB.out _ BK.out HT.out.out).mono ?_
 rintro e w2 ⟨A,m,c,rfl,q,hb⟩
 have HQ:=zH (Old.now q.old)
 have MM:=q.n_eq
 have G2:=zH hb
 obtain rfl:m=n:=by rw [← MM,TN.out]
 clear hb q MM TB
 go_wp2_with fail
 go_loopw [3,9] (fun mn i wr=>∃ k:Nat,k≤m∧i=.int .i64 k∧mn=.int .i64 (lens (tb.take k):Nat)∧Below w2.heap.size w2 wr) (fun _ i _=>m - (intOf i).toNat)
 case atStart=>exact ⟨0,Nat.zero_le _,rfl,rfl,Below.refl _ _⟩
 case round =>
  obtain ⟨k,hk,rfl,rfl,hbr⟩:=hrel
  have GR:=zH hbr
  clear hbr
  by_cases hlt:k < m
  ·have p1:(k:Int) < (m:Int):=by omega
   have gk:IntKind.i64.wrap ((k:Int)+1)=((k+1:Nat):Int):=(IntWalk.i64_in _ (by omega)).trans (by simp)
   obtain ⟨r,gr,off,v,hx,hA,hgr,-,hr,hc⟩:=(HQ.out.fut GR.out).out.cell1 rfl k hlt
   obtain ⟨A',c',e,hs⟩:=tSlice_iff.1 hr
   simp only [List.cons.injEq,and_true] at e
   subst e hA
   have LN:=zH (lens_next hx)
   have l1:=LB.out k
   have l2:=HR.out r (List.mem_of_getElem? hx)
   have gs:IntKind.i64.wrap ((lens (tb.take k):Int)+(r.length:Int))=((lens (tb.take (k+1)):Nat):Int):=(IntWalk.i64_in _ (by have:=Nat.mul_le_mul_right 100 hk;omega)).trans (by rw [LN.out];simp)
   clear hr hs hgr hx
   go_wp2_with fail
   exact ⟨⟨k+1,by omega,by go_num,rfl,GR.out⟩,by simp [intOf];omega⟩
  ·obtain rfl:m=k:=by omega
   have p1:¬ (m:Int) < (m:Int):=by omega
   have TT:=zH (show tb.take m=tb from List.take_of_length_le (by rw [TN.out];exact Nat.le_refl _))
   go_wp2_with fail
   go_ret
   exact ⟨by rw [TT.out] <;> rfl,below_later GR.out G2.out⟩
theorem lens_tab (u:Bun):lens (tableC u)=lens u.models:=by
 unfold lens tableC
 rw [List.map_map]
 congr 1
 exact List.map_congr_left fun m _=>rowC_len m _ _
theorem rsteps36_any (u:Bun) (A:Option Addr) (n cap:Nat) (w:World) (hu:Sl tModel w (blo w.heap.size) A n cap u.models) (hf:fewU u) :
  Calls Tryz.prog 10 #[.agg #[.int .i64 u.h,.int .i64 u.v,.int .i64 u.c,.int .i64 u.cl,.slice A n cap]] w fun e w'=>e=.returned (.int .i64 (lens u.models:Nat))∧Below w.heap.size w w':=by
 have HU:=zH (Old.now hu)
 have LU:=zH hu.n_eq
 have LB:=zH (lens_le (l:=u.models) (c:=8) fun r hr=>(hf.2 r hr).1)
 have FU:=zH (fun r hr=>(hf.2 r hr).1)
 have n4:n≤4:=by have:=hf.1;rw [hu.n_eq] at this;exact this
 have H:=zH (Far.refl w)
 obtain ⟨w1,hw_w1,B1,k1⟩:=nB w #[.int .i64 u.h,.int .i64 u.v,.int .i64 u.c,.int .i64 u.cl,.slice A n cap] 26
 replace H:=zN k1 H B1
 clear B1 k1 hu hf
 have cA:=fun i=>H.out.2.cell i
 go_enter Tryz.func10,Tryz.ntmps10
 go_wp2_with fail
 clear cA hw_w1
 go_loopw [3,4] (fun mn i wr=>∃ k:Nat,k≤n∧i=.int .i64 k∧mn=.int .i64 (lens (u.models.take k):Nat)∧Below w1.heap.size w1 wr) (fun _ i _=>n - (intOf i).toNat)
 case atStart=>exact ⟨0,Nat.zero_le _,rfl,rfl,Below.refl _ _⟩
 case round =>
  obtain ⟨k,hk,rfl,rfl,hbr⟩:=hrel
  have GR:=zH hbr
  replace H:=zF hbr H
  have cA:=fun i=>H.out.2.cell i
  clear hbr
  by_cases hlt:k < n
  ·have p1:(k:Int) < (n:Int):=by omega
   have gk:IntKind.i64.wrap ((k:Int)+1)=((k+1:Nat):Int):=(IntWalk.i64_in _ (by omega)).trans (by simp)
   obtain ⟨m,ga,oa,A',n',c',hm,rfl,hga,hca,hA⟩:=(HU.out.fut H.out.1.out).out.model_at k hlt
   have LN:=zH (lens_next hm)
   have l1:=LB.out k
   have l2:=FU.out m (List.mem_of_getElem? hm)
   have l3:=hA.n_eq
   rw [l3] at l2
   have gs:IntKind.i64.wrap ((lens (u.models.take k):Int)+(n':Int))=((lens (u.models.take (k+1)):Nat):Int):=(IntWalk.i64_in _ (by have:=Nat.mul_le_mul_right 8 hk;omega)).trans (by rw [LN.out,l3];simp)
   clear hga hA hm l3
   go_wp2_with fail
   exact ⟨⟨k+1,by omega,by go_num,rfl,GR.out⟩,by simp [intOf];omega⟩
  ·obtain rfl:n=k:=by omega
   have p1:¬ (n:Int) < (n:Int):=by omega
   have TT:=zH (show u.models.take n=u.models from List.take_of_length_le (by rw [LU.out];exact Nat.le_refl _))
   go_wp2_with fail
   go_ret
   exact ⟨by rw [TT.out] <;> rfl,H.out.1.out⟩
def RetFew (u:Bun) (w:World) (e:Ending) (w':World):Prop:=∃ b:Bool,e=.returned (.bool b)∧(b=true → fewU u)∧Below w.heap.size w w'
theorem few31_any (u:Bun) (A:Option Addr) (n cap:Nat) (w:World) (hu:Sl tModel w (blo w.heap.size) A n cap u.models) :
  Calls Tryz.prog 4 #[.agg #[.int .i64 u.h,.int .i64 u.v,.int .i64 u.c,.int .i64 u.cl,.slice A n cap]] w (RetFew u w):=by
 have HU:=zH (Old.now hu)
 have LU:=zH hu.n_eq
 have F27:=zH (fun L m cm l w h=>few27_any L m cm l 0 0 0 none 0 0 w h)
 have n9:n≤9223372036854775807:=Nat.le_trans hu.cap_le hu.max_le
 have H:=zH (Far.refl w)
 obtain ⟨w1,hw_w1,B1,k1⟩:=nB w #[.int .i64 u.h,.int .i64 u.v,.int .i64 u.c,.int .i64 u.cl,.slice A n cap] 26
 replace H:=zN k1 H B1
 clear B1 k1 hu
 have cA:=fun i=>H.out.2.cell i
 by_cases c1:4 < n
 ·have t1:decide (4 < (n:Int))=true:=by simp;omega
  go_enter Tryz.func4,Tryz.ntmps4
  go_wp2_with fail
  go_ret
  exact ⟨false,rfl,(fun h=>by cases h),H.out.1.out⟩
 have t1:decide (4 < (n:Int))=false:=by simp;omega
 go_enter Tryz.func4,Tryz.ntmps4
 go_wp2_with fail
 clear cA hw_w1 t1
 go_loopw [3] (fun i wr=>∃ k:Nat,k≤n∧i=.int .i64 k∧(∀ j m,j < k → u.models[j]?=some m → m.length≤8∧∀ b ∈ m,fewB b)∧Below w1.heap.size w1 wr) (fun i _=>n - (intOf i).toNat)
 case atStart=>exact ⟨0,Nat.zero_le _,rfl,fun j m hj=>absurd hj (Nat.not_lt_zero _),Below.refl _ _⟩
 case round =>
  obtain ⟨k,hk,rfl,hq,hbr⟩:=hrel
  obtain ⟨wo,hwo⟩:∃ x,x=wr:=⟨_,rfl⟩
  subst hwo
  have GR:=zH hbr
  have HQ:=zH hq
  replace H:=zF hbr H
  have cA:=fun i=>H.out.2.cell i
  clear hbr hq
  by_cases hlt:k < n
  ·have p1:(k:Int) < (n:Int):=by omega
   have gk:IntKind.i64.wrap ((k:Int)+1)=((k+1:Nat):Int):=(IntWalk.i64_in _ (by omega)).trans (by simp)
   obtain ⟨m,ga,oa,A',n',c',hm,rfl,hga,hca,hA⟩:=(HU.out.fut H.out.1.out).out.model_at k hlt
   have HM:=zH hm
   have LM:=zH hA.n_eq
   have n8:n'≤9223372036854775807:=Nat.le_trans hA.cap_le hA.max_le
   have HA:=zH (show Old w tBlk wo A' n' c' m from ⟨hA,H.out.1.size⟩)
   clear hm hga hA
   by_cases c2:8 < n'
   ·have t2:decide (8 < (n':Int))=true:=by simp;omega
    go_wp2_with fail
    go_ret
    exact ⟨false,rfl,(fun h=>by cases h),H.out.1.out⟩
   have t2:decide (8 < (n':Int))=false:=by simp;omega
   go_wp2_with fail
   clear cA hca t2
   go_loopw [5] (fun i wr=>∃ q:Nat,q≤n'∧i=.int .i64 q∧(∀ j b,j < q → m[j]?=some b → fewB b)∧Below wo.heap.size wo wr) (fun i _=>n' - (intOf i).toNat)
   case atStart=>exact ⟨0,Nat.zero_le _,rfl,fun j m hj=>absurd hj (Nat.not_lt_zero _),Below.refl _ _⟩
   case round =>
    obtain ⟨q,hq,rfl,hb2,hbi⟩:=hrel
    obtain ⟨wi,hwi⟩:∃ x,x=wr:=⟨_,rfl⟩
    subst hwi
    have GI:=zH hbi
    have HB:=zH hb2
    replace H:=zF hbi H
    replace HA:=zF hbi HA
    clear hbi hb2
    by_cases hlq:q < n'
    ·have p2:(q:Int) < (n':Int):=by omega
     have gq:IntKind.i64.wrap ((q:Int)+1)=((q+1:Nat):Int):=(IntWalk.i64_in _ (by omega)).trans (by simp)
     obtain ⟨b,g,off,L,nl,cl,W,nw,cw,B,nb,cb,hb,rfl,hgb,rg,hat⟩:=HA.out.out.blk_at q hlq
     have BM:=zH hb
     have l2:=hat.hw.n_eq
     have l3:=hat.hb.n_eq
     have m2:=Nat.le_trans hat.hw.cap_le hat.hw.max_le
     have m3:=Nat.le_trans hat.hb.cap_le hat.hb.max_le
     have HN:=zH (show Sl tNode wi (blo wi.heap.size) L nl cl b.nodes from hat.nodes.more fun x hx=>Nat.lt_of_lt_of_le (show x < w.heap.size from hx) HA.out.le)
     have RG:=zH rg
     have c0:wi.cell? ⟨g,off+q*5,none⟩=some (.slice L nl cl):=rg 0 _ rfl
     have HX:=zH (Far.refl wi)
     clear hb hgb rg hat
     go_wp2_with fail
     refine (F27.out L nl cl b.nodes _ HN.out).mono ?_
     rintro e w4 ⟨f,rfl,hf,hb4⟩
     replace H:=zF hb4 H
     replace HX:=zF hb4 HX
     have FB:=zH hf
     have c2:=(rangeF RG.out hb4) 2 _ rfl
     have c3:=(rangeF RG.out hb4) 3 _ rfl
     clear hb4 hf c0
     cases f with
     | false =>
      clear c2 c3
      go_wp2_with fail
      go_ret
      exact ⟨false,rfl,(fun h=>by cases h),H.out.1.out⟩
     | true =>
     by_cases g2:4000 < nw
     ·have t3:decide (4000 < (nw:Int))=true:=by simp;omega
      go_wp2_with fail
      go_ret
      exact ⟨false,rfl,(fun h=>by cases h),H.out.1.out⟩
     have t3:decide (4000 < (nw:Int))=false:=by simp;omega
     by_cases g3:100 < nb
     ·have t4:decide (100 < (nb:Int))=true:=by simp;omega
      go_wp2_with fail
      go_ret
      exact ⟨false,rfl,(fun h=>by cases h),H.out.1.out⟩
     have t4:decide (100 < (nb:Int))=false:=by simp;omega
     have Q:=zH (show fewB b from ⟨(FB.out rfl).1,by omega,by omega⟩)
     clear l2 l3
     go_wp2_with fail
     refine ⟨⟨q+1,by omega,by go_num,fun j d' hj hd'=>?_,below_later HX.out.out GI.out⟩,by simp [intOf];omega⟩
     by_cases hjk:j < q
     ·exact HB.out j d' hjk hd'
     ·obtain rfl:j=q:=by omega
      rw [BM.out] at hd'
      cases hd'
      exact Q.out
    ·obtain rfl:n'=q:=by omega
     have p2:¬ (n':Int) < (n':Int):=by omega
     have Q:=zH (show m.length≤8∧∀ b ∈ m,fewB b from ⟨by rw [LM.out];omega,fun b hb=>by
      obtain ⟨j,hj⟩:=List.getElem?_of_mem hb
      exact HB.out j b (by have:=(List.getElem?_eq_some_iff.1 hj).1;rw [LM.out] at this;exact this) hj⟩)
     go_wp2_with fail
     refine ⟨⟨k+1,by omega,by go_num,fun j m' hj hm'=>?_,below_later GI.out GR.out⟩,by simp [intOf];omega⟩
     by_cases hjk:j < k
     ·exact HQ.out j m' hjk hm'
     ·obtain rfl:j=k:=by omega
      rw [HM.out] at hm'
      cases hm'
      exact Q.out
  ·obtain rfl:n=k:=by omega
   have p1:¬ (n:Int) < (n:Int):=by omega
   have FN:=zH (show fewU u from ⟨by rw [LU.out];omega,fun d hd=>by
    obtain ⟨j,hj⟩:=List.getElem?_of_mem hd
    exact HQ.out j d (by have:=(List.getElem?_eq_some_iff.1 hj).1;rw [LU.out] at this;exact this) hj⟩)
   go_wp2_with fail
   go_ret
   exact ⟨true,rfl,fun _=>FN.out,H.out.1.out⟩
theorem statsNil_any (w:World) :
  Calls Tryz.prog 36 #[.pointer none] w fun e w'=>e=.returned (.agg #[.int .i64 0,.int .i64 0,.int .i64 0,.int .i64 0,.int .i64 0,.int .i64 0,.int .i64 0,.int .i64 0,.int .i64 0,.int .i64 0,.int .i64 0,.int .i64 0,.int .i64 0])∧Below w.heap.size w w':=by
 go_enter Tryz.func36,Tryz.ntmps36
 go_wp2_with (refine sB 111 (.tmp 2) (.tmp 6) w.heap.size #[.int .i64 0,.int .i64 0,.int .i64 0,.int .i64 0,.int .i64 0,.int .i64 0,.int .i64 0,.int .i64 0,.int .i64 0,.int .i64 0,.int .i64 0,.int .i64 0,.int .i64 0] (Blk.now _ _ _ _ (by simp)) ?_;intro w1 B1 g1)
 refine ret_cell rfl B1 rfl Tryz.underlying111 (by kernel_rfl) rfl ?_
 exact ⟨rfl,((Below.refl _ _).alloc (Nat.le_refl _) _).grown g1 (by simp) (fun k h=>by cases h;exact Nat.le_refl _)⟩
def accCells (b g:Int):Array Value:=#[.int .i64 9,.int .i64 0,.int .i64 0,.int .i64 b,.int .i64 g,.int .i64 0]
theorem accNew_any (w:World) :
  Calls Tryz.prog 32 (sN 9 0 0) w fun e w'=>e=.returned (.tuple #[.pointer (some ⟨w.heap.size,0,none⟩),.int .i64 0])∧Blk w' w.heap.size 150 (accCells 0 0)∧Below w.heap.size w w':=by
 go_enter Tryz.func32,Tryz.ntmps32
 go_wp2_with fail
 go_ret2
 exact ⟨rfl,Blk.now _ _ _ _ rfl,(Below.refl _ _).alloc (Nat.le_refl _) _⟩
theorem accGranted_any (g:Nat) (b c:Int) (w:World) (h:Blk w g 150 (accCells b c)) :
  Calls Tryz.prog 59 #[.pointer (some ⟨g,0,none⟩)] w fun e w'=>e=.returned (.int .i64 c)∧w=w':=by
 have c4:w.cell? ⟨g,4,none⟩=some (.int .i64 c):=h.cell 4
 clear h
 go_enter Tryz.func59,Tryz.ntmps59
 go_wp2_with fail
 go_ret
 exact ⟨rfl,rfl⟩
theorem accSpent_any (g:Nat) (b c:Int) (w:World) (h:Blk w g 150 (accCells b c)) :
  Calls Tryz.prog 60 #[.pointer (some ⟨g,0,none⟩)] w fun e w'=>e=.returned (.int .i64 0)∧w=w':=by
 have c4:w.cell? ⟨g,5,none⟩=some (.int .i64 0):=h.cell 5
 clear h
 go_enter Tryz.func60,Tryz.ntmps60
 go_wp2_with fail
 go_ret
 exact ⟨rfl,rfl⟩
theorem accBalance_any (g:Nat) (b c:Int) (w:World) (h:Blk w g 150 (accCells b c)) :
  Calls Tryz.prog 61 #[.pointer (some ⟨g,0,none⟩)] w fun e w'=>e=.returned (.int .i64 b)∧w=w':=by
 have c4:w.cell? ⟨g,3,none⟩=some (.int .i64 b):=h.cell 3
 clear h
 go_enter Tryz.func61,Tryz.ntmps61
 go_wp2_with fail
 go_ret
 exact ⟨rfl,rfl⟩
structure LineNone (w:World) (g:Nat):Prop where
 many:w.cell? ⟨g,65,none⟩=some (.int .i64 0)
theorem lineNew_any (w:World) :
  Calls Tryz.prog 33 #[.int .i64 1] w fun e w'=>e=.returned (.tuple #[.pointer (some ⟨w.heap.size,0,none⟩),.int .i64 0])∧LineNone w' w.heap.size∧w.heap.size < w'.heap.size∧Below w.heap.size w w':=by
 go_enter Tryz.func33,Tryz.ntmps33
 go_wp2_with fail
 go_ret2
 exact ⟨rfl,⟨by simp [go_sem];kernel_rfl⟩,by simp,(Below.refl _ _).alloc (Nat.le_refl _) _⟩
def engCells (ga gl gr gs:Nat) (t:Int):Array Value :=
 #[.pointer (some ⟨ga,0,none⟩),.pointer (some ⟨gl,0,none⟩),.pointer (some ⟨gr,0,none⟩),.pointer (some ⟨gs,0,none⟩),.pointer none,.int .i64 0,.int .i64 0,.int .i64 0,.int .i64 9,.int .i64 t,.int .i64 0,.int .i64 0,.int .i64 0,.int .i64 0,.int .i64 0,.int .i64 0]
structure EngAt (w:World) (ge ga gl gr gs gm:Nat) (b g t:Int):Prop where
 eng:Blk w ge 109 (engCells ga gl gr gs t)
 acc:Blk w ga 150 (accCells b g)
 line:LineNone w gl
 ring:RingAt w gr [] [] 1
 store:StoreAt w gs gm 4096 []
 al:ga < gl
 lr:gl < gr
 rm:gr < gm
 ms:gm < gs
 se:gs < ge
theorem LineNone.later {w w':World} {g:Nat} (h:LineNone w g) (hb:Below w.heap.size w w'):LineNone w' g:=⟨cell_later hb h.many⟩
theorem EngAt.later {w w':World} {ge ga gl gr gs gm:Nat} {b g t:Int} (h:EngAt w ge ga gl gr gs gm b g t) (hb:Below w.heap.size w w'):EngAt w' ge ga gl gr gs gm b g t :=
 ⟨h.eng.later hb,h.acc.later hb,h.line.later hb,h.ring.later hb,h.store.later hb,h.al,h.lr,h.rm,h.ms,h.se⟩
theorem engNew_any (w:World) :
  Calls Tryz.prog 16 #[.agg #[.int .i64 9,.int .i64 0,.int .i64 0,.int .i64 1,.int .i64 1]] w fun e w'=>∃ ge ga gl gr gs gm,e=.returned (.tuple #[.pointer (some ⟨ge,0,none⟩),.int .i64 0])∧EngAt w' ge ga gl gr gs gm 0 0 0∧w.heap.size≤ga∧Below w.heap.size w w':=by
 have FR:=zH (Far.refl w)
 obtain ⟨w1,hw_w1,BC,k_w1⟩:=nB w #[.int .i64 9,.int .i64 0,.int .i64 0,.int .i64 1,.int .i64 1] 28
 replace FR:=zH (FR.out.fut k_w1)
 clear k_w1
 have l1:w.heap.size < w1.heap.size:=by rw [← hw_w1];simp
 have c0:=BC.out.cell 0
 have c1:=BC.out.cell 1
 have c2:=BC.out.cell 2
 go_enter Tryz.func16,Tryz.ntmps16
 go_wp2_with fail
 refine (accNew_any _).mono ?_
 rintro e w2 ⟨rfl,BA,b2⟩
 have k2:=BA.lt
 replace BA:=zH BA
 replace FR:=zH (FR.out.fut b2)
 replace BC:=zH (BC.out.fut b2)
 clear b2
 have c3:=BC.out.cell 3
 go_wp2_with fail
 refine (lineNew_any _).mono ?_
 rintro e w3 ⟨rfl,LN,k3,b3⟩
 replace LN:=zH LN
 replace FR:=zH (FR.out.fut b3)
 replace BC:=zH (BC.out.fut b3)
 replace BA:=zH (BA.out.fut b3)
 clear b3
 have c4:=BC.out.cell 4
 go_wp2_with fail
 refine (ringNew_any 1 _ (by omega) (by omega)).mono ?_
 rintro e w4 ⟨rfl,RN,b4⟩
 have k4:w3.heap.size < w4.heap.size:=by obtain ⟨_,_,_,_,_,_,h,_,_⟩:=RN.out;exact h.lt
 replace RN:=zH RN
 replace LN:=zH (LN.out.later b4)
 replace FR:=zH (FR.out.fut b4)
 replace BC:=zH (BC.out.fut b4)
 replace BA:=zH (BA.out.fut b4)
 clear b4
 go_wp2_with fail
 refine (storeNew_good 4096 _ (by omega) (by omega)).mono ?_
 rintro e w5 ⟨rfl,SN,b5⟩
 have k5:w4.heap.size+1 < w5.heap.size:=by obtain ⟨_,_,h⟩:=SN.out;exact h.blk.lt
 replace SN:=zH SN
 replace LN:=zH (LN.out.later b5)
 replace RN:=zH (RN.out.later b5)
 replace FR:=zH (FR.out.fut b5)
 replace BC:=zH (BC.out.fut b5)
 replace BA:=zH (BA.out.fut b5)
 clear b5
 have c0:=BC.out.cell 0
 have c2:=BC.out.cell 2
 go_wp2_with fail
 go_ret2
 have K:Below w5.heap.size w5 (w5.alloc (.cells (engCells w1.heap.size w2.heap.size w3.heap.size (w4.heap.size+1) 0) 109)):=(Below.refl _ _).alloc (Nat.le_refl _) _
 exact ⟨w5.heap.size,w1.heap.size,w2.heap.size,w3.heap.size,w4.heap.size+1,w4.heap.size,rfl,⟨Blk.now _ _ _ _ rfl,BA.out.later K,LN.out.later K,RN.out.later K,SN.out.later K,k2,k3,k4,by omega,by omega⟩,by omega,below_call FR.out.out K FR.out.out.size⟩
set_option maxHeartbeats 8000000
def statCells (a b c d e f g h i j k l m:Int):Array Value:=#[.int .i64 a,.int .i64 b,.int .i64 c,.int .i64 d,.int .i64 e,.int .i64 f,.int .i64 g,.int .i64 h,.int .i64 i,.int .i64 j,.int .i64 k,.int .i64 l,.int .i64 m]
theorem count00 (g b:Nat) (st:Int) (w:World) (h:StoreAt w g b 4096 []):Calls Tryz.prog 62 #[.pointer (some ⟨g,0,none⟩),.int .i64 st] w fun e w'=>e=.returned (.int .i64 0)∧Below w.heap.size w w' :=
 storeCount_any g b 4096 [] st w h (by simp)
theorem stats0_any (ge ga gl gr gs gm:Nat) (w:World) (h:EngAt w ge ga gl gr gs gm 0 0 0) :
  Calls Tryz.prog 36 #[.pointer (some ⟨ge,0,none⟩)] w fun e w'=>e=.returned (.agg (statCells 0 0 0 0 0 0 0 0 0 0 0 0 0))∧Below w.heap.size w w':=by
 have H:=zH h
 clear h
 have FR:=zH (Far.refl w)
 obtain ⟨w1,hw_w1,BR,k_w1⟩:=nB w #[.int .i64 0,.int .i64 0,.int .i64 0,.int .i64 0,.int .i64 0,.int .i64 0,.int .i64 0,.int .i64 0,.int .i64 0,.int .i64 0,.int .i64 0,.int .i64 0,.int .i64 0] 111
 replace FR:=zH (FR.out.fut k_w1)
 clear k_w1
 replace H:=zH (H.out.later (show Below w.heap.size w w1 by rw [← hw_w1];exact (Below.refl _ _).alloc (Nat.le_refl _) _))
 have l1:w.heap.size < w1.heap.size:=by rw [← hw_w1];simp
 go_enter Tryz.func36,Tryz.ntmps36
 go_wp2_with fail
 clear hw_w1
 have GD:=zH (accGranted_any ga _ _ w1.drew (H.out.later (Below.refl _ _).drew).acc)
 have GS:=zH (accSpent_any ga _ _ w1.drew (H.out.later (Below.refl _ _).drew).acc)
 have GB:=zH (accBalance_any ga _ _ w1.drew (H.out.later (Below.refl _ _).drew).acc)
 go_cut [3] (fun b wx=>∃ K,b=.pointer (some ⟨K,0,none⟩)∧Blk wx K 111 (statCells 0 0 0 0 0 0 0 0 0 0 0 0 0)∧Below w1.heap.size w1 wx∧w1.heap.size≤K)
 case first =>
  have HD:=zH (H.out.later (Below.refl _ _).drew)
  refine wp_region_held_drew (S:=fun w'=>w'.cell? ⟨ge,0,none⟩=some (.pointer (some ⟨ga,0,none⟩))∧w'.cell? ⟨ge,9,none⟩=some (.int .i64 0)∧True) (by kernel_rfl) ?_ (fun hS=>?_)
  ·exact ⟨HD.out.eng.cell 0,HD.out.eng.cell 9,trivial⟩
  refine kH 0 rfl hS ?_
  try simp only [pX]
  refine kH 1 rfl hS ?_
  try simp only [pX]
  refine kH 2 rfl hS ?_
  try simp only [pX]
  refine kH 3 rfl hS ?_
  try simp only [pX]
  refine kH 4 rfl hS ?_
  try simp only [pX]
  refine kH 5 rfl hS ?_
  try simp only [pX]
  refine kH 6 rfl hS ?_
  try simp only [pX]
  refine kH 7 rfl hS ?_
  try simp only [pX]
  refine kH 9 rfl hS ?_
  try simp only [pX]
  refine kH 10 rfl hS ?_
  try simp only [pX]
  refine kH 11 rfl hS ?_
  try simp only [pX]
  refine kH 12 rfl hS ?_
  try simp only [pX]
  refine kH 14 rfl hS ?_
  try simp only [pX]
  refine kH 15 rfl hS ?_
  try simp only [pX]
  refine kH 16 rfl hS ?_
  try simp only [pX]
  refine kH 17 rfl hS ?_
  try simp only [pX]
  refine wpAnyH_ready (rs:=[8,20]) (by kernel_rfl) (by simp) ?_
  refine AllReadyH.cons rfl (fun K hK=>?_) (AllReadyH.cons rfl (fun K hK=>?_) AllReadyH.nil)
  ·go_simp
   refine (accGranted_any _ _ _ _ HD.out.acc).mono ?_;rintro e _ ⟨rfl,rfl⟩;refine hK.out _ _ hS (fun hS=>?_)
   clear hK K
   try simp only [pX]
   refine wpAnyH_ready (rs:=[13,20]) (by kernel_rfl) (by simp) ?_
   refine AllReadyH.cons rfl (fun K hK=>?_) (AllReadyH.cons rfl (fun K hK=>?_) AllReadyH.nil)
   ·go_simp
    refine (accSpent_any _ _ _ _ HD.out.acc).mono ?_;rintro e _ ⟨rfl,rfl⟩;refine hK.out _ _ hS (fun hS=>?_)
    clear hK K
    try simp only [pX]
    refine wpAnyH_ready (rs:=[18,20]) (by kernel_rfl) (by simp) ?_
    refine AllReadyH.cons rfl (fun K hK=>?_) (AllReadyH.cons rfl (fun K hK=>?_) AllReadyH.nil)
    ·go_simp
     refine (accBalance_any _ _ _ _ HD.out.acc).mono ?_;rintro e _ ⟨rfl,rfl⟩;refine hK.out _ _ hS (fun hS=>?_)
     clear hK K
     try simp only [pX]
     refine kH 19 rfl hS ?_
     try simp only [pX]
     refine rH 20 rfl (fun K hK=>?_)
     go_simp
     have BZ:=zH (Blk.now w1.drew w1.heap.size 111 #[.int .i64 0,.int .i64 0,.int .i64 0,.int .i64 0,.int .i64 0,.int .i64 0,.int .i64 0,.int .i64 0,.int .i64 0,.int .i64 0,.int .i64 0,.int .i64 0,.int .i64 0] rfl)
     have KZ:=zH (show Below w1.heap.size w1 (w1.drew.alloc (.cells #[.int .i64 0,.int .i64 0,.int .i64 0,.int .i64 0,.int .i64 0,.int .i64 0,.int .i64 0,.int .i64 0,.int .i64 0,.int .i64 0,.int .i64 0,.int .i64 0,.int .i64 0] 111)) from (Below.refl _ _).drew.alloc (Nat.le_refl _) _)
     have HZ:=zH (H.out.later KZ.out)
     refine hK.out _ _ ⟨HZ.out.eng.cell 0,HZ.out.eng.cell 9,trivial⟩ (fun hS=>?_)
     clear hK K
     try simp only [pX]
     refine rH 21 rfl (fun K hK=>?_)
     rw [if_pos (by rfl)];refine oper_store_blk 111 (.tmp 3) (.tmp 26) rfl w1.heap.size 0 (statCells 0 0 0 0 0 0 0 0 0 0 0 0 0) rfl rfl _ #[.int .i64 0,.int .i64 0,.int .i64 0,.int .i64 0,.int .i64 0,.int .i64 0,.int .i64 0,.int .i64 0,.int .i64 0,.int .i64 0,.int .i64 0,.int .i64 0,.int .i64 0] (statCells 0 0 0 0 0 0 0 0 0 0 0 0 0) BZ.out (by simp [statCells]) (by kernel_rfl) (by simp [statCells,Value.oneCell']) rfl ?_;intro wz BX gz
     have bz:Below w1.heap.size w1 wz:=KZ.out.grown gz KZ.out.size (fun k h=>by cases h;exact Nat.le_refl _)
     refine hK.out _ _ ⟨H.out.eng.later bz |>.cell 0,H.out.eng.later bz |>.cell 9,trivial⟩ (fun hS=>?_)
     clear hK K gz
     try simp only [pX]
     refine wpAnyH_done (by kernel_rfl) ?_ _
     go_wp2_with fail
     go_meet
     case rel=>exact ⟨_,rfl,BX,bz,Nat.le_refl _⟩
    ·go_simp
     have BZ:=zH (Blk.now w1.drew w1.heap.size 111 #[.int .i64 0,.int .i64 0,.int .i64 0,.int .i64 0,.int .i64 0,.int .i64 0,.int .i64 0,.int .i64 0,.int .i64 0,.int .i64 0,.int .i64 0,.int .i64 0,.int .i64 0] rfl)
     have KZ:=zH (show Below w1.heap.size w1 (w1.drew.alloc (.cells #[.int .i64 0,.int .i64 0,.int .i64 0,.int .i64 0,.int .i64 0,.int .i64 0,.int .i64 0,.int .i64 0,.int .i64 0,.int .i64 0,.int .i64 0,.int .i64 0,.int .i64 0] 111)) from (Below.refl _ _).drew.alloc (Nat.le_refl _) _)
     have HZ:=zH (H.out.later KZ.out)
     refine hK.out _ _ ⟨HZ.out.eng.cell 0,HZ.out.eng.cell 9,trivial⟩ (fun hS=>?_)
     clear hK K
     try simp only [pX]
     refine rH 18 rfl (fun K hK=>?_)
     go_simp
     refine (accBalance_any _ _ _ _ HZ.out.acc).mono ?_;rintro e _ ⟨rfl,rfl⟩;refine hK.out _ _ hS (fun hS=>?_)
     clear hK K
     try simp only [pX]
     refine kH 19 rfl hS ?_
     try simp only [pX]
     refine rH 21 rfl (fun K hK=>?_)
     rw [if_pos (by rfl)];refine oper_store_blk 111 (.tmp 3) (.tmp 26) rfl w1.heap.size 0 (statCells 0 0 0 0 0 0 0 0 0 0 0 0 0) rfl rfl _ #[.int .i64 0,.int .i64 0,.int .i64 0,.int .i64 0,.int .i64 0,.int .i64 0,.int .i64 0,.int .i64 0,.int .i64 0,.int .i64 0,.int .i64 0,.int .i64 0,.int .i64 0] (statCells 0 0 0 0 0 0 0 0 0 0 0 0 0) BZ.out (by simp [statCells]) (by kernel_rfl) (by simp [statCells,Value.oneCell']) rfl ?_;intro wz BX gz
     have bz:Below w1.heap.size w1 wz:=KZ.out.grown gz KZ.out.size (fun k h=>by cases h;exact Nat.le_refl _)
     refine hK.out _ _ ⟨H.out.eng.later bz |>.cell 0,H.out.eng.later bz |>.cell 9,trivial⟩ (fun hS=>?_)
     clear hK K gz
     try simp only [pX]
     refine wpAnyH_done (by kernel_rfl) ?_ _
     go_wp2_with fail
     go_meet
     case rel=>exact ⟨_,rfl,BX,bz,Nat.le_refl _⟩
   ·go_simp
    have BZ:=zH (Blk.now w1.drew w1.heap.size 111 #[.int .i64 0,.int .i64 0,.int .i64 0,.int .i64 0,.int .i64 0,.int .i64 0,.int .i64 0,.int .i64 0,.int .i64 0,.int .i64 0,.int .i64 0,.int .i64 0,.int .i64 0] rfl)
    have KZ:=zH (show Below w1.heap.size w1 (w1.drew.alloc (.cells #[.int .i64 0,.int .i64 0,.int .i64 0,.int .i64 0,.int .i64 0,.int .i64 0,.int .i64 0,.int .i64 0,.int .i64 0,.int .i64 0,.int .i64 0,.int .i64 0,.int .i64 0] 111)) from (Below.refl _ _).drew.alloc (Nat.le_refl _) _)
    have HZ:=zH (H.out.later KZ.out)
    refine hK.out _ _ ⟨HZ.out.eng.cell 0,HZ.out.eng.cell 9,trivial⟩ (fun hS=>?_)
    clear hK K
    try simp only [pX]
    refine rH 13 rfl (fun K hK=>?_)
    go_simp
    refine (accSpent_any _ _ _ _ HZ.out.acc).mono ?_;rintro e _ ⟨rfl,rfl⟩;refine hK.out _ _ hS (fun hS=>?_)
    clear hK K
    try simp only [pX]
    refine rH 18 rfl (fun K hK=>?_)
    go_simp
    refine (accBalance_any _ _ _ _ HZ.out.acc).mono ?_;rintro e _ ⟨rfl,rfl⟩;refine hK.out _ _ hS (fun hS=>?_)
    clear hK K
    try simp only [pX]
    refine kH 19 rfl hS ?_
    try simp only [pX]
    refine rH 21 rfl (fun K hK=>?_)
    rw [if_pos (by rfl)];refine oper_store_blk 111 (.tmp 3) (.tmp 26) rfl w1.heap.size 0 (statCells 0 0 0 0 0 0 0 0 0 0 0 0 0) rfl rfl _ #[.int .i64 0,.int .i64 0,.int .i64 0,.int .i64 0,.int .i64 0,.int .i64 0,.int .i64 0,.int .i64 0,.int .i64 0,.int .i64 0,.int .i64 0,.int .i64 0,.int .i64 0] (statCells 0 0 0 0 0 0 0 0 0 0 0 0 0) BZ.out (by simp [statCells]) (by kernel_rfl) (by simp [statCells,Value.oneCell']) rfl ?_;intro wz BX gz
    have bz:Below w1.heap.size w1 wz:=KZ.out.grown gz KZ.out.size (fun k h=>by cases h;exact Nat.le_refl _)
    refine hK.out _ _ ⟨H.out.eng.later bz |>.cell 0,H.out.eng.later bz |>.cell 9,trivial⟩ (fun hS=>?_)
    clear hK K gz
    try simp only [pX]
    refine wpAnyH_done (by kernel_rfl) ?_ _
    go_wp2_with fail
    go_meet
    case rel=>exact ⟨_,rfl,BX,bz,Nat.le_refl _⟩
  ·go_simp
   have BZ:=zH (Blk.now w1.drew w1.heap.size 111 #[.int .i64 0,.int .i64 0,.int .i64 0,.int .i64 0,.int .i64 0,.int .i64 0,.int .i64 0,.int .i64 0,.int .i64 0,.int .i64 0,.int .i64 0,.int .i64 0,.int .i64 0] rfl)
   have KZ:=zH (show Below w1.heap.size w1 (w1.drew.alloc (.cells #[.int .i64 0,.int .i64 0,.int .i64 0,.int .i64 0,.int .i64 0,.int .i64 0,.int .i64 0,.int .i64 0,.int .i64 0,.int .i64 0,.int .i64 0,.int .i64 0,.int .i64 0] 111)) from (Below.refl _ _).drew.alloc (Nat.le_refl _) _)
   have HZ:=zH (H.out.later KZ.out)
   refine hK.out _ _ ⟨HZ.out.eng.cell 0,HZ.out.eng.cell 9,trivial⟩ (fun hS=>?_)
   clear hK K
   try simp only [pX]
   refine rH 8 rfl (fun K hK=>?_)
   go_simp
   refine (accGranted_any _ _ _ _ HZ.out.acc).mono ?_;rintro e _ ⟨rfl,rfl⟩;refine hK.out _ _ hS (fun hS=>?_)
   clear hK K
   try simp only [pX]
   refine rH 13 rfl (fun K hK=>?_)
   go_simp
   refine (accSpent_any _ _ _ _ HZ.out.acc).mono ?_;rintro e _ ⟨rfl,rfl⟩;refine hK.out _ _ hS (fun hS=>?_)
   clear hK K
   try simp only [pX]
   refine rH 18 rfl (fun K hK=>?_)
   go_simp
   refine (accBalance_any _ _ _ _ HZ.out.acc).mono ?_;rintro e _ ⟨rfl,rfl⟩;refine hK.out _ _ hS (fun hS=>?_)
   clear hK K
   try simp only [pX]
   refine kH 19 rfl hS ?_
   try simp only [pX]
   refine rH 21 rfl (fun K hK=>?_)
   rw [if_pos (by rfl)];refine oper_store_blk 111 (.tmp 3) (.tmp 26) rfl w1.heap.size 0 (statCells 0 0 0 0 0 0 0 0 0 0 0 0 0) rfl rfl _ #[.int .i64 0,.int .i64 0,.int .i64 0,.int .i64 0,.int .i64 0,.int .i64 0,.int .i64 0,.int .i64 0,.int .i64 0,.int .i64 0,.int .i64 0,.int .i64 0,.int .i64 0] (statCells 0 0 0 0 0 0 0 0 0 0 0 0 0) BZ.out (by simp [statCells]) (by kernel_rfl) (by simp [statCells,Value.oneCell']) rfl ?_;intro wz BX gz
   have bz:Below w1.heap.size w1 wz:=KZ.out.grown gz KZ.out.size (fun k h=>by cases h;exact Nat.le_refl _)
   refine hK.out _ _ ⟨H.out.eng.later bz |>.cell 0,H.out.eng.later bz |>.cell 9,trivial⟩ (fun hS=>?_)
   clear hK K gz
   try simp only [pX]
   refine wpAnyH_done (by kernel_rfl) ?_ _
   go_wp2_with fail
   go_meet
   case rel=>exact ⟨_,rfl,BX,bz,Nat.le_refl _⟩
 case rest =>
  obtain ⟨KB,rfl,hX,hb,hKK⟩:=hcut
  have BX:=zH hX
  have W1:=zH (Far.mk hb)
  clear hX hb
  go_wp2_with fail
  refine wp_region_held_drew (S:=fun w'=>w'.cell? ⟨ge,3,none⟩=some (.pointer (some ⟨gs,0,none⟩))∧Blk w' KB 111 (statCells 0 0 0 0 0 0 0 0 0 0 0 0 0)∧Below w1.heap.size w1 w') (by kernel_rfl) ?_ (fun hS=>?_)
  ·exact ⟨(H.out.later W1.out.out.drew).eng.cell 3,BX.out.drew,W1.out.out.drew⟩
  refine kH 0 rfl hS ?_
  try simp only [pX]
  refine kH 1 rfl hS ?_
  try simp only [pX]
  refine kH 2 rfl hS ?_
  try simp only [pX]
  refine kH 3 rfl hS ?_
  try simp only [pX]
  refine kH 5 rfl hS ?_
  try simp only [pX]
  refine kH 6 rfl hS ?_
  try simp only [pX]
  refine kH 7 rfl hS ?_
  try simp only [pX]
  refine kH 8 rfl hS ?_
  try simp only [pX]
  refine rH 4 rfl (fun K hK=>?_)
  go_simp
  refine (count00 gs gm 1 _ (H.out.later hS.2.2).store).mono ?_;rintro e wa ⟨rfl,hb⟩
  refine hK.out _ _ ?_ (fun hS=>?_)
  ·exact ⟨(by first|exact cell_later hb hS.1|exact Blk.later hS.1 hb),(by first|exact cell_later hb hS.2.1|exact Blk.later hS.2.1 hb),below_later hb hS.2.2⟩
  clear hK K
  try simp only [pX]
  refine kH 10 rfl hS ?_
  try simp only [pX]
  refine rH 9 rfl (fun K hK=>?_)
  go_simp
  refine (count00 gs gm 2 _ (H.out.later hS.2.2).store).mono ?_;rintro e wa ⟨rfl,hb⟩
  refine hK.out _ _ ?_ (fun hS=>?_)
  ·exact ⟨(by first|exact cell_later hb hS.1|exact Blk.later hS.1 hb),(by first|exact cell_later hb hS.2.1|exact Blk.later hS.2.1 hb),below_later hb hS.2.2⟩
  clear hK K
  try simp only [pX]
  refine rH 11 rfl (fun K hK=>?_)
  rw [if_pos (by rfl)];refine oper_store_one 3 (.tmp 37) (.tmp 31) rfl KB 4 (.int .i64 0) rfl rfl rfl rfl 111 _ (statCells 0 0 0 0 0 0 0 0 0 0 0 0 0) hS.2.1 (by simp [statCells]) (by kernel_rfl) rfl ?_;intro wb B g;have bb:=(Far.away (Far.mk hS.2.2) g hKK).out;refine hK.out _ _ ⟨(H.out.later bb).eng.cell 3,B,bb⟩ (fun hS=>?_);clear B g bb
  clear hK K
  try simp only [pX]
  refine kH 12 rfl hS ?_
  try simp only [pX]
  refine rH 13 rfl (fun K hK=>?_)
  rw [if_pos (by rfl)];refine oper_store_one 3 (.tmp 38) (.tmp 36) rfl KB 5 (.int .i64 0) rfl rfl rfl rfl 111 _ (statCells 0 0 0 0 0 0 0 0 0 0 0 0 0) hS.2.1 (by simp [statCells]) (by kernel_rfl) rfl ?_;intro wb B g;have bb:=(Far.away (Far.mk hS.2.2) g hKK).out;refine hK.out _ _ ⟨(H.out.later bb).eng.cell 3,B,bb⟩ (fun hS=>?_);clear B g bb
  clear hK K
  try simp only [pX]
  refine wpAnyH_done (by kernel_rfl) ?_ _
  replace W1:=zH (Far.mk hS.2.2)
  replace BX:=zH hS.2.1
  clear hS
  go_wp2_with fail
  refine wp_region_held_drew (S:=fun w'=>w'.cell? ⟨ge,3,none⟩=some (.pointer (some ⟨gs,0,none⟩))∧Blk w' KB 111 (statCells 0 0 0 0 0 0 0 0 0 0 0 0 0)∧Below w1.heap.size w1 w') (by kernel_rfl) ?_ (fun hS=>?_)
  ·exact ⟨(H.out.later W1.out.out.drew).eng.cell 3,BX.out.drew,W1.out.out.drew⟩
  refine kH 0 rfl hS ?_
  try simp only [pX]
  refine kH 1 rfl hS ?_
  try simp only [pX]
  refine kH 2 rfl hS ?_
  try simp only [pX]
  refine kH 3 rfl hS ?_
  try simp only [pX]
  refine kH 5 rfl hS ?_
  try simp only [pX]
  refine kH 6 rfl hS ?_
  try simp only [pX]
  refine kH 7 rfl hS ?_
  try simp only [pX]
  refine kH 8 rfl hS ?_
  try simp only [pX]
  refine rH 4 rfl (fun K hK=>?_)
  go_simp
  refine (count00 gs gm 3 _ (H.out.later hS.2.2).store).mono ?_;rintro e wa ⟨rfl,hb⟩
  refine hK.out _ _ ?_ (fun hS=>?_)
  ·exact ⟨(by first|exact cell_later hb hS.1|exact Blk.later hS.1 hb),(by first|exact cell_later hb hS.2.1|exact Blk.later hS.2.1 hb),below_later hb hS.2.2⟩
  clear hK K
  try simp only [pX]
  refine kH 10 rfl hS ?_
  try simp only [pX]
  refine rH 9 rfl (fun K hK=>?_)
  go_simp
  refine (count00 gs gm 4 _ (H.out.later hS.2.2).store).mono ?_;rintro e wa ⟨rfl,hb⟩
  refine hK.out _ _ ?_ (fun hS=>?_)
  ·exact ⟨(by first|exact cell_later hb hS.1|exact Blk.later hS.1 hb),(by first|exact cell_later hb hS.2.1|exact Blk.later hS.2.1 hb),below_later hb hS.2.2⟩
  clear hK K
  try simp only [pX]
  refine rH 11 rfl (fun K hK=>?_)
  rw [if_pos (by rfl)];refine oper_store_one 3 (.tmp 49) (.tmp 43) rfl KB 6 (.int .i64 0) rfl rfl rfl rfl 111 _ (statCells 0 0 0 0 0 0 0 0 0 0 0 0 0) hS.2.1 (by simp [statCells]) (by kernel_rfl) rfl ?_;intro wb B g;have bb:=(Far.away (Far.mk hS.2.2) g hKK).out;refine hK.out _ _ ⟨(H.out.later bb).eng.cell 3,B,bb⟩ (fun hS=>?_);clear B g bb
  clear hK K
  try simp only [pX]
  refine kH 12 rfl hS ?_
  try simp only [pX]
  refine rH 13 rfl (fun K hK=>?_)
  rw [if_pos (by rfl)];refine oper_store_one 3 (.tmp 50) (.tmp 48) rfl KB 7 (.int .i64 0) rfl rfl rfl rfl 111 _ (statCells 0 0 0 0 0 0 0 0 0 0 0 0 0) hS.2.1 (by simp [statCells]) (by kernel_rfl) rfl ?_;intro wb B g;have bb:=(Far.away (Far.mk hS.2.2) g hKK).out;refine hK.out _ _ ⟨(H.out.later bb).eng.cell 3,B,bb⟩ (fun hS=>?_);clear B g bb
  clear hK K
  try simp only [pX]
  refine wpAnyH_done (by kernel_rfl) ?_ _
  replace W1:=zH (Far.mk hS.2.2)
  replace BX:=zH hS.2.1
  clear hS
  go_wp2_with fail
  refine wp_region_held_drew (S:=fun w'=>w'.cell? ⟨ge,11,none⟩=some (.int .i64 0)∧w'.cell? ⟨ge,12,none⟩=some (.int .i64 0)∧w'.cell? ⟨ge,13,none⟩=some (.int .i64 0)∧Blk w' KB 111 (statCells 0 0 0 0 0 0 0 0 0 0 0 0 0)∧Below w1.heap.size w1 w') (by kernel_rfl) ?_ (fun hS=>?_)
  ·exact ⟨(H.out.later W1.out.out.drew).eng.cell 11,(H.out.later W1.out.out.drew).eng.cell 12,(H.out.later W1.out.out.drew).eng.cell 13,BX.out.drew,W1.out.out.drew⟩
  refine kH 0 rfl hS ?_
  try simp only [pX]
  refine kH 1 rfl hS ?_
  try simp only [pX]
  refine kH 2 rfl hS ?_
  try simp only [pX]
  refine kH 3 rfl hS ?_
  try simp only [pX]
  refine kH 4 rfl hS ?_
  try simp only [pX]
  refine kH 5 rfl hS ?_
  try simp only [pX]
  refine kH 6 rfl hS ?_
  try simp only [pX]
  refine kH 7 rfl hS ?_
  try simp only [pX]
  refine kH 8 rfl hS ?_
  try simp only [pX]
  refine kH 9 rfl hS ?_
  try simp only [pX]
  refine kH 10 rfl hS ?_
  try simp only [pX]
  refine kH 11 rfl hS ?_
  try simp only [pX]
  refine kH 12 rfl hS ?_
  try simp only [pX]
  refine kH 13 rfl hS ?_
  try simp only [pX]
  refine kH 14 rfl hS ?_
  try simp only [pX]
  refine kH 15 rfl hS ?_
  try simp only [pX]
  refine rH 16 rfl (fun K hK=>?_)
  rw [if_pos (by rfl)];refine oper_store_one 3 (.tmp 66) (.tmp 55) rfl KB 8 (.int .i64 0) rfl rfl rfl rfl 111 _ (statCells 0 0 0 0 0 0 0 0 0 0 0 0 0) hS.2.2.2.1 (by simp [statCells]) (by kernel_rfl) rfl ?_;intro wb B g;have bb:=(Far.away (Far.mk hS.2.2.2.2) g hKK).out;refine hK.out _ _ ⟨(H.out.later bb).eng.cell 11,(H.out.later bb).eng.cell 12,(H.out.later bb).eng.cell 13,B,bb⟩ (fun hS=>?_);clear B g bb
  clear hK K
  try simp only [pX]
  refine kH 17 rfl hS ?_
  try simp only [pX]
  refine rH 18 rfl (fun K hK=>?_)
  rw [if_pos (by rfl)];refine oper_store_one 3 (.tmp 67) (.tmp 60) rfl KB 9 (.int .i64 0) rfl rfl rfl rfl 111 _ (statCells 0 0 0 0 0 0 0 0 0 0 0 0 0) hS.2.2.2.1 (by simp [statCells]) (by kernel_rfl) rfl ?_;intro wb B g;have bb:=(Far.away (Far.mk hS.2.2.2.2) g hKK).out;refine hK.out _ _ ⟨(H.out.later bb).eng.cell 11,(H.out.later bb).eng.cell 12,(H.out.later bb).eng.cell 13,B,bb⟩ (fun hS=>?_);clear B g bb
  clear hK K
  try simp only [pX]
  refine kH 19 rfl hS ?_
  try simp only [pX]
  refine rH 20 rfl (fun K hK=>?_)
  rw [if_pos (by rfl)];refine oper_store_one 3 (.tmp 68) (.tmp 65) rfl KB 10 (.int .i64 0) rfl rfl rfl rfl 111 _ (statCells 0 0 0 0 0 0 0 0 0 0 0 0 0) hS.2.2.2.1 (by simp [statCells]) (by kernel_rfl) rfl ?_;intro wb B g;have bb:=(Far.away (Far.mk hS.2.2.2.2) g hKK).out;refine hK.out _ _ ⟨(H.out.later bb).eng.cell 11,(H.out.later bb).eng.cell 12,(H.out.later bb).eng.cell 13,B,bb⟩ (fun hS=>?_);clear B g bb
  clear hK K
  try simp only [pX]
  refine wpAnyH_done (by kernel_rfl) ?_ _
  replace W1:=zH (Far.mk hS.2.2.2.2)
  replace BX:=zH hS.2.2.2.1
  clear hS
  go_wp2_with fail
  refine wp_region_held_drew (S:=fun w'=>w'.cell? ⟨ge,14,none⟩=some (.int .i64 0)∧w'.cell? ⟨ge,15,none⟩=some (.int .i64 0)∧Blk w' KB 111 (statCells 0 0 0 0 0 0 0 0 0 0 0 0 0)∧Below w1.heap.size w1 w') (by kernel_rfl) ?_ (fun hS=>?_)
  ·exact ⟨(H.out.later W1.out.out.drew).eng.cell 14,(H.out.later W1.out.out.drew).eng.cell 15,BX.out.drew,W1.out.out.drew⟩
  refine kH 0 rfl hS ?_
  try simp only [pX]
  refine kH 1 rfl hS ?_
  try simp only [pX]
  refine kH 2 rfl hS ?_
  try simp only [pX]
  refine kH 3 rfl hS ?_
  try simp only [pX]
  refine kH 4 rfl hS ?_
  try simp only [pX]
  refine kH 5 rfl hS ?_
  try simp only [pX]
  refine kH 6 rfl hS ?_
  try simp only [pX]
  refine kH 7 rfl hS ?_
  try simp only [pX]
  refine kH 8 rfl hS ?_
  try simp only [pX]
  refine rH 9 rfl (fun K hK=>?_)
  rw [if_pos (by rfl)];refine oper_store_one 3 (.tmp 77) (.tmp 72) rfl KB 11 (.int .i64 0) rfl rfl rfl rfl 111 _ (statCells 0 0 0 0 0 0 0 0 0 0 0 0 0) hS.2.2.1 (by simp [statCells]) (by kernel_rfl) rfl ?_;intro wb B g;have bb:=(Far.away (Far.mk hS.2.2.2) g hKK).out;refine hK.out _ _ ⟨(H.out.later bb).eng.cell 14,(H.out.later bb).eng.cell 15,B,bb⟩ (fun hS=>?_);clear B g bb
  clear hK K
  try simp only [pX]
  refine kH 10 rfl hS ?_
  try simp only [pX]
  refine rH 11 rfl (fun K hK=>?_)
  rw [if_pos (by rfl)];refine oper_store_one 3 (.tmp 78) (.tmp 76) rfl KB 12 (.int .i64 0) rfl rfl rfl rfl 111 _ (statCells 0 0 0 0 0 0 0 0 0 0 0 0 0) hS.2.2.1 (by simp [statCells]) (by kernel_rfl) rfl ?_;intro wb B g;have bb:=(Far.away (Far.mk hS.2.2.2) g hKK).out;refine hK.out _ _ ⟨(H.out.later bb).eng.cell 14,(H.out.later bb).eng.cell 15,B,bb⟩ (fun hS=>?_);clear B g bb
  clear hK K
  try simp only [pX]
  refine wpAnyH_done (by kernel_rfl) ?_ _
  replace W1:=zH (Far.mk hS.2.2.2)
  replace BX:=zH hS.2.2.1
  clear hS
  go_wp2_with (first|(refine wpList_load_blk rfl 111 (.tmp 3) rfl KB 0 rfl _ (statCells 0 0 0 0 0 0 0 0 0 0 0 0 0) (statCells 0 0 0 0 0 0 0 0 0 0 0 0 0) _ BX.out Tryz.underlying111 rfl (by kernel_rfl) rfl ?_)|(refine wpList_store_all rfl 111 (.tmp 2) (.tmp 79) rfl w.heap.size (statCells 0 0 0 0 0 0 0 0 0 0 0 0 0) rfl rfl _ _ (BR.out.later W1.out.out) rfl (by kernel_rfl) (by kernel_rfl) ?_;intro wf Bf gf))
  refine ret_cell rfl Bf rfl Tryz.underlying111 (by kernel_rfl) rfl ?_
  have q:=below_call FR.out.out W1.out.out FR.out.out.size
  exact ⟨rfl,q.grown gf q.size (fun k h=>by cases h;exact Nat.le_refl _)⟩
end Go.Proofs.YtppcjcigekoipaaGreat
