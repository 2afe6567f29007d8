/-
  store.Count (layer 42).
-/
import Derived.Test.YtppcjcigekoipaaGreatJ39
set_option linter.unusedVariables false
set_option linter.unusedSimpArgs false
namespace Go.Proofs.YtppcjcigekoipaaGreat
open Go.RowKit Go.ChangeShapes Go.WideShapes
set_option maxRecDepth 100000
def stateAt (rs:List Req) (i:Nat):Int:=(rs.getD i noReq).state
def many (rs:List Req) (st:Int):Nat:=rs.countP (fun r=>r.state == st)
def leftMany (rs:List Req) (st:Int) (left:Lit → Bool):Nat:=(List.range rs.length).countP (fun i=>left (nth i) && (stateAt rs i == st))
theorem leftMany_none {rs:List Req} {st:Int} {left:Lit → Bool} (h:∀ kl,left kl=false):leftMany rs st left=0:=by
 unfold leftMany
 rw [List.countP_eq_zero]
 intro i _
 rw [h]
 simp
theorem countP_range_map {α:Type} (l:List α) (d:α) (f:α → Bool):(List.range l.length).countP (fun i=>f (l.getD i d))=l.countP f:=by
 have e:l=(List.range l.length).map (fun i=>l.getD i d):=by
  apply List.ext_getElem (by simp)
  intro i h1 h2
  simp at h2
  simp [List.getD_eq_getElem?_getD,List.getElem?_eq_getElem h1]
 conv=>rhs;rw [e]
 rw [List.countP_map]
 rfl
theorem leftMany_all {rs:List Req} {st:Int} {left:Lit → Bool} (h:∀ i,i < rs.length → left (nth i)=true):leftMany rs st left=many rs st:=by
 unfold leftMany many
 rw [← countP_range_map rs noReq]
 apply List.countP_congr
 intro i hi
 rw [h i (List.mem_range.1 hi)]
 rfl
theorem countP_strike (n j:Nat) (f:Nat → Bool) (hj:j < n) (hf:f j=true):(List.range n).countP (fun i=>f i && !(i == j))+1=(List.range n).countP f:=by
 induction n with
 | zero=>omega
 | succ n ih =>
  rw [List.range_succ,List.countP_append,List.countP_append]
  rcases Nat.lt_or_ge j n with h|h
  ·have:=ih h
   have e:(n == j)=false:=by simp;omega
   simp only [List.countP_cons,List.countP_nil,e,Bool.not_false,Bool.and_true]
   omega
  ·obtain rfl:j=n:=by omega
   have e:(List.range j).countP (fun i=>f i && !(i == j))=(List.range j).countP f:=by
    apply List.countP_congr
    intro i hi
    have:=List.mem_range.1 hi
    have e2:(i == j)=false:=by simp;omega
    rw [e2]
    simp
   rw [e]
   simp [hf]
theorem leftMany_strike {rs:List Req} {st:Int} {left:Lit → Bool} (j:Nat) (hj:j < rs.length) (hl:left (nth j)=true) :
  leftMany rs st (fun z=>left z && !z.sameKey (nth j))+(if stateAt rs j == st then 1 else 0)=leftMany rs st left:=by
 unfold leftMany
 have e:∀ i,(nth i).sameKey (nth j)=(i == j):=fun i=>by
  by_cases h:i=j
  ·subst h;rw [WideAt.sameKey_self (a:=nth i) (show True from trivial)];simp
  ·rw [Maps.sameKey_ne (fun e=>h (nth_inj.1 e))];simp [h]
 by_cases hs:(stateAt rs j == st)=true
 ·rw [if_pos hs,← countP_strike rs.length j (fun i=>left (nth i) && (stateAt rs i == st)) hj (by simp [hl,hs])]
  congr 1
  apply List.countP_congr
  intro i _
  dsimp only
  rw [e]
  cases left (nth i) <;> cases (stateAt rs i == st) <;> simp
 ·rw [if_neg hs,Nat.add_zero]
  apply List.countP_congr
  intro i _
  dsimp only
  rw [e]
  by_cases h:i=j
  ·subst h
   have:(stateAt rs i == st)=false:=by simpa using hs
   rw [this]
   simp
  ·have:(i == j)=false:=by simp [h]
   rw [this]
   simp
set_option maxHeartbeats 4000000 in
theorem storeCount_any (g b:Nat) (m:Int) (rs:List Req) (st:Int) (w:World) (h:StoreAt w g b m rs) (hk:rs.length < 549755813888) :
  Calls Tryz.prog 62 #[.pointer (some ⟨g,0,none⟩),.int .i64 st] w fun e w'=>e=.returned (.int .i64 (many rs st))∧Below w.heap.size w w':=by
 obtain ⟨D,vs,hin⟩:=h.out
 have c0:=h.cells.1
 have HIN:=zH hin
 have hown:=hin.own
 have hbw:=hin.own.lt
 obtain ⟨T,hT⟩:∃ T,many rs st=T:=⟨_,rfl⟩
 rw [hT]
 have HT:=zH hT
 clear h hin hT
 go_enter Tryz.func62,Tryz.ntmps62
 go_wp2_with (at_range;refine wpList_range_own _ rfl _ 156 rfl 3 145 keyed Tryz.underlying156 reqR b vs.length D rfl hown ?_;intro w1 hrg g1 z1)
 have B1:=zH (show Below w.heap.size w w1 from (Below.refl _ _).grown g1 (Nat.le_refl _) (by simp))
 have R1:=zH hrg
 clear hrg g1
 go_frame
 go_loopw [5] (fun v wr=>∃ (left:Lit → Bool) (cnt k:Nat),v=.int .i64 k∧wr.ranges Tryz.prog 3 reqR b w.heap.size vs.length D left cnt∧Below w.heap.size w wr∧k+leftMany rs st left=T)
  (fun _ wr=>wr.rangeLeft b w.heap.size)
 case atStart =>
  refine ⟨_,_,0,rfl,R1.out,B1.out,?_⟩
  rw [leftMany_all fun i hi=>(HIN.out.holds.has _).2 ⟨i,by rw [HIN.out.len];exact hi,rfl⟩]
  have:=HT.out
  omega
 case round =>
  obtain ⟨left,cnt,k,rfl,hrg,hb,hcount⟩:=hrel
  have HB:=zH hb
  have kT:k≤T:=by omega
  have hT2:T≤rs.length:=by rw [← HT.out];exact List.countP_le_length
  have k1:k < 1099511627776:=by omega
  clear hb hT2
  go_wp2_with (at_next;refine wpList_next_ranges _ rfl (.tmp 14) rfl 3 keyed reqR (Value.int .i64) Value.agg (fun key kl hkey=>by obtain ⟨x,rfl,_⟩:=Maps.keyOf_int_inv Tryz.underlying3 hkey;exact ⟨x,rfl⟩) (fun v y hv=>reqR_inv hv) b w.heap.size vs.length D left cnt rfl hrg ?_ ?_)
  ·intro _ hl0
   rw [leftMany_none hl0] at hcount
   obtain rfl:k=T:=by omega
   clear hrg
   go_wp2_with fail
   go_ret
   exact ⟨rfl,HB.out⟩
  ·intro x cv kl y ps w2 cnt2 hkey hlx hy hat hrg2 hlt2 hg2 hs2 hen
   obtain ⟨i,hi,rfl⟩:∃ i,i < rs.length∧kl=nth i:=by
    obtain ⟨i,hi,e⟩:=(HIN.out.holds.has kl).1 (Maps.has_true_of_atKey hat)
    exact ⟨i,by rw [← HIN.out.len];exact hi,e⟩
   obtain ⟨cs,hcs,hrep⟩:=HIN.out.at_ i rs[i] (List.getElem?_eq_getElem hi)
   have e1:=(hat .nil).symm.trans (HIN.out.holds.at_ i cs hcs .nil)
   obtain rfl:cv=cs:=by
    have e3:=reqR_held (v:=Value.agg cv) (cs:=cs) (ps:=ps) (by rw [hy];exact congrArg (fun z=>some (z,ps)) e1)
    exact Value.agg.inj e3
   obtain ⟨A,n,c,B,q,d,L,nl,cl,hcells,hrest⟩:=req_open hrep
   clear hrest
   have hst:stateAt rs i=rs[i].state:=by unfold stateAt;rw [List.getD_eq_getElem?_getD,List.getElem?_eq_getElem hi];rfl
   have hstrike:=leftMany_strike (st:=st) i hi hlx
   obtain ⟨r,hr⟩:∃ r,rs[i]=r:=⟨_,rfl⟩
   rw [hr] at hcells hst
   obtain rfl:cv=reqCells r A n c B q d L nl cl:=by rw [← Array.toList_inj];exact hcells
   have HS:=zH hstrike
   have HC:=zH hcount
   rw [hst] at HS
   have HB2:=zH (HB.out.grown hg2 HB.out.size (fun j hj=>by cases hj;exact Nat.le_refl _))
   have R2:=zH hrg2
   have L2:=zH hlt2
   have z2:w.heap.size < w2.heap.size:=hrg2.lt
   have hE:=zH hrg.left_eq
   clear hcells hstrike hcount hrep hat e1 hy hcs hlx hkey hrg hrg2 hg2 hlt2 hi hr hst HB hs2
   unfold reqCells at hen ⊢
   by_cases hs:r.state=st
   ·have t1:(r.state == st)=true:=by simpa using hs
    have HSt:=zH hs
    clear hs
    go_wp2_with (refine wpList_store_all rfl 145 (.tmp 7) (.tmp 18) rfl w2.heap.size (reqCells r A n c B q d L nl cl) rfl rfl _ _ (Blk.now _ _ _ _ rfl) (by simp [reqCells]) (by kernel_rfl) (by simp [Value.oneCell',reqCells]) ?_;intro w3 B3 g3;have c3:w3.cell? ⟨w2.heap.size,1,none⟩=some (.int .i64 r.state):=B3.cell 1)
    have b3:=HB2.out.size
    have h3:Below w.heap.size w w3:=(HB2.out.alloc HB2.out.size _).grown g3 (by simp;omega) (fun j hj=>by have:=Option.some.inj hj;omega)
    have r3:=(R2.out.alloc (.cells _ 145)).kept g3 (by have:=R2.out.owns.lt;intro e;have:=Option.some.inj e;omega) (by intro e;have:=Option.some.inj e;omega)
    exact ⟨⟨_,cnt2,k+1,by go_num,r3,h3,by have:=HS.out;have:=HC.out;have:=HSt.out;simp_all <;> omega⟩,by rw [hE.out,r3.left_eq];exact L2.out⟩
   ·have t1:(r.state == st)=false:=by simpa using hs
    have HSt:=zH hs
    clear hs
    go_wp2_with (refine wpList_store_all rfl 145 (.tmp 7) (.tmp 18) rfl w2.heap.size (reqCells r A n c B q d L nl cl) rfl rfl _ _ (Blk.now _ _ _ _ rfl) (by simp [reqCells]) (by kernel_rfl) (by simp [Value.oneCell',reqCells]) ?_;intro w3 B3 g3;have c3:w3.cell? ⟨w2.heap.size,1,none⟩=some (.int .i64 r.state):=B3.cell 1)
    have b3:=HB2.out.size
    have h3:Below w.heap.size w w3:=(HB2.out.alloc HB2.out.size _).grown g3 (by simp;omega) (fun j hj=>by have:=Option.some.inj hj;omega)
    have r3:=(R2.out.alloc (.cells _ 145)).kept g3 (by have:=R2.out.owns.lt;intro e;have:=Option.some.inj e;omega) (by intro e;have:=Option.some.inj e;omega)
    exact ⟨⟨_,cnt2,k,by go_num,r3,h3,by have:=HS.out;have:=HC.out;have:=HSt.out;simp_all <;> omega⟩,by rw [hE.out,r3.left_eq];exact L2.out⟩
end Go.Proofs.YtppcjcigekoipaaGreat
