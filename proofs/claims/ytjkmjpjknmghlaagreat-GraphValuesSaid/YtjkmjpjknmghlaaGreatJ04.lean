/-
  Four numbers as sums of them (layer 14): the walks of four.turned and four.sums.
  Four numbers as sums of them (layer 14): the walks of four.Of, four.Times, four.Plus, four.Back.
  Four numbers as sums of them (layer 14): the walk of four.Back; wheel.turned, wheel.both (layer 15).
  Which values a node takes (layer 27): takes, there, of; the document's There, second.
  The elements of an []int.
-/
import Derived.Test.YtjkmjpjknmghlaaGreatJ01
set_option linter.unusedVariables false
set_option linter.unusedSimpArgs false
namespace Go.Proofs.YtjkmjpjknmghlaaGreat
open Go.RowKit Go.ChangeShapes Go.WideShapes Fx
set_option maxRecDepth 100000
set_option maxHeartbeats 2000000
def cv (x:Fx.Wd):Value:=.complex .f64 x.1 x.2
def c4 (f:Nat → Fx.Wd):Array Value:=#[cv (f 0),cv (f 1),cv (f 2),cv (f 3)]
theorem c4_at (f:Nat → Fx.Wd) (i:Nat) (h:i < 4):(c4 f)[i]?=some (cv (f i)):=by
 match i,h with
 | 0,_=>rfl
 | 1,_=>rfl
 | 2,_=>rfl
 | 3,_=>rfl
theorem c4_set (f g:Nat → Fx.Wd) (k:Nat) (h:k < 4) (hg:∀ i,i < 4 → i ≠ k → g i=f i):(c4 f).setIfInBounds k (cv (g k))=c4 g:=by
 unfold c4
 match k,h with
 | 0,_=>rw [hg 1 (by omega) (by omega),hg 2 (by omega) (by omega),hg 3 (by omega) (by omega)];rfl
 | 1,_=>rw [hg 0 (by omega) (by omega),hg 2 (by omega) (by omega),hg 3 (by omega) (by omega)];rfl
 | 2,_=>rw [hg 0 (by omega) (by omega),hg 1 (by omega) (by omega),hg 3 (by omega) (by omega)];rfl
 | 3,_=>rw [hg 0 (by omega) (by omega),hg 1 (by omega) (by omega),hg 2 (by omega) (by omega)];rfl
theorem turned_any (x q:Fx.Wd) (z qz:Int × Int) (B:Nat) (n:Int) (m:Nat) (w:World) (hx:Cd x z) (hq:Cd q qz) (h4:Quarter qz) (hz:Cb z B) (hB:B < 2 ^ 51) (h0:0≤n) (h9:n≤9) (hm:n % 4=m) :
  Calls Tryz.prog 168 #[.complex .f64 x.1 x.2,.complex .f64 q.1 q.2,.int .i64 n] w fun e w'=>e=.returned (.complex .f64 (turnW q x m).1 (turnW q x m).2)∧w'=w:=by
 have MU:=zH (fun k t w=>run_complex_mul (P:=Tryz.prog) w t _ _ _ _ _ _ (turn_mul hq h4 hx hz hB k))
 have hm4:m < 4:=by omega
 have hmt:n.tmod 4=m:=by rw [Int.tmod_eq_emod_of_nonneg h0];exact hm
 clear hx hq h4 hz hB
 go_enter Tryz.func168,Tryz.ntmps168
 go_wp2_with fail
 try rw [hmt]
 try rw [hm]
 go_loopw [0,9] (fun y i wr=>∃ k:Nat,k≤m∧i=.int .i64 k∧y=.complex .f64 (turnW q x k).1 (turnW q x k).2∧wr=w) (fun _ i _=>m - (intOf i).toNat)
 case atStart=>exact ⟨0,Nat.zero_le _,rfl,rfl,rfl⟩
 case round =>
  obtain ⟨k,hk,rfl,rfl,rfl⟩:=hrel
  by_cases hlt:k < m
  ·have p1:(k:Int) < (m:Int):=by omega
   have hop:=MU.out k
   go_wp2_with (simp only [hop])
   exact ⟨⟨k+1,by omega,by go_num,rfl,by trivial⟩,by simp [intOf];omega⟩
  ·obtain rfl:k=m:=by omega
   go_wp2_with fail
   go_ret
   exact ⟨rfl,by trivial⟩
theorem run_index_4 {P:Program} (w:World) (t e:TypeId) (a b c d v:Value) (h:P.underlying t=some (.array 4 e)) (h2:(P.info? e).map (·.size)=some 1) (hag:(isAgg e).run P w=.ok false w) (j:Nat) (hj:j < 4) (hv:#[a,b,c,d][j]?=some v):(Instr.index t (.agg #[a,b,c,d]) (.int .i64 j)).run P w=.ok v w:=by
 have hn:(0≤(j:Int)∧(j:Int) < (4:Nat)):=by omega
 cases hq:P.info? e with
 | none=>simp [hq] at h2
 | some i =>
 have hs:i.size=1:=by simpa [hq] using h2
 have hv':[a,b,c,d][j]?=some v:=by simpa using hv
 simp [Instr.index,run_underlying h,asIntOf,hn,go_sem,hj,sizeOf,typeInfo,hq,hs,hag]
 exact (List.getElem?_eq_some_iff.1 hv').2
theorem run_index_c4 {P:Program} (w:World) (t e:TypeId) (a b c d v:Value) (h:P.underlying t=some (.array 4 e)) (h2:(P.info? e).map (·.size)=some 1) (he:P.underlying e=some (.complex .f64)) (j:Nat) (hj:j < 4) (hv:#[a,b,c,d][j]?=some v):(Instr.index t (.agg #[a,b,c,d]) (.int .i64 j)).run P w=.ok v w :=
 run_index_4 w t e a b c d v h h2 (by simp [isAgg,run_underlying he]) j hj hv
theorem c4_one (f:Nat → Fx.Wd):(c4 f).all (·.oneCell')=true:=by rw [← Array.all_toList];rfl
theorem set_list (cs:Array Value) (k:Nat) (v:Value) (h:k < cs.size):(cs.setIfInBounds k v).toList=cs.toList.take k ++ [v] ++ cs.toList.drop (k+1):=by
 rw [Array.toList_setIfInBounds,List.set_eq_take_append_cons_drop,if_pos (by simpa using h)]
 simp
def sumSt (q:Fx.Wd) (f:Nat → Fx.Wd) (k j:Nat):Nat → Fx.Wd:=fun i=>if i < k then sumsW q f i else if i=k then sumW q f k j else (0,0)
theorem sumSt_set (q:Fx.Wd) (f:Nat → Fx.Wd) (k j:Nat) (h:k < 4):(c4 (sumSt q f k j)).setIfInBounds k (cv (sumW q f k (j+1)))=c4 (sumSt q f k (j+1)):=by
 have:=c4_set (sumSt q f k j) (sumSt q f k (j+1)) k h (fun i _ hi=>by unfold sumSt;by_cases c:i < k <;> simp [c,hi])
 rwa [show sumSt q f k (j+1) k=sumW q f k (j+1) by simp [sumSt]] at this
theorem sumSt_next (q:Fx.Wd) (f:Nat → Fx.Wd) (k:Nat):sumSt q f k 4=sumSt q f (k+1) 0:=by
 funext i
 unfold sumSt
 by_cases c:i < k
 ·simp [c,show i < k+1 by omega]
 ·by_cases c2:i=k
  ·subst c2;simp [sumsW]
  ·by_cases c3:i=k+1
   ·subst c3;simp [c,c2,sumW]
   ·simp [c,c2,c3,show ¬ i < k+1 by omega]
theorem sumSt_end (q:Fx.Wd) (f:Nat → Fx.Wd):c4 (sumSt q f 4 0)=c4 (sumsW q f):=by unfold c4 sumSt;simp
theorem c4_zero (q:Fx.Wd) (f:Nat → Fx.Wd):c4 (sumSt q f 0 0)=#[.complex .f64 0 0,.complex .f64 0 0,.complex .f64 0 0,.complex .f64 0 0]:=by unfold c4 cv sumSt;simp [sumW]
theorem sums_any (f:Nat → Fx.Wd) (q:Fx.Wd) (z:Nat → Int × Int) (qz:Int × Int) (B:Nat) (w:World) (hx:∀ i,i < 4 → Cd (f i) (z i)) (hq:Cd q qz) (h4:Quarter qz) (hz:∀ i,i < 4 → Cb (z i) B) (hB:B < 2 ^ 50) :
  Calls Tryz.prog 166 #[.agg (c4 f),.complex .f64 q.1 q.2] w fun e w'=>e=.returned (.agg (c4 (sumsW q f)))∧Below w.heap.size w w':=by
 have AD:=zH (fun k j hj t w=>run_complex_sum (P:=Tryz.prog) w .add (.inl rfl) t .f64 _ _ _ _ _ _ (sum_add hq h4 hx hz hB k j hj))
 have FR:=zH (Far.refl w)
 obtain ⟨w1,hw_w1,BA,k_w1⟩:=nB w #[.complex .f64 (f 0).1 (f 0).2,.complex .f64 (f 1).1 (f 1).2,.complex .f64 (f 2).1 (f 2).2,.complex .f64 (f 3).1 (f 3).2] 205
 replace FR:=zH (FR.out.fut k_w1)
 clear k_w1
 obtain ⟨w2,hw_w2,BO,k_w2⟩:=nB w1 #[.complex .f64 0 0,.complex .f64 0 0,.complex .f64 0 0,.complex .f64 0 0] 205
 replace FR:=zH (FR.out.fut k_w2)
 replace BA:=zH (BA.out.fut k_w2)
 clear k_w2
 obtain ⟨w3,hw_w3,BC,k_w3⟩:=nB w2 #[.complex .f64 0 0,.complex .f64 0 0,.complex .f64 0 0,.complex .f64 0 0] 205
 replace FR:=zH (FR.out.fut k_w3)
 replace BA:=zH (BA.out.fut k_w3)
 replace BO:=zH (BO.out.fut k_w3)
 clear k_w3
 have TU:=zH (fun (j k:Nat) (hj:j < 4) (hk:k < 4) w=>turned_any (f j) q (z j) qz B ((j:Int)*(k:Int)) ((j*k) % 4) w (hx j hj) hq h4 (hz j hj) (by omega))
 clear hx hq h4 hz hB
 unfold c4 cv
 go_enter Tryz.func166,Tryz.ntmps166
 go_wp2_with fail
 have l1:w.heap.size < w1.heap.size:=by rw [← hw_w1];simp
 have l2:w1.heap.size < w2.heap.size:=by rw [← hw_w2];simp
 clear hw_w1 hw_w2 hw_w3
 replace BA:=zH (show Blk w3 w.heap.size 205 (c4 f) from BA.out)
 replace BC:=zH (show Blk w3 w2.heap.size 205 (c4 (sumSt q f 0 0)) by rw [c4_zero];exact BC.out)
 obtain ⟨g0,e0⟩:∃ n,w.heap.size=n:=⟨_,rfl⟩
 obtain ⟨g1,e1⟩:∃ n,w1.heap.size=n:=⟨_,rfl⟩
 obtain ⟨g2,e2⟩:∃ n,w2.heap.size=n:=⟨_,rfl⟩
 rw [e0,e1] at l1
 rw [e1,e2] at l2
 rw [e0] at BA
 rw [e1] at BO
 rw [e2] at BC
 rw [e0,e1,e2]
 go_loopw [9] (fun i wr=>∃ k:Nat,k≤4∧i=.int .i64 k∧Far w wr∧Blk wr g0 205 (c4 f)∧Blk wr g1 205 #[.complex .f64 0 0,.complex .f64 0 0,.complex .f64 0 0,.complex .f64 0 0]∧Blk wr g2 205 (c4 (sumSt q f k 0))) (fun i _=>4 - (intOf i).toNat)
 case atStart=>exact ⟨0,Nat.zero_le _,rfl,FR.out,BA.out,BO.out,BC.out⟩
 case round =>
  obtain ⟨k,hk,rfl,hf,hba,hbo,hbc⟩:=hrel
  clear FR BA BO BC
  have FR:=zH hf
  have BA:=zH hba
  have BO:=zH hbo
  have BC:=zH hbc
  clear hf hba hbo hbc
  by_cases hlt:k < 4
  ·have p1:(k:Int) < 4:=by omega
   have c0:wr.cell? ⟨g0,0,none⟩=some (.complex .f64 (f 0).1 (f 0).2):=BA.out.cell 0
   have c1:wr.cell? ⟨g0,1,none⟩=some (.complex .f64 (f 1).1 (f 1).2):=BA.out.cell 1
   have c2:wr.cell? ⟨g0,2,none⟩=some (.complex .f64 (f 2).1 (f 2).2):=BA.out.cell 2
   have c3:wr.cell? ⟨g0,3,none⟩=some (.complex .f64 (f 3).1 (f 3).2):=BA.out.cell 3
   go_wp2_with fail
   go_loopw [13] (fun i wr=>∃ j:Nat,j≤4∧i=.int .i64 j∧Far w wr∧Blk wr g0 205 (c4 f)∧Blk wr g1 205 #[.complex .f64 0 0,.complex .f64 0 0,.complex .f64 0 0,.complex .f64 0 0]∧Blk wr g2 205 (c4 (sumSt q f k j))) (fun i _=>4 - (intOf i).toNat)
   case atStart=>exact ⟨0,Nat.zero_le _,rfl,FR.out,BA.out,BO.out,BC.out⟩
   case round =>
    clear FR BA BO BC c0 c1 c2 c3
    rename_i i wr_
    obtain ⟨j,hj,rfl,hf,hba,hbo,hbc⟩:=hrel
    have FR:=zH hf
    have BA:=zH hba
    have BO:=zH hbo
    have BC:=zH hbc
    clear hf hba hbo hbc
    by_cases hlj:j < 4
    ·have p2:(j:Int) < 4:=by omega
     have hjk:(j:Int)*(k:Int)≤9:=by
      have:=Nat.mul_le_mul (show j≤3 by omega) (show k≤3 by omega)
      exact_mod_cast this
     have hjk0:0≤(j:Int)*(k:Int):=by exact_mod_cast Nat.zero_le (j*k)
     have hwr:IntKind.i64.wrap ((j:Int)*(k:Int))=(j:Int)*(k:Int):=by rw [IntKind.wrap_i64];omega
     have TJ:=zH (fun w=>by have h:=TU.out j k hlj hlt w hjk0 hjk (by have:=Int.natCast_emod (j*k) 4;simp at this ⊢);rwa [← hwr] at h)
     clear hwr
     have hop:=AD.out k j hlj
     have hix:=c4_at f j hlj
     unfold c4 cv at hix
     have hir:=zH (fun w=>run_index_c4 (P:=Tryz.prog) w 205 204 _ _ _ _ _ Tryz.underlying205 (by kernel_rfl) Tryz.underlying204 j hlj hix)
     clear hix
     have ck:=BC.out.cell k
     rw [c4_at _ _ hlt,show sumSt q f k j k=sumW q f k j by simp [sumSt]] at ck
     unfold cv at ck
     have fk:=BC.out.frozen k
     have SS:=zH (sumSt_set q f k j hlt)
     go_wp2_with (simp only [hir.out])
     refine wp_region_T (fun w'=>w'.cell? ⟨g2,k,none⟩=some (.complex .f64 (sumW q f k j).1 (sumW q f k j).2)∧w'=wr.drew) 10 (by kernel_rfl) ?_ (fun hS=>?_)
     ·exact ⟨ck,rfl⟩
     refine kT 0 rfl hS ?_
     try simp only [pX]
     refine kT 1 rfl hS ?_
     try simp only [pX]
     refine kT 2 rfl hS ?_
     try simp only [pX]
     refine kT 3 rfl hS ?_
     try simp only [pX]
     refine kT 4 rfl hS ?_
     try simp only [pX]
     refine kT 5 rfl hS ?_
     try simp only [pX]
     refine kT 6 rfl hS ?_
     try simp only [pX]
     refine kT 7 rfl hS ?_
     try simp only [pX]
     refine wpAnyT_one (i:=8) (by kernel_rfl) rfl rfl (fun K hK=>?_)
     go_simp;refine (TJ.out _).mono ?_;rintro e w' ⟨rfl,rfl⟩;refine hK.out _ _ hS (fun hS=>?_)
     clear hK K
     try simp only [pX]
     refine kT 9 rfl hS ?_
     try simp only [pX]
     refine wpAnyT_tail _ _ rfl rfl (by kernel_rfl) ?_
     obtain ⟨-,-⟩:=hS
     go_wp2_with (refine wpList_store_one rfl 204 (.tmp 27) (.tmp 26) rfl g2 k (.complex .f64 (sumW q f k (j+1)).1 (sumW q f k (j+1)).2) rfl rfl rfl rfl _ (c4 (sumSt q f k j)) (c4 (sumSt q f k (j+1))) BC.out.draw (by simp [c4];omega) (by kernel_rfl) (by rw [← SS.out];exact set_list _ _ _ (by simp [c4];omega)) ?_;intro w5 B5 g5)
     exact ⟨⟨j+1,by omega,by go_num,FR.out.draw.away g5 (by omega),BA.out.draw.away g5 (.inl (by omega)),BO.out.draw.away g5 (.inl (by omega)),B5⟩,by simp [intOf];omega⟩
    ·obtain rfl:j=4:=by omega
     go_wp2_with fail
     exact ⟨⟨k+1,by omega,by go_num,FR.out,BA.out,BO.out,by rw [← sumSt_next];exact BC.out⟩,by simp [intOf];omega⟩
  ·obtain rfl:k=4:=by omega
   have BC:=zH (show Blk wr g2 205 (c4 (sumsW q f)) by rw [← sumSt_end];exact BC.out)
   go_wp2_with (first|(refine wpList_load_blk rfl 205 (.tmp 5) rfl g2 0 rfl _ (c4 (sumsW q f)) (c4 (sumsW q f)) _ BC.out Tryz.underlying205 rfl (by show _=some 4;kernel_rfl) rfl ?_)|(refine wpList_store_all rfl 205 (.tmp 4) (.tmp 30) rfl g1 (c4 (sumsW q f)) rfl rfl _ _ BO.out rfl (by show _=some 4;kernel_rfl) (c4_one _) ?_;intro w5 B5 g5))
   refine ret_array rfl B5 rfl Tryz.underlying205 (by show _=some 4;kernel_rfl) rfl ?_
   exact ⟨rfl,by have:=FR.out.away g5 (by omega);exact this.out⟩
end Go.Proofs.YtjkmjpjknmghlaaGreat
namespace Go.Proofs.YtjkmjpjknmghlaaGreat
open Go.RowKit Go.ChangeShapes Go.WideShapes Fx
set_option maxRecDepth 100000
set_option maxHeartbeats 2000000
def i4 (k:IntKind) (l:Nat → Int):Array Value:=#[.int k (l 0),.int k (l 1),.int k (l 2),.int k (l 3)]
theorem i4_at (k:IntKind) (f:Nat → Int) (i:Nat) (h:i < 4):(i4 k f)[i]?=some (.int k (f i)):=by
 match i,h with
 | 0,_=>rfl
 | 1,_=>rfl
 | 2,_=>rfl
 | 3,_=>rfl
theorem i4_one (k:IntKind) (f:Nat → Int):(i4 k f).all (·.oneCell')=true:=by rw [← Array.all_toList];rfl
theorem i4_set (kd:IntKind) (f g:Nat → Int) (k:Nat) (h:k < 4) (hg:∀ i,i < 4 → i ≠ k → g i=f i):(i4 kd f).setIfInBounds k (.int kd (g k))=i4 kd g:=by
 unfold i4
 match k,h with
 | 0,_=>rw [hg 1 (by omega) (by omega),hg 2 (by omega) (by omega),hg 3 (by omega) (by omega)];rfl
 | 1,_=>rw [hg 0 (by omega) (by omega),hg 2 (by omega) (by omega),hg 3 (by omega) (by omega)];rfl
 | 2,_=>rw [hg 0 (by omega) (by omega),hg 1 (by omega) (by omega),hg 3 (by omega) (by omega)];rfl
 | 3,_=>rw [hg 0 (by omega) (by omega),hg 1 (by omega) (by omega),hg 2 (by omega) (by omega)];rfl
def upW (f g:Nat → Fx.Wd) (k:Nat):Nat → Fx.Wd:=fun i=>if i < k then f i else g i
theorem upW_set (f g:Nat → Fx.Wd) (k:Nat) (h:k < 4):(c4 (upW f g k)).setIfInBounds k (cv (f k))=c4 (upW f g (k+1)):=by
 have:=c4_set (upW f g k) (upW f g (k+1)) k h (fun i _ hi=>by unfold upW;by_cases c:i < k <;> simp [c] <;> omega)
 rwa [show upW f g (k+1) k=f k by simp [upW]] at this
theorem upW_end (f g:Nat → Fx.Wd):c4 (upW f g 4)=c4 f:=by unfold c4 upW;simp
theorem upW_zero (f g:Nat → Fx.Wd):upW f g 0=g:=by funext i;simp [upW]
theorem upW_at (f g:Nat → Fx.Wd) (k:Nat):upW f g k k=g k:=by simp [upW]
def upI (f g:Nat → Int) (k:Nat):Nat → Int:=fun i=>if i < k then f i else g i
theorem upI_set (kd:IntKind) (f g:Nat → Int) (k:Nat) (h:k < 4):(i4 kd (upI f g k)).setIfInBounds k (.int kd (f k))=i4 kd (upI f g (k+1)):=by
 have:=i4_set kd (upI f g k) (upI f g (k+1)) k h (fun i _ hi=>by unfold upI;by_cases c:i < k <;> simp [c] <;> omega)
 rwa [show upI f g (k+1) k=f k by simp [upI]] at this
theorem upI_end (kd:IntKind) (f g:Nat → Int):i4 kd (upI f g 4)=i4 kd f:=by unfold i4 upI;simp
theorem upI_zero (f g:Nat → Int):upI f g 0=g:=by funext i;simp [upI]
theorem fourOf_any (l:Nat → Int) (B:Nat) (w:World) (hl:∀ i,i < 4 → (l i).natAbs≤B) (hB:B < 2 ^ 50) :
  Calls Tryz.prog 160 #[.agg (i4 .i16 l)] w fun e w'=>e=.returned (.agg (c4 (ofW l)))∧Below w.heap.size w w':=by
 have FR:=zH (Far.refl w)
 obtain ⟨w1,hw_w1,BA,k_w1⟩:=nB w #[.int .i16 (l 0),.int .i16 (l 1),.int .i16 (l 2),.int .i16 (l 3)] 210
 replace FR:=zH (FR.out.fut k_w1)
 clear k_w1
 obtain ⟨w2,hw_w2,BO,k_w2⟩:=nB w1 #[.complex .f64 0 0,.complex .f64 0 0,.complex .f64 0 0,.complex .f64 0 0] 205
 replace FR:=zH (FR.out.fut k_w2)
 replace BA:=zH (BA.out.fut k_w2)
 clear k_w2
 obtain ⟨w3,hw_w3,BC,k_w3⟩:=nB w2 #[.complex .f64 0 0,.complex .f64 0 0,.complex .f64 0 0,.complex .f64 0 0] 205
 replace FR:=zH (FR.out.fut k_w3)
 replace BA:=zH (BA.out.fut k_w3)
 replace BO:=zH (BO.out.fut k_w3)
 clear k_w3
 have SU:=zH (fun w=>sums_any (inW l) rightW (fun i=>(l i,0)) (0,-1) B w (fun i hi=>(in_ok hl hB i hi).1) cd_right (.inr rfl) (fun i hi=>(in_ok hl hB i hi).2) hB)
 clear hl hB
 have c0:w3.cell? ⟨w.heap.size,0,none⟩=some (.int .i16 (l 0)):=BA.out.cell 0
 have c1:w3.cell? ⟨w.heap.size,1,none⟩=some (.int .i16 (l 1)):=BA.out.cell 1
 have c2:w3.cell? ⟨w.heap.size,2,none⟩=some (.int .i16 (l 2)):=BA.out.cell 2
 have c3:w3.cell? ⟨w.heap.size,3,none⟩=some (.int .i16 (l 3)):=BA.out.cell 3
 unfold i4
 go_enter Tryz.func160,Tryz.ntmps160
 go_wp2_with fail
 have l1:w.heap.size < w1.heap.size:=by rw [← hw_w1];simp
 have l2:w1.heap.size < w2.heap.size:=by rw [← hw_w2];simp
 clear hw_w1 hw_w2 hw_w3 c0 c1 c2 c3
 replace BC:=zH (show Blk w3 w2.heap.size 205 (c4 (upW (inW l) (fun _=>(0,0)) 0)) by rw [upW_zero];exact BC.out)
 obtain ⟨g0,e0⟩:∃ n,w.heap.size=n:=⟨_,rfl⟩
 obtain ⟨g1,e1⟩:∃ n,w1.heap.size=n:=⟨_,rfl⟩
 obtain ⟨g2,e2⟩:∃ n,w2.heap.size=n:=⟨_,rfl⟩
 rw [e0,e1] at l1
 rw [e1,e2] at l2
 rw [e1] at BO
 rw [e2] at BC
 rw [e0,e1,e2]
 clear BA
 go_loopw [7] (fun i wr=>∃ k:Nat,k≤4∧i=.int .i64 k∧Far w wr∧Blk wr g1 205 #[.complex .f64 0 0,.complex .f64 0 0,.complex .f64 0 0,.complex .f64 0 0]∧Blk wr g2 205 (c4 (upW (inW l) (fun _=>(0,0)) k))) (fun i _=>4 - (intOf i).toNat)
 case atStart=>exact ⟨0,Nat.zero_le _,rfl,FR.out,BO.out,BC.out⟩
 case round =>
  obtain ⟨k,hk,rfl,hf,hbo,hbc⟩:=hrel
  clear FR BO BC
  have FR:=zH hf
  have BO:=zH hbo
  have BC:=zH hbc
  clear hf hbo hbc
  by_cases hlt:k < 4
  ·have p1:(k:Int) < 4:=by omega
   have hir:=zH (fun w=>run_index_4 (P:=Tryz.prog) w 210 192 _ _ _ _ _ Tryz.underlying210 (by kernel_rfl) (by simp [isAgg,run_underlying Tryz.underlying192]) k hlt (i4_at .i16 l k hlt))
   have SS:=zH (upW_set (inW l) (fun _=>(0,0)) k hlt)
   go_wp2_with (first|simp only [hir.out]|(refine wpList_store_one rfl 204 (.tmp 15) (.tmp 14) rfl g2 k (cv (inW l k)) rfl rfl rfl rfl _ (c4 (upW (inW l) (fun _=>(0,0)) k)) (c4 (upW (inW l) (fun _=>(0,0)) (k+1))) BC.out (by simp [c4];omega) (by kernel_rfl) (by rw [← SS.out];exact set_list _ _ _ (by simp [c4];omega)) ?_;intro w5 B5 g5))
   exact ⟨⟨k+1,by omega,by go_num,FR.out.away g5 (by omega),BO.out.away g5 (.inl (by omega)),B5⟩,by simp [intOf];omega⟩
  ·obtain rfl:k=4:=by omega
   have BC:=zH (show Blk wr g2 205 (c4 (inW l)) by rw [← upW_end (inW l) (fun _=>(0,0))];exact BC.out)
   go_wp2_with (first|(refine wpList_load_blk rfl 205 (.tmp 3) rfl g2 0 rfl _ (c4 (inW l)) (c4 (inW l)) _ BC.out Tryz.underlying205 rfl (by show _=some 4;kernel_rfl) rfl ?_))
   refine (SU.out _).mono ?_
   rintro e w4 ⟨rfl,hb⟩
   replace FR:=zH (FR.out.fut hb)
   replace BO:=zH (BO.out.fut hb)
   clear hb
   go_wp2_with (first|(refine wpList_store_all rfl 205 (.tmp 2) (.tmp 18) rfl g1 (c4 (ofW l)) rfl rfl _ _ BO.out rfl (by show _=some 4;kernel_rfl) (c4_one _) ?_;intro w5 B5 g5))
   refine ret_array rfl B5 rfl Tryz.underlying205 (by show _=some 4;kernel_rfl) rfl ?_
   exact ⟨rfl,by have:=FR.out.away g5 (by omega);exact this.out⟩
theorem fourTimes_any (f g:Nat → Fx.Wd) (w:World) (hv:∀ i,i < 4 → cMulBits (f i).1 (f i).2 (g i).1 (g i).2=some ((timesW f g i).1,(timesW f g i).2)) :
  Calls Tryz.prog 159 #[.agg (c4 f),.agg (c4 g)] w fun e w'=>e=.returned (.agg (c4 (timesW f g)))∧Below w.heap.size w w':=by
 have OP:=zH (fun k hk t w=>run_complex_mul (P:=Tryz.prog) w t _ _ _ _ _ _ (hv k hk))
 have FR:=zH (Far.refl w)
 obtain ⟨w1,hw_w1,BA,k_w1⟩:=nB w #[.complex .f64 (f 0).1 (f 0).2,.complex .f64 (f 1).1 (f 1).2,.complex .f64 (f 2).1 (f 2).2,.complex .f64 (f 3).1 (f 3).2] 205
 replace FR:=zH (FR.out.fut k_w1)
 clear k_w1
 obtain ⟨w2,hw_w2,BB,k_w2⟩:=nB w1 #[.complex .f64 (g 0).1 (g 0).2,.complex .f64 (g 1).1 (g 1).2,.complex .f64 (g 2).1 (g 2).2,.complex .f64 (g 3).1 (g 3).2] 205
 replace FR:=zH (FR.out.fut k_w2)
 replace BA:=zH (BA.out.fut k_w2)
 clear k_w2
 obtain ⟨w3,hw_w3,BC,k_w3⟩:=nB w2 #[.complex .f64 0 0,.complex .f64 0 0,.complex .f64 0 0,.complex .f64 0 0] 205
 replace FR:=zH (FR.out.fut k_w3)
 replace BA:=zH (BA.out.fut k_w3)
 replace BB:=zH (BB.out.fut k_w3)
 clear k_w3
 clear hv
 unfold c4 cv
 go_enter Tryz.func159,Tryz.ntmps159
 go_wp2_with fail
 have l1:w.heap.size < w1.heap.size:=by rw [← hw_w1];simp
 have l2:w1.heap.size < w2.heap.size:=by rw [← hw_w2];simp
 clear hw_w1 hw_w2 hw_w3
 replace BA:=zH (show Blk w3 w.heap.size 205 (c4 (upW (timesW f g) f 0)) by rw [upW_zero];exact BA.out)
 replace BB:=zH (show Blk w3 w1.heap.size 205 (c4 g) from BB.out)
 obtain ⟨g0,e0⟩:∃ n,w.heap.size=n:=⟨_,rfl⟩
 obtain ⟨g1,e1⟩:∃ n,w1.heap.size=n:=⟨_,rfl⟩
 obtain ⟨g2,e2⟩:∃ n,w2.heap.size=n:=⟨_,rfl⟩
 rw [e0,e1] at l1
 rw [e1,e2] at l2
 rw [e0] at BA
 rw [e1] at BB
 rw [e2] at BC
 rw [e0,e1,e2]
 go_loopw [6] (fun i wr=>∃ k:Nat,k≤4∧i=.int .i64 k∧Far w wr∧Blk wr g0 205 (c4 (upW (timesW f g) f k))∧Blk wr g1 205 (c4 g)∧Blk wr g2 205 #[.complex .f64 0 0,.complex .f64 0 0,.complex .f64 0 0,.complex .f64 0 0]) (fun i _=>4 - (intOf i).toNat)
 case atStart=>exact ⟨0,Nat.zero_le _,rfl,FR.out,BA.out,BB.out,BC.out⟩
 case round =>
  obtain ⟨k,hk,rfl,hf,hba,hbb,hbc⟩:=hrel
  clear FR BA BB BC
  have FR:=zH hf
  have BA:=zH hba
  have BB:=zH hbb
  have BC:=zH hbc
  clear hf hba hbb hbc
  by_cases hlt:k < 4
  ·have p1:(k:Int) < 4:=by omega
   have hop:=OP.out k hlt
   have ca:=BA.out.draw.cell k
   rw [c4_at _ _ hlt,upW_at] at ca
   have cb:=BB.out.draw.cell k
   rw [c4_at _ _ hlt] at cb
   unfold cv at ca cb
   have SS:=zH (upW_set (timesW f g) f k hlt)
   go_wp2_with fail
   refine wp_region_T (fun w'=>w'.cell? ⟨g0,k,none⟩=some (.complex .f64 (f k).1 (f k).2)∧w'.cell? ⟨g1,k,none⟩=some (.complex .f64 (g k).1 (g k).2)∧w'=wr.drew) 7 (by kernel_rfl) ?_ (fun hS=>?_)
   ·exact ⟨ca,cb,rfl⟩
   refine kT 0 rfl hS ?_
   try simp only [pX]
   refine kT 1 rfl hS ?_
   try simp only [pX]
   refine kT 2 rfl hS ?_
   try simp only [pX]
   refine kT 3 rfl hS ?_
   try simp only [pX]
   refine kT 4 rfl hS ?_
   try simp only [pX]
   refine kT 5 rfl hS ?_
   try simp only [pX]
   refine kT 6 rfl hS ?_
   try simp only [pX]
   refine wpAnyT_tail _ _ rfl rfl (by kernel_rfl) ?_
   clear hS ca cb
   go_wp2_with (refine wpList_store_one rfl 204 (.tmp 16) (.tmp 15) rfl g0 k (cv (timesW f g k)) rfl rfl rfl rfl _ (c4 (upW (timesW f g) f k)) (c4 (upW (timesW f g) f (k+1))) BA.out.draw (by simp [c4];omega) (by kernel_rfl) (by rw [← SS.out];exact set_list _ _ _ (by simp [c4];omega)) ?_;intro w5 B5 g5)
   exact ⟨⟨k+1,by omega,by go_num,FR.out.draw.away g5 (by omega),B5,BB.out.draw.away g5 (.inr (by omega)),BC.out.draw.away g5 (.inr (by omega))⟩,by simp [intOf];omega⟩
  ·obtain rfl:k=4:=by omega
   have BA:=zH (show Blk wr g0 205 (c4 (timesW f g)) by rw [← upW_end (timesW f g) f];exact BA.out)
   go_wp2_with (first|(refine wpList_load_blk rfl 205 (.tmp 2) rfl g0 0 rfl _ (c4 (timesW f g)) (c4 (timesW f g)) _ BA.out Tryz.underlying205 rfl (by show _=some 4;kernel_rfl) rfl ?_)|(refine wpList_store_all rfl 205 (.tmp 4) (.tmp 18) rfl g2 (c4 (timesW f g)) rfl rfl _ _ BC.out rfl (by show _=some 4;kernel_rfl) (c4_one _) ?_;intro w5 B5 g5))
   refine ret_array rfl B5 rfl Tryz.underlying205 (by show _=some 4;kernel_rfl) rfl ?_
   exact ⟨rfl,by have:=FR.out.away g5 (by omega);exact this.out⟩
theorem fourPlus_any (f g:Nat → Fx.Wd) (w:World) (hv:∀ i,i < 4 → cSumBits .add .f64 (f i).1 (f i).2 (g i).1 (g i).2=some ((plusW f g i).1,(plusW f g i).2)) :
  Calls Tryz.prog 158 #[.agg (c4 f),.agg (c4 g)] w fun e w'=>e=.returned (.agg (c4 (plusW f g)))∧Below w.heap.size w w':=by
 have OP:=zH (fun k hk t w=>run_complex_sum (P:=Tryz.prog) w .add (.inl rfl) t .f64 _ _ _ _ _ _ (hv k hk))
 have FR:=zH (Far.refl w)
 obtain ⟨w1,hw_w1,BA,k_w1⟩:=nB w #[.complex .f64 (f 0).1 (f 0).2,.complex .f64 (f 1).1 (f 1).2,.complex .f64 (f 2).1 (f 2).2,.complex .f64 (f 3).1 (f 3).2] 205
 replace FR:=zH (FR.out.fut k_w1)
 clear k_w1
 obtain ⟨w2,hw_w2,BB,k_w2⟩:=nB w1 #[.complex .f64 (g 0).1 (g 0).2,.complex .f64 (g 1).1 (g 1).2,.complex .f64 (g 2).1 (g 2).2,.complex .f64 (g 3).1 (g 3).2] 205
 replace FR:=zH (FR.out.fut k_w2)
 replace BA:=zH (BA.out.fut k_w2)
 clear k_w2
 obtain ⟨w3,hw_w3,BC,k_w3⟩:=nB w2 #[.complex .f64 0 0,.complex .f64 0 0,.complex .f64 0 0,.complex .f64 0 0] 205
 replace FR:=zH (FR.out.fut k_w3)
 replace BA:=zH (BA.out.fut k_w3)
 replace BB:=zH (BB.out.fut k_w3)
 clear k_w3
 clear hv
 unfold c4 cv
 go_enter Tryz.func158,Tryz.ntmps158
 go_wp2_with fail
 have l1:w.heap.size < w1.heap.size:=by rw [← hw_w1];simp
 have l2:w1.heap.size < w2.heap.size:=by rw [← hw_w2];simp
 clear hw_w1 hw_w2 hw_w3
 replace BA:=zH (show Blk w3 w.heap.size 205 (c4 (upW (plusW f g) f 0)) by rw [upW_zero];exact BA.out)
 replace BB:=zH (show Blk w3 w1.heap.size 205 (c4 g) from BB.out)
 obtain ⟨g0,e0⟩:∃ n,w.heap.size=n:=⟨_,rfl⟩
 obtain ⟨g1,e1⟩:∃ n,w1.heap.size=n:=⟨_,rfl⟩
 obtain ⟨g2,e2⟩:∃ n,w2.heap.size=n:=⟨_,rfl⟩
 rw [e0,e1] at l1
 rw [e1,e2] at l2
 rw [e0] at BA
 rw [e1] at BB
 rw [e2] at BC
 rw [e0,e1,e2]
 go_loopw [6] (fun i wr=>∃ k:Nat,k≤4∧i=.int .i64 k∧Far w wr∧Blk wr g0 205 (c4 (upW (plusW f g) f k))∧Blk wr g1 205 (c4 g)∧Blk wr g2 205 #[.complex .f64 0 0,.complex .f64 0 0,.complex .f64 0 0,.complex .f64 0 0]) (fun i _=>4 - (intOf i).toNat)
 case atStart=>exact ⟨0,Nat.zero_le _,rfl,FR.out,BA.out,BB.out,BC.out⟩
 case round =>
  obtain ⟨k,hk,rfl,hf,hba,hbb,hbc⟩:=hrel
  clear FR BA BB BC
  have FR:=zH hf
  have BA:=zH hba
  have BB:=zH hbb
  have BC:=zH hbc
  clear hf hba hbb hbc
  by_cases hlt:k < 4
  ·have p1:(k:Int) < 4:=by omega
   have hop:=OP.out k hlt
   have ca:=BA.out.draw.cell k
   rw [c4_at _ _ hlt,upW_at] at ca
   have cb:=BB.out.draw.cell k
   rw [c4_at _ _ hlt] at cb
   unfold cv at ca cb
   have SS:=zH (upW_set (plusW f g) f k hlt)
   go_wp2_with fail
   refine wp_region_T (fun w'=>w'.cell? ⟨g0,k,none⟩=some (.complex .f64 (f k).1 (f k).2)∧w'.cell? ⟨g1,k,none⟩=some (.complex .f64 (g k).1 (g k).2)∧w'=wr.drew) 7 (by kernel_rfl) ?_ (fun hS=>?_)
   ·exact ⟨ca,cb,rfl⟩
   refine kT 0 rfl hS ?_
   try simp only [pX]
   refine kT 1 rfl hS ?_
   try simp only [pX]
   refine kT 2 rfl hS ?_
   try simp only [pX]
   refine kT 3 rfl hS ?_
   try simp only [pX]
   refine kT 4 rfl hS ?_
   try simp only [pX]
   refine kT 5 rfl hS ?_
   try simp only [pX]
   refine kT 6 rfl hS ?_
   try simp only [pX]
   refine wpAnyT_tail _ _ rfl rfl (by kernel_rfl) ?_
   clear hS ca cb
   go_wp2_with (refine wpList_store_one rfl 204 (.tmp 16) (.tmp 15) rfl g0 k (cv (plusW f g k)) rfl rfl rfl rfl _ (c4 (upW (plusW f g) f k)) (c4 (upW (plusW f g) f (k+1))) BA.out.draw (by simp [c4];omega) (by kernel_rfl) (by rw [← SS.out];exact set_list _ _ _ (by simp [c4];omega)) ?_;intro w5 B5 g5)
   exact ⟨⟨k+1,by omega,by go_num,FR.out.draw.away g5 (by omega),B5,BB.out.draw.away g5 (.inr (by omega)),BC.out.draw.away g5 (.inr (by omega))⟩,by simp [intOf];omega⟩
  ·obtain rfl:k=4:=by omega
   have BA:=zH (show Blk wr g0 205 (c4 (plusW f g)) by rw [← upW_end (plusW f g) f];exact BA.out)
   go_wp2_with (first|(refine wpList_load_blk rfl 205 (.tmp 2) rfl g0 0 rfl _ (c4 (plusW f g)) (c4 (plusW f g)) _ BA.out Tryz.underlying205 rfl (by show _=some 4;kernel_rfl) rfl ?_)|(refine wpList_store_all rfl 205 (.tmp 4) (.tmp 18) rfl g2 (c4 (plusW f g)) rfl rfl _ _ BC.out rfl (by show _=some 4;kernel_rfl) (c4_one _) ?_;intro w5 B5 g5))
   refine ret_array rfl B5 rfl Tryz.underlying205 (by show _=some 4;kernel_rfl) rfl ?_
   exact ⟨rfl,by have:=FR.out.away g5 (by omega);exact this.out⟩
end Go.Proofs.YtjkmjpjknmghlaaGreat
namespace Go.Proofs.YtjkmjpjknmghlaaGreat
open Go.RowKit Go.ChangeShapes Go.WideShapes Fx
set_option maxRecDepth 100000
set_option maxHeartbeats 2000000
def backZ (z:Nat → Int × Int):Nat → Int:=fun i=>(sumsZ (0,1) z i).1.tdiv 4
theorem fourBack_any (f:Nat → Fx.Wd) (z:Nat → Int × Int) (B:Nat) (w:World) (hx:∀ i,i < 4 → Cd (f i) (z i)) (hz:∀ i,i < 4 → Cb (z i) B) (hB:B < 2 ^ 50) :
  Calls Tryz.prog 167 #[.agg (c4 f)] w fun e w'=>e=.returned (.agg (i4 .i64 (backZ z)))∧Below w.heap.size w w':=by
 have FR:=zH (Far.refl w)
 obtain ⟨w1,hw_w1,BA,k_w1⟩:=nB w #[.complex .f64 (f 0).1 (f 0).2,.complex .f64 (f 1).1 (f 1).2,.complex .f64 (f 2).1 (f 2).2,.complex .f64 (f 3).1 (f 3).2] 205
 replace FR:=zH (FR.out.fut k_w1)
 clear k_w1
 obtain ⟨w2,hw_w2,BO,k_w2⟩:=nB w1 #[.int .i64 0,.int .i64 0,.int .i64 0,.int .i64 0] 221
 replace FR:=zH (FR.out.fut k_w2)
 replace BA:=zH (BA.out.fut k_w2)
 clear k_w2
 obtain ⟨w3,hw_w3,BC,k_w3⟩:=nB w2 #[.int .i64 0,.int .i64 0,.int .i64 0,.int .i64 0] 221
 replace FR:=zH (FR.out.fut k_w3)
 replace BA:=zH (BA.out.fut k_w3)
 replace BO:=zH (BO.out.fut k_w3)
 clear k_w3
 have SU:=zH (fun w=>sums_any f leftW z (0,1) B w hx cd_left (.inl rfl) hz hB)
 have OK:=zH (fun k=>sums_ok cd_left (.inl rfl) hx hz hB k)
 clear hx hz
 have c0:w3.cell? ⟨w.heap.size,0,none⟩=some (.complex .f64 (f 0).1 (f 0).2):=BA.out.cell 0
 have c1:w3.cell? ⟨w.heap.size,1,none⟩=some (.complex .f64 (f 1).1 (f 1).2):=BA.out.cell 1
 have c2:w3.cell? ⟨w.heap.size,2,none⟩=some (.complex .f64 (f 2).1 (f 2).2):=BA.out.cell 2
 have c3:w3.cell? ⟨w.heap.size,3,none⟩=some (.complex .f64 (f 3).1 (f 3).2):=BA.out.cell 3
 unfold c4 cv
 go_enter Tryz.func167,Tryz.ntmps167
 go_wp2_with fail
 refine (SU.out _).mono ?_
 rintro e w4 ⟨rfl,hb⟩
 have l1:w.heap.size < w1.heap.size:=by rw [← hw_w1];simp
 have l2:w1.heap.size < w2.heap.size:=by rw [← hw_w2];simp
 clear hw_w1 hw_w2 hw_w3 c0 c1 c2 c3
 replace FR:=zH (FR.out.fut hb)
 replace BO:=zH (BO.out.fut hb)
 replace BC:=zH (BC.out.fut hb)
 clear hb
 replace BC:=zH (show Blk w4 w2.heap.size 221 (i4 .i64 (upI (backZ z) (fun _=>0) 0)) by rw [upI_zero];exact BC.out)
 obtain ⟨g0,e0⟩:∃ n,w.heap.size=n:=⟨_,rfl⟩
 obtain ⟨g1,e1⟩:∃ n,w1.heap.size=n:=⟨_,rfl⟩
 obtain ⟨g2,e2⟩:∃ n,w2.heap.size=n:=⟨_,rfl⟩
 rw [e0,e1] at l1
 rw [e1,e2] at l2
 rw [e1] at BO
 rw [e2] at BC
 rw [e0,e1,e2]
 clear BA
 unfold c4 cv
 go_wp2_with fail
 go_loopw [8] (fun i wr=>∃ k:Nat,k≤4∧i=.int .i64 k∧Far w wr∧Blk wr g1 221 #[.int .i64 0,.int .i64 0,.int .i64 0,.int .i64 0]∧Blk wr g2 221 (i4 .i64 (upI (backZ z) (fun _=>0) k))) (fun i _=>4 - (intOf i).toNat)
 case atStart=>exact ⟨0,Nat.zero_le _,rfl,FR.out,BO.out,BC.out⟩
 case round =>
  obtain ⟨k,hk,rfl,hf,hbo,hbc⟩:=hrel
  clear FR BO BC
  have FR:=zH hf
  have BO:=zH hbo
  have BC:=zH hbc
  clear hf hbo hbc
  by_cases hlt:k < 4
  ·have p1:(k:Int) < 4:=by omega
   have hix:=c4_at (sumsW leftW f) k hlt
   unfold c4 cv at hix
   have hir:=zH (fun w=>run_index_c4 (P:=Tryz.prog) w 205 204 _ _ _ _ _ Tryz.underlying205 (by kernel_rfl) Tryz.underlying204 k hlt hix)
   clear hix
   obtain ⟨q1,q2⟩:=OK.out k
   obtain ⟨re,hre⟩:∃ x,(sumsZ (0,1) z k).1=x:=⟨_,rfl⟩
   have q3:=q1.1
   have q4:=q2.1
   rw [hre] at q3 q4
   have hbk:backZ z k=re.tdiv 4:=by unfold backZ;rw [hre]
   have CX:=zH (fun w=>run_convert_float_int (P:=Tryz.prog) w 219 2 .f64 .i64 _ _ (by rw [Tryz.underlying219];rfl) Tryz.underlying2 (q3.int (by omega) (by omega)))
   have SS:=zH (upI_set .i64 (backZ z) (fun _=>0) k hlt)
   clear q1 q2 q3 hre
   go_wp2_with (first|simp only [hir.out]|simp only [CX.out]|(refine wpList_store_one rfl 2 (.tmp 17) (.tmp 16) rfl g2 k (.int .i64 (backZ z k)) rfl (by rw [hbk];rfl) rfl rfl _ (i4 .i64 (upI (backZ z) (fun _=>0) k)) (i4 .i64 (upI (backZ z) (fun _=>0) (k+1))) BC.out (by simp [i4];omega) (by kernel_rfl) (by rw [← SS.out];exact set_list _ _ _ (by simp [i4];omega)) ?_;intro w5 B5 g5))
   exact ⟨⟨k+1,by omega,by go_num,FR.out.away g5 (by omega),BO.out.away g5 (.inl (by omega)),B5⟩,by simp [intOf];omega⟩
  ·obtain rfl:k=4:=by omega
   have BC:=zH (show Blk wr g2 221 (i4 .i64 (backZ z)) by rw [← upI_end .i64 (backZ z) (fun _=>0)];exact BC.out)
   go_wp2_with (first|(refine wpList_load_blk rfl 221 (.tmp 3) rfl g2 0 rfl _ (i4 .i64 (backZ z)) (i4 .i64 (backZ z)) _ BC.out Tryz.underlying221 rfl (by show _=some 4;kernel_rfl) rfl ?_)|(refine wpList_store_all rfl 221 (.tmp 2) (.tmp 19) rfl g1 (i4 .i64 (backZ z)) rfl rfl _ _ BO.out rfl (by show _=some 4;kernel_rfl) (i4_one _ _) ?_;intro w5 B5 g5))
   refine ret_array rfl B5 rfl Tryz.underlying221 (by show _=some 4;kernel_rfl) rfl ?_
   exact ⟨rfl,by have:=FR.out.away g5 (by omega);exact this.out⟩
def w3Z (a b c:Int):Nat → Int:=fun i=>match i with|0=>c|1=>b|2=>a|_=>0
theorem wheelTurned_any (a b c:Int) (w:World) (ha:InK .i8 a) (hb:InK .i8 b) (hc:InK .i8 c) :
  Calls Tryz.prog 156 #[.agg #[.int .i8 a,.int .i8 b,.int .i8 c]] w fun e w'=>e=.returned (.agg (c4 (ofW (w3Z a b c))))∧Below w.heap.size w w':=by
 have FR:=zH (Far.refl w)
 obtain ⟨w1,hw_w1,BA,k_w1⟩:=nB w #[.int .i8 a,.int .i8 b,.int .i8 c] 183
 replace FR:=zH (FR.out.fut k_w1)
 clear k_w1
 obtain ⟨w2,hw_w2,BO,k_w2⟩:=nB w1 #[.complex .f64 0 0,.complex .f64 0 0,.complex .f64 0 0,.complex .f64 0 0] 205
 replace FR:=zH (FR.out.fut k_w2)
 replace BA:=zH (BA.out.fut k_w2)
 clear k_w2
 rw [inK_i8] at ha hb hc
 obtain ⟨a1,a2⟩:=ha
 obtain ⟨b1,b2⟩:=hb
 obtain ⟨d1,d2⟩:=hc
 have OF:=zH (fun w=>fourOf_any (w3Z a b c) 128 w (fun i hi=>by unfold w3Z;split <;> omega) (by decide))
 have c0:=BA.out.cell 0
 have c1:=BA.out.cell 1
 have c2:=BA.out.cell 2
 go_enter Tryz.func156,Tryz.ntmps156
 go_wp2_with fail
 refine (OF.out _).mono ?_
 rintro e w4 ⟨rfl,hb⟩
 have l1:w.heap.size < w1.heap.size:=by rw [← hw_w1];simp
 clear hw_w1 hw_w2 c0 c1 c2
 replace FR:=zH (FR.out.fut hb)
 replace BO:=zH (BO.out.fut hb)
 clear hb
 go_wp2_with (first|(refine wpList_store_all rfl 205 (.tmp 2) (.tmp 13) rfl w1.heap.size (c4 (ofW (w3Z a b c))) rfl rfl _ _ BO.out rfl (by show _=some 4;kernel_rfl) (c4_one _) ?_;intro w5 B5 g5))
 refine ret_array rfl B5 rfl Tryz.underlying205 (by show _=some 4;kernel_rfl) rfl ?_
 exact ⟨rfl,by have:=FR.out.away g5 (by omega);exact this.out⟩
theorem wheelBoth_any (f:Nat → Fx.Wd) (z:Nat → Int × Int) (B:Nat) (w:World) (hx:∀ i,i < 4 → Cd (f i) (z i)) (hz:∀ i,i < 4 → Cb (z i) B) (hB:B < 2 ^ 50) :
  Calls Tryz.prog 162 #[.agg (c4 f)] w fun e w'=>e=.returned (.agg #[.int .i64 (backZ z 2),.int .i64 (backZ z 3)])∧Below w.heap.size w w':=by
 have FR:=zH (Far.refl w)
 obtain ⟨w1,hw_w1,BA,k_w1⟩:=nB w #[.complex .f64 (f 0).1 (f 0).2,.complex .f64 (f 1).1 (f 1).2,.complex .f64 (f 2).1 (f 2).2,.complex .f64 (f 3).1 (f 3).2] 205
 replace FR:=zH (FR.out.fut k_w1)
 clear k_w1
 obtain ⟨w2,hw_w2,BO,k_w2⟩:=nB w1 #[.int .i64 0,.int .i64 0] 212
 replace FR:=zH (FR.out.fut k_w2)
 replace BA:=zH (BA.out.fut k_w2)
 clear k_w2
 have BK:=zH (fun w=>fourBack_any f z B w hx hz hB)
 clear hx hz hB
 have c0:w2.cell? ⟨w.heap.size,0,none⟩=some (.complex .f64 (f 0).1 (f 0).2):=BA.out.cell 0
 have c1:w2.cell? ⟨w.heap.size,1,none⟩=some (.complex .f64 (f 1).1 (f 1).2):=BA.out.cell 1
 have c2:w2.cell? ⟨w.heap.size,2,none⟩=some (.complex .f64 (f 2).1 (f 2).2):=BA.out.cell 2
 have c3:w2.cell? ⟨w.heap.size,3,none⟩=some (.complex .f64 (f 3).1 (f 3).2):=BA.out.cell 3
 unfold c4 cv
 go_enter Tryz.func162,Tryz.ntmps162
 go_wp2_with fail
 refine (BK.out _).mono ?_
 rintro e w4 ⟨rfl,hb⟩
 have l1:w.heap.size < w1.heap.size:=by rw [← hw_w1];simp
 have l2:w1.heap.size < w2.heap.size:=by rw [← hw_w2];simp
 have l3:=hb.size
 clear hw_w1 hw_w2 c0 c1 c2 c3
 replace FR:=zH (FR.out.fut hb)
 replace BO:=zH (BO.out.fut hb)
 clear hb
 unfold i4
 go_wp2_with (refine wpList_store_all rfl 212 (.tmp 2) (.tmp 10) rfl w1.heap.size #[.int .i64 (backZ z 2),.int .i64 (backZ z 3)] rfl rfl _ _ (BO.out.past _) rfl (by kernel_rfl) (by rw [← Array.all_toList];rfl) ?_;intro w5 B5 g5)
 refine ret_array rfl B5 rfl Tryz.underlying212 (by kernel_rfl) rfl ?_
 refine ⟨rfl,?_⟩
 have h5:Below w.heap.size w (w4.alloc (.cells #[.int .i64 (backZ z 0),.int .i64 (backZ z 1),.int .i64 (backZ z 2),.int .i64 (backZ z 3)] 221)):=FR.out.out.alloc (by omega) _
 exact h5.grown g5 (by simp;omega) (fun j hj=>by have:=Option.some.inj hj;omega)
end Go.Proofs.YtjkmjpjknmghlaaGreat
namespace Go.Proofs.YtjkmjpjknmghlaaGreat
open Go.RowKit Go.ChangeShapes Go.WideShapes
set_option maxRecDepth 100000
set_option maxHeartbeats 4000000
def takesV (d:Node):List Int:=if d.kind=6 then [d.a,d.b] else [d.a]
def secondV (d:Node):Int:=if d.kind=6 then d.b else d.a
def thereV (d:Node) (many:Int):Bool:=decide (0≤d.a∧d.a < many) && (decide (d.kind ≠ 6) || decide (0≤d.b∧d.b < many))
theorem takes_any (d:Node) (W:Option Addr) (nw cw:Nat) (B:Option Addr) (nb cb:Nat) (w:World) (ha:InK .i64 d.a) (hb:InK .i64 d.b) :
  Calls Tryz.prog 22 #[.agg (nN d.kind d.a d.b d.k d.s d.p d.out d.za d.zb W nw cw B nb cb d.qm d.qs d.qz d.rm d.rs d.rz d.lo d.hi)] w (RetSl (tInt .i64) w (takesV d)):=by
 have FR:=zH (Far.refl w)
 obtain ⟨w1,hw_w1,BN,k_w1⟩:=nB w (nN d.kind d.a d.b d.k d.s d.p d.out d.za d.zb W nw cw B nb cb d.qm d.qs d.qz d.rm d.rs d.rz d.lo d.hi) 44
 replace FR:=zH (FR.out.fut k_w1)
 clear k_w1
 have c0:=BN.out.cell 0
 have c1:=BN.out.cell 1
 have c2:=BN.out.cell 2
 have l1:w.heap.size≤w1.heap.size:=by rw [← hw_w1];simp
 have HA:=zH ha
 have HB:=zH hb
 clear ha hb
 unfold takesV
 by_cases k6:d.kind=6
 ·have t6:(d.kind == 6)=true:=by simpa using k6
  rw [if_pos k6]
  clear k6
  go_enter Tryz.func22,Tryz.ntmps22
  go_wp2_with fail
  go_ret
  refine ⟨some ⟨w1.heap.size,0,none⟩,2,2,rfl,Sl.lit [d.a,d.b] (heap_now _ _ _ rfl) rfl (by intro x hx;simp at hx;rcases hx with rfl|rfl;exact HA.out;exact HB.out) ⟨l1,by simp⟩ rfl rfl (by simp [maxLen]),FR.out.out.alloc l1 _⟩
 ·have t6:(d.kind == 6)=false:=by simpa using k6
  rw [if_neg k6]
  clear k6
  go_enter Tryz.func22,Tryz.ntmps22
  go_wp2_with fail
  go_ret
  refine ⟨some ⟨w1.heap.size,0,none⟩,1,1,rfl,Sl.lit [d.a] (heap_now _ _ _ rfl) rfl (by intro x hx;simp at hx;subst hx;exact HA.out) ⟨l1,by simp⟩ rfl rfl (by simp [maxLen]),FR.out.out.alloc l1 _⟩
theorem of_any (d:Node) (W:Option Addr) (nw cw:Nat) (B:Option Addr) (nb cb:Nat) (w:World) (ha:InK .i64 d.a) (hb:InK .i64 d.b) :
  Calls Tryz.prog 28 #[.agg (nN d.kind d.a d.b d.k d.s d.p d.out d.za d.zb W nw cw B nb cb d.qm d.qs d.qz d.rm d.rs d.rz d.lo d.hi)] w fun e w'=>e=.returned (.int .i64 (secondV d))∧Below w.heap.size w w':=by
 obtain ⟨r,hr⟩:∃ r,secondV d=r:=⟨_,rfl⟩
 rw [hr]
 have TK:=zH (fun w=>takes_any d W nw cw B nb cb w ha hb)
 have FR:=zH (Far.refl w)
 obtain ⟨w1,hw_w1,BN,k_w1⟩:=nB w (nN d.kind d.a d.b d.k d.s d.p d.out d.za d.zb W nw cw B nb cb d.qm d.qs d.qz d.rm d.rs d.rz d.lo d.hi) 44
 replace FR:=zH (FR.out.fut k_w1)
 clear k_w1
 unfold takesV at TK
 unfold secondV at hr
 by_cases k6:d.kind=6
 ·rw [if_pos k6] at TK hr
  have R:=zH hr
  clear k6 hr ha hb
  go_enter Tryz.func28,Tryz.ntmps28
  go_wp2_with (refine lB 44 (.tmp 1) w.heap.size BN.out Tryz.underlying44 ?_)
  refine (TK.out _).mono ?_
  rintro e w2 ⟨A,n,cap,rfl,hs,hb⟩
  obtain rfl:n=2:=hs.n_eq.symm
  obtain ⟨b,off,rfl,_,_,c1,_⟩:=hs.int_at 1 (by decide)
  rw [show [d.a,d.b].getD 1 0=d.b from rfl] at c1
  replace FR:=zH (FR.out.fut hb)
  clear hb
  clear hs hw_w1
  go_wp2_with fail
  go_ret
  exact ⟨by rw [← R.out];rfl,FR.out.out⟩
 ·rw [if_neg k6] at TK hr
  have R:=zH hr
  clear k6 hr ha hb
  go_enter Tryz.func28,Tryz.ntmps28
  go_wp2_with (refine lB 44 (.tmp 1) w.heap.size BN.out Tryz.underlying44 ?_)
  refine (TK.out _).mono ?_
  rintro e w2 ⟨A,n,cap,rfl,hs,hb⟩
  obtain rfl:n=1:=hs.n_eq.symm
  obtain ⟨b,off,rfl,_,_,c1,_⟩:=hs.int_at 0 (by decide)
  rw [show [d.a].getD 0 0=d.a from rfl,Nat.add_zero] at c1
  replace FR:=zH (FR.out.fut hb)
  clear hb
  clear hs hw_w1
  go_wp2_with fail
  go_ret
  exact ⟨by rw [← R.out];rfl,FR.out.out⟩
theorem there_any (d:Node) (W:Option Addr) (nw cw:Nat) (B:Option Addr) (nb cb:Nat) (many:Int) (w:World) (ha:InK .i64 d.a) (hb:InK .i64 d.b) :
  Calls Tryz.prog 21 #[.agg (nN d.kind d.a d.b d.k d.s d.p d.out d.za d.zb W nw cw B nb cb d.qm d.qs d.qz d.rm d.rs d.rz d.lo d.hi),.int .i64 many] w fun e w'=>e=.returned (.bool (thereV d many))∧Below w.heap.size w w':=by
 obtain ⟨r,hr⟩:∃ r,thereV d many=r:=⟨_,rfl⟩
 rw [hr]
 have TK:=zH (fun w=>takes_any d W nw cw B nb cb w ha hb)
 have FR:=zH (Far.refl w)
 obtain ⟨w1,hw_w1,BN,k_w1⟩:=nB w (nN d.kind d.a d.b d.k d.s d.p d.out d.za d.zb W nw cw B nb cb d.qm d.qs d.qz d.rm d.rs d.rz d.lo d.hi) 44
 replace FR:=zH (FR.out.fut k_w1)
 clear k_w1
 obtain ⟨l,hl⟩:∃ l,takesV d=l:=⟨_,rfl⟩
 rw [hl] at TK
 have R:=zH (show (r=true ↔ ∀ j,j < l.length → 0≤l.getD j 0∧l.getD j 0 < many)∧l.length≤2 by
  rw [← hr,← hl]
  unfold thereV takesV
  by_cases k6:d.kind=6
  ·rw [if_pos k6]
   refine ⟨?_,by simp⟩
   simp only [k6,Bool.and_eq_true,Bool.or_eq_true,decide_eq_true_eq,ne_eq,not_true_eq_false,false_or]
   constructor
   ·intro h j hj
    match j,hj with
    | 0,_=>exact h.1
    | 1,_=>exact h.2
   ·intro h;exact ⟨h 0 (by simp),h 1 (by simp)⟩
  ·rw [if_neg k6]
   refine ⟨?_,by simp⟩
   simp only [k6,Bool.and_eq_true,Bool.or_eq_true,decide_eq_true_eq,ne_eq,not_false_eq_true,true_or,and_true]
   constructor
   ·intro h j hj
    match j,hj with
    | 0,_=>exact h
   ·intro h;exact h 0 (by simp))
 clear hl hr ha hb
 go_enter Tryz.func21,Tryz.ntmps21
 go_wp2_with (refine lB 44 (.tmp 2) w.heap.size BN.out Tryz.underlying44 ?_)
 refine (TK.out _).mono ?_
 rintro e w2 ⟨A,n,cap,rfl,hs,hb⟩
 have hn:=hs.n_eq
 have HS:=zH hs
 have hn2:=R.out.2
 rw [hn] at hn2
 replace FR:=zH (FR.out.fut hb)
 clear hb
 have HN:=zH hn
 clear hs hw_w1 TK hn
 go_wp2_with fail
 go_loopw [10] (fun i wr=>∃ k:Nat,k≤n∧i=.int .i64 k∧Below w2.heap.size w2 wr∧∀ j,j < k → 0≤l.getD j 0∧l.getD j 0 < many) (fun i _=>n - (intOf i).toNat)
 case atStart=>exact ⟨0,Nat.zero_le _,rfl,Below.refl _ _,fun j hj=>absurd hj (Nat.not_lt_zero _)⟩
 case round =>
  obtain ⟨k,hk,rfl,hb,hq⟩:=hrel
  have HQ:=zH hq
  have HB:=zH hb
  clear hq hb
  by_cases hlt:k < n
  ·obtain ⟨b,off,rfl,_,_,c0,_⟩:=(HS.out.below HB.out (fun _ h=>h.2)).int_at k hlt
   have p1:(k:Int) < (n:Int):=by omega
   obtain ⟨x,hx⟩:∃ x,l.getD k 0=x:=⟨_,rfl⟩
   rw [hx] at c0
   have HX:=zH hx
   clear hx
   by_cases g:0≤x∧x < many
   ·have g1:decide (x < 0)=false:=by simp;omega
    have g2:decide (many≤x)=false:=by simp;omega
    have G:=zH g
    clear g
    go_wp2_with fail
    refine ⟨⟨k+1,by omega,by go_num,HB.out,fun j hj=>?_⟩,by simp [intOf];omega⟩
    by_cases hjk:j < k
    ·exact HQ.out j hjk
    ·obtain rfl:j=k:=by omega
     rw [HX.out];exact G.out
   ·have RF:r=false:=by
     cases hr:r with
     | false=>rfl
     | true =>
      have h:=R.out.1.1 hr k (by rw [HN.out];exact hlt)
      rw [HX.out] at h
      exact absurd h g
    have RF':=zH RF
    clear RF
    by_cases g1:x < 0
    ·have t1:decide (x < 0)=true:=decide_eq_true g1
     clear g g1
     go_wp2_with fail
     go_ret
     exact ⟨by rw [RF'.out];rfl,below_later HB.out FR.out.out⟩
    ·have t1:decide (x < 0)=false:=decide_eq_false g1
     have t2:decide (many≤x)=true:=by simp;omega
     clear g g1
     go_wp2_with fail
     go_ret
     exact ⟨by rw [RF'.out];rfl,below_later HB.out FR.out.out⟩
  ·obtain rfl:k=n:=by omega
   have RT:=zH (R.out.1.2 (by rw [HN.out];exact HQ.out))
   clear hlt hk
   go_wp2_with fail
   go_ret
   exact ⟨by rw [RT.out];rfl,below_later HB.out FR.out.out⟩
theorem second_any (d:Node) (W:Option Addr) (nw cw:Nat) (B:Option Addr) (nb cb:Nat) (w:World) :
  Calls Tryz.prog 20 #[.agg (nN d.kind d.a d.b d.k d.s d.p d.out d.za d.zb W nw cw B nb cb d.qm d.qs d.qz d.rm d.rs d.rz d.lo d.hi)] w fun e w'=>e=.returned (.int .i64 (secondV d))∧Below w.heap.size w w':=by
 obtain ⟨r,hr⟩:∃ r,secondV d=r:=⟨_,rfl⟩
 rw [hr]
 unfold secondV at hr
 have FR:=zH (Far.refl w)
 obtain ⟨w1,hw_w1,BN,k_w1⟩:=nB w (nN d.kind d.a d.b d.k d.s d.p d.out d.za d.zb W nw cw B nb cb d.qm d.qs d.qz d.rm d.rs d.rz d.lo d.hi) 44
 replace FR:=zH (FR.out.fut k_w1)
 clear k_w1
 have c0:=BN.out.cell 0
 have c1:=BN.out.cell 1
 have c2:=BN.out.cell 2
 by_cases k6:d.kind=6
 ·have t6:(d.kind == 6)=true:=by simpa using k6
  rw [if_pos k6] at hr
  have R:=zH hr
  clear k6 hr
  go_enter Tryz.func20,Tryz.ntmps20
  go_wp2_with fail
  go_ret
  exact ⟨by rw [← R.out];rfl,FR.out.out⟩
 ·have t6:(d.kind == 6)=false:=by simpa using k6
  rw [if_neg k6] at hr
  have R:=zH hr
  clear k6 hr
  go_enter Tryz.func20,Tryz.ntmps20
  go_wp2_with fail
  go_ret
  exact ⟨by rw [← R.out];rfl,FR.out.out⟩
theorem rthere_any (d:Node) (W:Option Addr) (nw cw:Nat) (B:Option Addr) (nb cb:Nat) (many:Int) (w:World) :
  Calls Tryz.prog 31 #[.agg (nN d.kind d.a d.b d.k d.s d.p d.out d.za d.zb W nw cw B nb cb d.qm d.qs d.qz d.rm d.rs d.rz d.lo d.hi),.int .i64 many] w fun e w'=>e=.returned (.bool (thereV d many))∧Below w.heap.size w w':=by
 obtain ⟨r,hr⟩:∃ r,thereV d many=r:=⟨_,rfl⟩
 rw [hr]
 unfold thereV at hr
 have FR:=zH (Far.refl w)
 obtain ⟨w1,hw_w1,BN,k_w1⟩:=nB w (nN d.kind d.a d.b d.k d.s d.p d.out d.za d.zb W nw cw B nb cb d.qm d.qs d.qz d.rm d.rs d.rz d.lo d.hi) 44
 replace FR:=zH (FR.out.fut k_w1)
 clear k_w1
 have c0:=BN.out.cell 0
 have c1:=BN.out.cell 1
 have c2:=BN.out.cell 2
 by_cases h1:0≤d.a
 rotate_left
 ·have t1:decide (0≤d.a)=false:=decide_eq_false h1
  have R:=zH (show r=false by rw [← hr];simp;omega)
  clear hr h1
  go_enter Tryz.func31,Tryz.ntmps31
  go_wp2_with fail
  go_ret
  exact ⟨by rw [R.out];rfl,FR.out.out⟩
 have t1:decide (0≤d.a)=true:=decide_eq_true h1
 by_cases h2:d.a < many
 rotate_left
 ·have t2:decide (d.a < many)=false:=decide_eq_false h2
  have R:=zH (show r=false by rw [← hr];simp;omega)
  clear hr h1 h2
  go_enter Tryz.func31,Tryz.ntmps31
  go_wp2_with fail
  go_ret
  exact ⟨by rw [R.out];rfl,FR.out.out⟩
 have t2:decide (d.a < many)=true:=decide_eq_true h2
 by_cases h3:d.kind=6
 rotate_left
 ·have t3:(d.kind != 6)=true:=by simpa using h3
  have R:=zH (show r=true by rw [← hr];simp [h3];omega)
  clear hr h1 h2 h3
  go_enter Tryz.func31,Tryz.ntmps31
  go_wp2_with fail
  go_ret
  exact ⟨by rw [R.out];rfl,FR.out.out⟩
 have t3:(d.kind != 6)=false:=by simpa using h3
 by_cases h4:0≤d.b
 rotate_left
 ·have t4:decide (0≤d.b)=false:=decide_eq_false h4
  have R:=zH (show r=false by rw [← hr];simp [h3];omega)
  clear hr h1 h2 h3 h4
  go_enter Tryz.func31,Tryz.ntmps31
  go_wp2_with fail
  go_ret
  exact ⟨by rw [R.out];rfl,FR.out.out⟩
 have t4:decide (0≤d.b)=true:=decide_eq_true h4
 by_cases h5:d.b < many
 ·have t5:decide (d.b < many)=true:=decide_eq_true h5
  have R:=zH (show r=true by rw [← hr];simp [h3];omega)
  clear hr h1 h2 h3 h4 h5
  go_enter Tryz.func31,Tryz.ntmps31
  go_wp2_with fail
  go_ret
  exact ⟨by rw [R.out];rfl,FR.out.out⟩
 ·have t5:decide (d.b < many)=false:=decide_eq_false h5
  have R:=zH (show r=false by rw [← hr];simp [h3];omega)
  clear hr h1 h2 h3 h4 h5
  go_enter Tryz.func31,Tryz.ntmps31
  go_wp2_with fail
  go_ret
  exact ⟨by rw [R.out];rfl,FR.out.out⟩
theorem ei_int:EI Tryz.prog 46 3 (.int .i64 0) 1 8:=⟨Tryz.underlying46,by kernel_rfl,rfl,by decide⟩
end Go.Proofs.YtjkmjpjknmghlaaGreat
