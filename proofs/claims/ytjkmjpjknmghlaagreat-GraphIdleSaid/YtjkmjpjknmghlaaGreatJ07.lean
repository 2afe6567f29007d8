/-
  Four numbers as sums of them (layer 14): the walks of four.turned and four.sums.
  Four numbers as sums of them (layer 14): the walks of four.Of, four.Times, four.Plus, four.Back.
  Four numbers as sums of them (layer 14): the walk of four.Back; wheel.turned, wheel.both (layer 15).
  Three weights moved over a row (layer 15): the walks of wheel.Blocks, wheel.at.
  Three weights moved over rows (layer 15): the plain law: what the sums of rounds of four give back are the sums of the windows.
  Three weights moved over rows (layer 15): rows of rows; wheel.alike where all rows are as long; wheel.Many where there are rows, at most 1024, as many as weights, all as long.
-/
import Derived.Test.YtjkmjpjknmghlaaGreatJ06
import Derived.Test.YtjkmjpjknmghlaaGreatJ04
set_option linter.unusedVariables false
set_option linter.unusedSimpArgs false
namespace Go.Proofs.YtjkmjpjknmghlaaGreat
open Go.RowKit Go.ChangeShapes Go.WideShapes Fx
set_option maxRecDepth 100000
set_option maxHeartbeats 2000000
def cv (x:Fx.Wd):Value:=.complex .f64 x.1 x.2
def c4 (f:Nat → Fx.Wd):Array Value:=#[cv (f 0),cv (f 1),cv (f 2),cv (f 3)]
theorem c4_at (f:Nat → Fx.Wd) (i:Nat) (h:i < 4):(c4 f)[i]?=some (cv (f i)):=by
 match i,h with
 | 0,_=>rfl
 | 1,_=>rfl
 | 2,_=>rfl
 | 3,_=>rfl
theorem c4_set (f g:Nat → Fx.Wd) (k:Nat) (h:k < 4) (hg:∀ i,i < 4 → i ≠ k → g i=f i):(c4 f).setIfInBounds k (cv (g k))=c4 g:=by
 unfold c4
 match k,h with
 | 0,_=>rw [hg 1 (by omega) (by omega),hg 2 (by omega) (by omega),hg 3 (by omega) (by omega)];rfl
 | 1,_=>rw [hg 0 (by omega) (by omega),hg 2 (by omega) (by omega),hg 3 (by omega) (by omega)];rfl
 | 2,_=>rw [hg 0 (by omega) (by omega),hg 1 (by omega) (by omega),hg 3 (by omega) (by omega)];rfl
 | 3,_=>rw [hg 0 (by omega) (by omega),hg 1 (by omega) (by omega),hg 2 (by omega) (by omega)];rfl
theorem turned_any (x q:Fx.Wd) (z qz:Int × Int) (B:Nat) (n:Int) (m:Nat) (w:World) (hx:Cd x z) (hq:Cd q qz) (h4:Quarter qz) (hz:Cb z B) (hB:B < 2 ^ 51) (h0:0≤n) (h9:n≤9) (hm:n % 4=m) :
  Calls Tryz.prog 168 #[.complex .f64 x.1 x.2,.complex .f64 q.1 q.2,.int .i64 n] w fun e w'=>e=.returned (.complex .f64 (turnW q x m).1 (turnW q x m).2)∧w'=w:=by
 have MU:=zH (fun k t w=>run_complex_mul (P:=Tryz.prog) w t _ _ _ _ _ _ (turn_mul hq h4 hx hz hB k))
 have hm4:m < 4:=by omega
 have hmt:n.tmod 4=m:=by rw [Int.tmod_eq_emod_of_nonneg h0];exact hm
 clear hx hq h4 hz hB
 go_enter Tryz.func168,Tryz.ntmps168
 go_wp2_with fail
 try rw [hmt]
 try rw [hm]
 go_loopw [0,9] (fun y i wr=>∃ k:Nat,k≤m∧i=.int .i64 k∧y=.complex .f64 (turnW q x k).1 (turnW q x k).2∧wr=w) (fun _ i _=>m - (intOf i).toNat)
 case atStart=>exact ⟨0,Nat.zero_le _,rfl,rfl,rfl⟩
 case round =>
  obtain ⟨k,hk,rfl,rfl,rfl⟩:=hrel
  by_cases hlt:k < m
  ·have p1:(k:Int) < (m:Int):=by omega
   have hop:=MU.out k
   go_wp2_with (simp only [hop])
   exact ⟨⟨k+1,by omega,by go_num,rfl,by trivial⟩,by simp [intOf];omega⟩
  ·obtain rfl:k=m:=by omega
   go_wp2_with fail
   go_ret
   exact ⟨rfl,by trivial⟩
theorem run_index_4 {P:Program} (w:World) (t e:TypeId) (a b c d v:Value) (h:P.underlying t=some (.array 4 e)) (h2:(P.info? e).map (·.size)=some 1) (hag:(isAgg e).run P w=.ok false w) (j:Nat) (hj:j < 4) (hv:#[a,b,c,d][j]?=some v):(Instr.index t (.agg #[a,b,c,d]) (.int .i64 j)).run P w=.ok v w:=by
 have hn:(0≤(j:Int)∧(j:Int) < (4:Nat)):=by omega
 cases hq:P.info? e with
 | none=>simp [hq] at h2
 | some i =>
 have hs:i.size=1:=by simpa [hq] using h2
 have hv':[a,b,c,d][j]?=some v:=by simpa using hv
 simp [Instr.index,run_underlying h,asIntOf,hn,go_sem,hj,sizeOf,typeInfo,hq,hs,hag]
 exact (List.getElem?_eq_some_iff.1 hv').2
theorem run_index_c4 {P:Program} (w:World) (t e:TypeId) (a b c d v:Value) (h:P.underlying t=some (.array 4 e)) (h2:(P.info? e).map (·.size)=some 1) (he:P.underlying e=some (.complex .f64)) (j:Nat) (hj:j < 4) (hv:#[a,b,c,d][j]?=some v):(Instr.index t (.agg #[a,b,c,d]) (.int .i64 j)).run P w=.ok v w :=
 run_index_4 w t e a b c d v h h2 (by simp [isAgg,run_underlying he]) j hj hv
theorem c4_one (f:Nat → Fx.Wd):(c4 f).all (·.oneCell')=true:=by rw [← Array.all_toList];rfl
theorem set_list (cs:Array Value) (k:Nat) (v:Value) (h:k < cs.size):(cs.setIfInBounds k v).toList=cs.toList.take k ++ [v] ++ cs.toList.drop (k+1):=by
 rw [Array.toList_setIfInBounds,List.set_eq_take_append_cons_drop,if_pos (by simpa using h)]
 simp
def sumSt (q:Fx.Wd) (f:Nat → Fx.Wd) (k j:Nat):Nat → Fx.Wd:=fun i=>if i < k then sumsW q f i else if i=k then sumW q f k j else (0,0)
theorem sumSt_set (q:Fx.Wd) (f:Nat → Fx.Wd) (k j:Nat) (h:k < 4):(c4 (sumSt q f k j)).setIfInBounds k (cv (sumW q f k (j+1)))=c4 (sumSt q f k (j+1)):=by
 have:=c4_set (sumSt q f k j) (sumSt q f k (j+1)) k h (fun i _ hi=>by unfold sumSt;by_cases c:i < k <;> simp [c,hi])
 rwa [show sumSt q f k (j+1) k=sumW q f k (j+1) by simp [sumSt]] at this
theorem sumSt_next (q:Fx.Wd) (f:Nat → Fx.Wd) (k:Nat):sumSt q f k 4=sumSt q f (k+1) 0:=by
 funext i
 unfold sumSt
 by_cases c:i < k
 ·simp [c,show i < k+1 by omega]
 ·by_cases c2:i=k
  ·subst c2;simp [sumsW]
  ·by_cases c3:i=k+1
   ·subst c3;simp [c,c2,sumW]
   ·simp [c,c2,c3,show ¬ i < k+1 by omega]
theorem sumSt_end (q:Fx.Wd) (f:Nat → Fx.Wd):c4 (sumSt q f 4 0)=c4 (sumsW q f):=by unfold c4 sumSt;simp
theorem c4_zero (q:Fx.Wd) (f:Nat → Fx.Wd):c4 (sumSt q f 0 0)=#[.complex .f64 0 0,.complex .f64 0 0,.complex .f64 0 0,.complex .f64 0 0]:=by unfold c4 cv sumSt;simp [sumW]
theorem sums_any (f:Nat → Fx.Wd) (q:Fx.Wd) (z:Nat → Int × Int) (qz:Int × Int) (B:Nat) (w:World) (hx:∀ i,i < 4 → Cd (f i) (z i)) (hq:Cd q qz) (h4:Quarter qz) (hz:∀ i,i < 4 → Cb (z i) B) (hB:B < 2 ^ 50) :
  Calls Tryz.prog 166 #[.agg (c4 f),.complex .f64 q.1 q.2] w fun e w'=>e=.returned (.agg (c4 (sumsW q f)))∧Below w.heap.size w w':=by
 have AD:=zH (fun k j hj t w=>run_complex_sum (P:=Tryz.prog) w .add (.inl rfl) t .f64 _ _ _ _ _ _ (sum_add hq h4 hx hz hB k j hj))
 have FR:=zH (Far.refl w)
 obtain ⟨w1,hw_w1,BA,k_w1⟩:=nB w #[.complex .f64 (f 0).1 (f 0).2,.complex .f64 (f 1).1 (f 1).2,.complex .f64 (f 2).1 (f 2).2,.complex .f64 (f 3).1 (f 3).2] 205
 replace FR:=zH (FR.out.fut k_w1)
 clear k_w1
 obtain ⟨w2,hw_w2,BO,k_w2⟩:=nB w1 #[.complex .f64 0 0,.complex .f64 0 0,.complex .f64 0 0,.complex .f64 0 0] 205
 replace FR:=zH (FR.out.fut k_w2)
 replace BA:=zH (BA.out.fut k_w2)
 clear k_w2
 obtain ⟨w3,hw_w3,BC,k_w3⟩:=nB w2 #[.complex .f64 0 0,.complex .f64 0 0,.complex .f64 0 0,.complex .f64 0 0] 205
 replace FR:=zH (FR.out.fut k_w3)
 replace BA:=zH (BA.out.fut k_w3)
 replace BO:=zH (BO.out.fut k_w3)
 clear k_w3
 have TU:=zH (fun (j k:Nat) (hj:j < 4) (hk:k < 4) w=>turned_any (f j) q (z j) qz B ((j:Int)*(k:Int)) ((j*k) % 4) w (hx j hj) hq h4 (hz j hj) (by omega))
 clear hx hq h4 hz hB
 unfold c4 cv
 go_enter Tryz.func166,Tryz.ntmps166
 go_wp2_with fail
 have l1:w.heap.size < w1.heap.size:=by rw [← hw_w1];simp
 have l2:w1.heap.size < w2.heap.size:=by rw [← hw_w2];simp
 clear hw_w1 hw_w2 hw_w3
 replace BA:=zH (show Blk w3 w.heap.size 205 (c4 f) from BA.out)
 replace BC:=zH (show Blk w3 w2.heap.size 205 (c4 (sumSt q f 0 0)) by rw [c4_zero];exact BC.out)
 obtain ⟨g0,e0⟩:∃ n,w.heap.size=n:=⟨_,rfl⟩
 obtain ⟨g1,e1⟩:∃ n,w1.heap.size=n:=⟨_,rfl⟩
 obtain ⟨g2,e2⟩:∃ n,w2.heap.size=n:=⟨_,rfl⟩
 rw [e0,e1] at l1
 rw [e1,e2] at l2
 rw [e0] at BA
 rw [e1] at BO
 rw [e2] at BC
 rw [e0,e1,e2]
 go_loopw [9] (fun i wr=>∃ k:Nat,k≤4∧i=.int .i64 k∧Far w wr∧Blk wr g0 205 (c4 f)∧Blk wr g1 205 #[.complex .f64 0 0,.complex .f64 0 0,.complex .f64 0 0,.complex .f64 0 0]∧Blk wr g2 205 (c4 (sumSt q f k 0))) (fun i _=>4 - (intOf i).toNat)
 case atStart=>exact ⟨0,Nat.zero_le _,rfl,FR.out,BA.out,BO.out,BC.out⟩
 case round =>
  obtain ⟨k,hk,rfl,hf,hba,hbo,hbc⟩:=hrel
  clear FR BA BO BC
  have FR:=zH hf
  have BA:=zH hba
  have BO:=zH hbo
  have BC:=zH hbc
  clear hf hba hbo hbc
  by_cases hlt:k < 4
  ·have p1:(k:Int) < 4:=by omega
   have c0:wr.cell? ⟨g0,0,none⟩=some (.complex .f64 (f 0).1 (f 0).2):=BA.out.cell 0
   have c1:wr.cell? ⟨g0,1,none⟩=some (.complex .f64 (f 1).1 (f 1).2):=BA.out.cell 1
   have c2:wr.cell? ⟨g0,2,none⟩=some (.complex .f64 (f 2).1 (f 2).2):=BA.out.cell 2
   have c3:wr.cell? ⟨g0,3,none⟩=some (.complex .f64 (f 3).1 (f 3).2):=BA.out.cell 3
   go_wp2_with fail
   go_loopw [13] (fun i wr=>∃ j:Nat,j≤4∧i=.int .i64 j∧Far w wr∧Blk wr g0 205 (c4 f)∧Blk wr g1 205 #[.complex .f64 0 0,.complex .f64 0 0,.complex .f64 0 0,.complex .f64 0 0]∧Blk wr g2 205 (c4 (sumSt q f k j))) (fun i _=>4 - (intOf i).toNat)
   case atStart=>exact ⟨0,Nat.zero_le _,rfl,FR.out,BA.out,BO.out,BC.out⟩
   case round =>
    clear FR BA BO BC c0 c1 c2 c3
    rename_i i wr_
    obtain ⟨j,hj,rfl,hf,hba,hbo,hbc⟩:=hrel
    have FR:=zH hf
    have BA:=zH hba
    have BO:=zH hbo
    have BC:=zH hbc
    clear hf hba hbo hbc
    by_cases hlj:j < 4
    ·have p2:(j:Int) < 4:=by omega
     have hjk:(j:Int)*(k:Int)≤9:=by
      have:=Nat.mul_le_mul (show j≤3 by omega) (show k≤3 by omega)
      exact_mod_cast this
     have hjk0:0≤(j:Int)*(k:Int):=by exact_mod_cast Nat.zero_le (j*k)
     have hwr:IntKind.i64.wrap ((j:Int)*(k:Int))=(j:Int)*(k:Int):=by rw [IntKind.wrap_i64];omega
     have TJ:=zH (fun w=>by have h:=TU.out j k hlj hlt w hjk0 hjk (by have:=Int.natCast_emod (j*k) 4;simp at this ⊢);rwa [← hwr] at h)
     clear hwr
     have hop:=AD.out k j hlj
     have hix:=c4_at f j hlj
     unfold c4 cv at hix
     have hir:=zH (fun w=>run_index_c4 (P:=Tryz.prog) w 205 204 _ _ _ _ _ Tryz.underlying205 (by kernel_rfl) Tryz.underlying204 j hlj hix)
     clear hix
     have ck:=BC.out.cell k
     rw [c4_at _ _ hlt,show sumSt q f k j k=sumW q f k j by simp [sumSt]] at ck
     unfold cv at ck
     have fk:=BC.out.frozen k
     have SS:=zH (sumSt_set q f k j hlt)
     go_wp2_with (simp only [hir.out])
     refine wp_region_T (fun w'=>w'.cell? ⟨g2,k,none⟩=some (.complex .f64 (sumW q f k j).1 (sumW q f k j).2)∧w'=wr.drew) 10 (by kernel_rfl) ?_ (fun hS=>?_)
     ·exact ⟨ck,rfl⟩
     refine kT 0 rfl hS ?_
     try simp only [pX]
     refine kT 1 rfl hS ?_
     try simp only [pX]
     refine kT 2 rfl hS ?_
     try simp only [pX]
     refine kT 3 rfl hS ?_
     try simp only [pX]
     refine kT 4 rfl hS ?_
     try simp only [pX]
     refine kT 5 rfl hS ?_
     try simp only [pX]
     refine kT 6 rfl hS ?_
     try simp only [pX]
     refine kT 7 rfl hS ?_
     try simp only [pX]
     refine wpAnyT_one (i:=8) (by kernel_rfl) rfl rfl (fun K hK=>?_)
     go_simp;refine (TJ.out _).mono ?_;rintro e w' ⟨rfl,rfl⟩;refine hK.out _ _ hS (fun hS=>?_)
     clear hK K
     try simp only [pX]
     refine kT 9 rfl hS ?_
     try simp only [pX]
     refine wpAnyT_tail _ _ rfl rfl (by kernel_rfl) ?_
     obtain ⟨-,-⟩:=hS
     go_wp2_with (refine wpList_store_one rfl 204 (.tmp 27) (.tmp 26) rfl g2 k (.complex .f64 (sumW q f k (j+1)).1 (sumW q f k (j+1)).2) rfl rfl rfl rfl _ (c4 (sumSt q f k j)) (c4 (sumSt q f k (j+1))) BC.out.draw (by simp [c4];omega) (by kernel_rfl) (by rw [← SS.out];exact set_list _ _ _ (by simp [c4];omega)) ?_;intro w5 B5 g5)
     exact ⟨⟨j+1,by omega,by go_num,FR.out.draw.away g5 (by omega),BA.out.draw.away g5 (.inl (by omega)),BO.out.draw.away g5 (.inl (by omega)),B5⟩,by simp [intOf];omega⟩
    ·obtain rfl:j=4:=by omega
     go_wp2_with fail
     exact ⟨⟨k+1,by omega,by go_num,FR.out,BA.out,BO.out,by rw [← sumSt_next];exact BC.out⟩,by simp [intOf];omega⟩
  ·obtain rfl:k=4:=by omega
   have BC:=zH (show Blk wr g2 205 (c4 (sumsW q f)) by rw [← sumSt_end];exact BC.out)
   go_wp2_with (first|(refine wpList_load_blk rfl 205 (.tmp 5) rfl g2 0 rfl _ (c4 (sumsW q f)) (c4 (sumsW q f)) _ BC.out Tryz.underlying205 rfl (by show _=some 4;kernel_rfl) rfl ?_)|(refine wpList_store_all rfl 205 (.tmp 4) (.tmp 30) rfl g1 (c4 (sumsW q f)) rfl rfl _ _ BO.out rfl (by show _=some 4;kernel_rfl) (c4_one _) ?_;intro w5 B5 g5))
   refine ret_array rfl B5 rfl Tryz.underlying205 (by show _=some 4;kernel_rfl) rfl ?_
   exact ⟨rfl,by have:=FR.out.away g5 (by omega);exact this.out⟩
end Go.Proofs.YtjkmjpjknmghlaaGreat
namespace Go.Proofs.YtjkmjpjknmghlaaGreat
open Go.RowKit Go.ChangeShapes Go.WideShapes Fx
set_option maxRecDepth 100000
set_option maxHeartbeats 2000000
def i4 (k:IntKind) (l:Nat → Int):Array Value:=#[.int k (l 0),.int k (l 1),.int k (l 2),.int k (l 3)]
theorem i4_at (k:IntKind) (f:Nat → Int) (i:Nat) (h:i < 4):(i4 k f)[i]?=some (.int k (f i)):=by
 match i,h with
 | 0,_=>rfl
 | 1,_=>rfl
 | 2,_=>rfl
 | 3,_=>rfl
theorem i4_one (k:IntKind) (f:Nat → Int):(i4 k f).all (·.oneCell')=true:=by rw [← Array.all_toList];rfl
theorem i4_set (kd:IntKind) (f g:Nat → Int) (k:Nat) (h:k < 4) (hg:∀ i,i < 4 → i ≠ k → g i=f i):(i4 kd f).setIfInBounds k (.int kd (g k))=i4 kd g:=by
 unfold i4
 match k,h with
 | 0,_=>rw [hg 1 (by omega) (by omega),hg 2 (by omega) (by omega),hg 3 (by omega) (by omega)];rfl
 | 1,_=>rw [hg 0 (by omega) (by omega),hg 2 (by omega) (by omega),hg 3 (by omega) (by omega)];rfl
 | 2,_=>rw [hg 0 (by omega) (by omega),hg 1 (by omega) (by omega),hg 3 (by omega) (by omega)];rfl
 | 3,_=>rw [hg 0 (by omega) (by omega),hg 1 (by omega) (by omega),hg 2 (by omega) (by omega)];rfl
def upW (f g:Nat → Fx.Wd) (k:Nat):Nat → Fx.Wd:=fun i=>if i < k then f i else g i
theorem upW_set (f g:Nat → Fx.Wd) (k:Nat) (h:k < 4):(c4 (upW f g k)).setIfInBounds k (cv (f k))=c4 (upW f g (k+1)):=by
 have:=c4_set (upW f g k) (upW f g (k+1)) k h (fun i _ hi=>by unfold upW;by_cases c:i < k <;> simp [c] <;> omega)
 rwa [show upW f g (k+1) k=f k by simp [upW]] at this
theorem upW_end (f g:Nat → Fx.Wd):c4 (upW f g 4)=c4 f:=by unfold c4 upW;simp
theorem upW_zero (f g:Nat → Fx.Wd):upW f g 0=g:=by funext i;simp [upW]
theorem upW_at (f g:Nat → Fx.Wd) (k:Nat):upW f g k k=g k:=by simp [upW]
def upI (f g:Nat → Int) (k:Nat):Nat → Int:=fun i=>if i < k then f i else g i
theorem upI_set (kd:IntKind) (f g:Nat → Int) (k:Nat) (h:k < 4):(i4 kd (upI f g k)).setIfInBounds k (.int kd (f k))=i4 kd (upI f g (k+1)):=by
 have:=i4_set kd (upI f g k) (upI f g (k+1)) k h (fun i _ hi=>by unfold upI;by_cases c:i < k <;> simp [c] <;> omega)
 rwa [show upI f g (k+1) k=f k by simp [upI]] at this
theorem upI_end (kd:IntKind) (f g:Nat → Int):i4 kd (upI f g 4)=i4 kd f:=by unfold i4 upI;simp
theorem upI_zero (f g:Nat → Int):upI f g 0=g:=by funext i;simp [upI]
theorem fourOf_any (l:Nat → Int) (B:Nat) (w:World) (hl:∀ i,i < 4 → (l i).natAbs≤B) (hB:B < 2 ^ 50) :
  Calls Tryz.prog 160 #[.agg (i4 .i16 l)] w fun e w'=>e=.returned (.agg (c4 (ofW l)))∧Below w.heap.size w w':=by
 have FR:=zH (Far.refl w)
 obtain ⟨w1,hw_w1,BA,k_w1⟩:=nB w #[.int .i16 (l 0),.int .i16 (l 1),.int .i16 (l 2),.int .i16 (l 3)] 210
 replace FR:=zH (FR.out.fut k_w1)
 clear k_w1
 obtain ⟨w2,hw_w2,BO,k_w2⟩:=nB w1 #[.complex .f64 0 0,.complex .f64 0 0,.complex .f64 0 0,.complex .f64 0 0] 205
 replace FR:=zH (FR.out.fut k_w2)
 replace BA:=zH (BA.out.fut k_w2)
 clear k_w2
 obtain ⟨w3,hw_w3,BC,k_w3⟩:=nB w2 #[.complex .f64 0 0,.complex .f64 0 0,.complex .f64 0 0,.complex .f64 0 0] 205
 replace FR:=zH (FR.out.fut k_w3)
 replace BA:=zH (BA.out.fut k_w3)
 replace BO:=zH (BO.out.fut k_w3)
 clear k_w3
 have SU:=zH (fun w=>sums_any (inW l) rightW (fun i=>(l i,0)) (0,-1) B w (fun i hi=>(in_ok hl hB i hi).1) cd_right (.inr rfl) (fun i hi=>(in_ok hl hB i hi).2) hB)
 clear hl hB
 have c0:w3.cell? ⟨w.heap.size,0,none⟩=some (.int .i16 (l 0)):=BA.out.cell 0
 have c1:w3.cell? ⟨w.heap.size,1,none⟩=some (.int .i16 (l 1)):=BA.out.cell 1
 have c2:w3.cell? ⟨w.heap.size,2,none⟩=some (.int .i16 (l 2)):=BA.out.cell 2
 have c3:w3.cell? ⟨w.heap.size,3,none⟩=some (.int .i16 (l 3)):=BA.out.cell 3
 unfold i4
 go_enter Tryz.func160,Tryz.ntmps160
 go_wp2_with fail
 have l1:w.heap.size < w1.heap.size:=by rw [← hw_w1];simp
 have l2:w1.heap.size < w2.heap.size:=by rw [← hw_w2];simp
 clear hw_w1 hw_w2 hw_w3 c0 c1 c2 c3
 replace BC:=zH (show Blk w3 w2.heap.size 205 (c4 (upW (inW l) (fun _=>(0,0)) 0)) by rw [upW_zero];exact BC.out)
 obtain ⟨g0,e0⟩:∃ n,w.heap.size=n:=⟨_,rfl⟩
 obtain ⟨g1,e1⟩:∃ n,w1.heap.size=n:=⟨_,rfl⟩
 obtain ⟨g2,e2⟩:∃ n,w2.heap.size=n:=⟨_,rfl⟩
 rw [e0,e1] at l1
 rw [e1,e2] at l2
 rw [e1] at BO
 rw [e2] at BC
 rw [e0,e1,e2]
 clear BA
 go_loopw [7] (fun i wr=>∃ k:Nat,k≤4∧i=.int .i64 k∧Far w wr∧Blk wr g1 205 #[.complex .f64 0 0,.complex .f64 0 0,.complex .f64 0 0,.complex .f64 0 0]∧Blk wr g2 205 (c4 (upW (inW l) (fun _=>(0,0)) k))) (fun i _=>4 - (intOf i).toNat)
 case atStart=>exact ⟨0,Nat.zero_le _,rfl,FR.out,BO.out,BC.out⟩
 case round =>
  obtain ⟨k,hk,rfl,hf,hbo,hbc⟩:=hrel
  clear FR BO BC
  have FR:=zH hf
  have BO:=zH hbo
  have BC:=zH hbc
  clear hf hbo hbc
  by_cases hlt:k < 4
  ·have p1:(k:Int) < 4:=by omega
   have hir:=zH (fun w=>run_index_4 (P:=Tryz.prog) w 210 192 _ _ _ _ _ Tryz.underlying210 (by kernel_rfl) (by simp [isAgg,run_underlying Tryz.underlying192]) k hlt (i4_at .i16 l k hlt))
   have SS:=zH (upW_set (inW l) (fun _=>(0,0)) k hlt)
   go_wp2_with (first|simp only [hir.out]|(refine wpList_store_one rfl 204 (.tmp 15) (.tmp 14) rfl g2 k (cv (inW l k)) rfl rfl rfl rfl _ (c4 (upW (inW l) (fun _=>(0,0)) k)) (c4 (upW (inW l) (fun _=>(0,0)) (k+1))) BC.out (by simp [c4];omega) (by kernel_rfl) (by rw [← SS.out];exact set_list _ _ _ (by simp [c4];omega)) ?_;intro w5 B5 g5))
   exact ⟨⟨k+1,by omega,by go_num,FR.out.away g5 (by omega),BO.out.away g5 (.inl (by omega)),B5⟩,by simp [intOf];omega⟩
  ·obtain rfl:k=4:=by omega
   have BC:=zH (show Blk wr g2 205 (c4 (inW l)) by rw [← upW_end (inW l) (fun _=>(0,0))];exact BC.out)
   go_wp2_with (first|(refine wpList_load_blk rfl 205 (.tmp 3) rfl g2 0 rfl _ (c4 (inW l)) (c4 (inW l)) _ BC.out Tryz.underlying205 rfl (by show _=some 4;kernel_rfl) rfl ?_))
   refine (SU.out _).mono ?_
   rintro e w4 ⟨rfl,hb⟩
   replace FR:=zH (FR.out.fut hb)
   replace BO:=zH (BO.out.fut hb)
   clear hb
   go_wp2_with (first|(refine wpList_store_all rfl 205 (.tmp 2) (.tmp 18) rfl g1 (c4 (ofW l)) rfl rfl _ _ BO.out rfl (by show _=some 4;kernel_rfl) (c4_one _) ?_;intro w5 B5 g5))
   refine ret_array rfl B5 rfl Tryz.underlying205 (by show _=some 4;kernel_rfl) rfl ?_
   exact ⟨rfl,by have:=FR.out.away g5 (by omega);exact this.out⟩
theorem fourTimes_any (f g:Nat → Fx.Wd) (w:World) (hv:∀ i,i < 4 → cMulBits (f i).1 (f i).2 (g i).1 (g i).2=some ((timesW f g i).1,(timesW f g i).2)) :
  Calls Tryz.prog 159 #[.agg (c4 f),.agg (c4 g)] w fun e w'=>e=.returned (.agg (c4 (timesW f g)))∧Below w.heap.size w w':=by
 have OP:=zH (fun k hk t w=>run_complex_mul (P:=Tryz.prog) w t _ _ _ _ _ _ (hv k hk))
 have FR:=zH (Far.refl w)
 obtain ⟨w1,hw_w1,BA,k_w1⟩:=nB w #[.complex .f64 (f 0).1 (f 0).2,.complex .f64 (f 1).1 (f 1).2,.complex .f64 (f 2).1 (f 2).2,.complex .f64 (f 3).1 (f 3).2] 205
 replace FR:=zH (FR.out.fut k_w1)
 clear k_w1
 obtain ⟨w2,hw_w2,BB,k_w2⟩:=nB w1 #[.complex .f64 (g 0).1 (g 0).2,.complex .f64 (g 1).1 (g 1).2,.complex .f64 (g 2).1 (g 2).2,.complex .f64 (g 3).1 (g 3).2] 205
 replace FR:=zH (FR.out.fut k_w2)
 replace BA:=zH (BA.out.fut k_w2)
 clear k_w2
 obtain ⟨w3,hw_w3,BC,k_w3⟩:=nB w2 #[.complex .f64 0 0,.complex .f64 0 0,.complex .f64 0 0,.complex .f64 0 0] 205
 replace FR:=zH (FR.out.fut k_w3)
 replace BA:=zH (BA.out.fut k_w3)
 replace BB:=zH (BB.out.fut k_w3)
 clear k_w3
 clear hv
 unfold c4 cv
 go_enter Tryz.func159,Tryz.ntmps159
 go_wp2_with fail
 have l1:w.heap.size < w1.heap.size:=by rw [← hw_w1];simp
 have l2:w1.heap.size < w2.heap.size:=by rw [← hw_w2];simp
 clear hw_w1 hw_w2 hw_w3
 replace BA:=zH (show Blk w3 w.heap.size 205 (c4 (upW (timesW f g) f 0)) by rw [upW_zero];exact BA.out)
 replace BB:=zH (show Blk w3 w1.heap.size 205 (c4 g) from BB.out)
 obtain ⟨g0,e0⟩:∃ n,w.heap.size=n:=⟨_,rfl⟩
 obtain ⟨g1,e1⟩:∃ n,w1.heap.size=n:=⟨_,rfl⟩
 obtain ⟨g2,e2⟩:∃ n,w2.heap.size=n:=⟨_,rfl⟩
 rw [e0,e1] at l1
 rw [e1,e2] at l2
 rw [e0] at BA
 rw [e1] at BB
 rw [e2] at BC
 rw [e0,e1,e2]
 go_loopw [6] (fun i wr=>∃ k:Nat,k≤4∧i=.int .i64 k∧Far w wr∧Blk wr g0 205 (c4 (upW (timesW f g) f k))∧Blk wr g1 205 (c4 g)∧Blk wr g2 205 #[.complex .f64 0 0,.complex .f64 0 0,.complex .f64 0 0,.complex .f64 0 0]) (fun i _=>4 - (intOf i).toNat)
 case atStart=>exact ⟨0,Nat.zero_le _,rfl,FR.out,BA.out,BB.out,BC.out⟩
 case round =>
  obtain ⟨k,hk,rfl,hf,hba,hbb,hbc⟩:=hrel
  clear FR BA BB BC
  have FR:=zH hf
  have BA:=zH hba
  have BB:=zH hbb
  have BC:=zH hbc
  clear hf hba hbb hbc
  by_cases hlt:k < 4
  ·have p1:(k:Int) < 4:=by omega
   have hop:=OP.out k hlt
   have ca:=BA.out.draw.cell k
   rw [c4_at _ _ hlt,upW_at] at ca
   have cb:=BB.out.draw.cell k
   rw [c4_at _ _ hlt] at cb
   unfold cv at ca cb
   have SS:=zH (upW_set (timesW f g) f k hlt)
   go_wp2_with fail
   refine wp_region_T (fun w'=>w'.cell? ⟨g0,k,none⟩=some (.complex .f64 (f k).1 (f k).2)∧w'.cell? ⟨g1,k,none⟩=some (.complex .f64 (g k).1 (g k).2)∧w'=wr.drew) 7 (by kernel_rfl) ?_ (fun hS=>?_)
   ·exact ⟨ca,cb,rfl⟩
   refine kT 0 rfl hS ?_
   try simp only [pX]
   refine kT 1 rfl hS ?_
   try simp only [pX]
   refine kT 2 rfl hS ?_
   try simp only [pX]
   refine kT 3 rfl hS ?_
   try simp only [pX]
   refine kT 4 rfl hS ?_
   try simp only [pX]
   refine kT 5 rfl hS ?_
   try simp only [pX]
   refine kT 6 rfl hS ?_
   try simp only [pX]
   refine wpAnyT_tail _ _ rfl rfl (by kernel_rfl) ?_
   clear hS ca cb
   go_wp2_with (refine wpList_store_one rfl 204 (.tmp 16) (.tmp 15) rfl g0 k (cv (timesW f g k)) rfl rfl rfl rfl _ (c4 (upW (timesW f g) f k)) (c4 (upW (timesW f g) f (k+1))) BA.out.draw (by simp [c4];omega) (by kernel_rfl) (by rw [← SS.out];exact set_list _ _ _ (by simp [c4];omega)) ?_;intro w5 B5 g5)
   exact ⟨⟨k+1,by omega,by go_num,FR.out.draw.away g5 (by omega),B5,BB.out.draw.away g5 (.inr (by omega)),BC.out.draw.away g5 (.inr (by omega))⟩,by simp [intOf];omega⟩
  ·obtain rfl:k=4:=by omega
   have BA:=zH (show Blk wr g0 205 (c4 (timesW f g)) by rw [← upW_end (timesW f g) f];exact BA.out)
   go_wp2_with (first|(refine wpList_load_blk rfl 205 (.tmp 2) rfl g0 0 rfl _ (c4 (timesW f g)) (c4 (timesW f g)) _ BA.out Tryz.underlying205 rfl (by show _=some 4;kernel_rfl) rfl ?_)|(refine wpList_store_all rfl 205 (.tmp 4) (.tmp 18) rfl g2 (c4 (timesW f g)) rfl rfl _ _ BC.out rfl (by show _=some 4;kernel_rfl) (c4_one _) ?_;intro w5 B5 g5))
   refine ret_array rfl B5 rfl Tryz.underlying205 (by show _=some 4;kernel_rfl) rfl ?_
   exact ⟨rfl,by have:=FR.out.away g5 (by omega);exact this.out⟩
theorem fourPlus_any (f g:Nat → Fx.Wd) (w:World) (hv:∀ i,i < 4 → cSumBits .add .f64 (f i).1 (f i).2 (g i).1 (g i).2=some ((plusW f g i).1,(plusW f g i).2)) :
  Calls Tryz.prog 158 #[.agg (c4 f),.agg (c4 g)] w fun e w'=>e=.returned (.agg (c4 (plusW f g)))∧Below w.heap.size w w':=by
 have OP:=zH (fun k hk t w=>run_complex_sum (P:=Tryz.prog) w .add (.inl rfl) t .f64 _ _ _ _ _ _ (hv k hk))
 have FR:=zH (Far.refl w)
 obtain ⟨w1,hw_w1,BA,k_w1⟩:=nB w #[.complex .f64 (f 0).1 (f 0).2,.complex .f64 (f 1).1 (f 1).2,.complex .f64 (f 2).1 (f 2).2,.complex .f64 (f 3).1 (f 3).2] 205
 replace FR:=zH (FR.out.fut k_w1)
 clear k_w1
 obtain ⟨w2,hw_w2,BB,k_w2⟩:=nB w1 #[.complex .f64 (g 0).1 (g 0).2,.complex .f64 (g 1).1 (g 1).2,.complex .f64 (g 2).1 (g 2).2,.complex .f64 (g 3).1 (g 3).2] 205
 replace FR:=zH (FR.out.fut k_w2)
 replace BA:=zH (BA.out.fut k_w2)
 clear k_w2
 obtain ⟨w3,hw_w3,BC,k_w3⟩:=nB w2 #[.complex .f64 0 0,.complex .f64 0 0,.complex .f64 0 0,.complex .f64 0 0] 205
 replace FR:=zH (FR.out.fut k_w3)
 replace BA:=zH (BA.out.fut k_w3)
 replace BB:=zH (BB.out.fut k_w3)
 clear k_w3
 clear hv
 unfold c4 cv
 go_enter Tryz.func158,Tryz.ntmps158
 go_wp2_with fail
 have l1:w.heap.size < w1.heap.size:=by rw [← hw_w1];simp
 have l2:w1.heap.size < w2.heap.size:=by rw [← hw_w2];simp
 clear hw_w1 hw_w2 hw_w3
 replace BA:=zH (show Blk w3 w.heap.size 205 (c4 (upW (plusW f g) f 0)) by rw [upW_zero];exact BA.out)
 replace BB:=zH (show Blk w3 w1.heap.size 205 (c4 g) from BB.out)
 obtain ⟨g0,e0⟩:∃ n,w.heap.size=n:=⟨_,rfl⟩
 obtain ⟨g1,e1⟩:∃ n,w1.heap.size=n:=⟨_,rfl⟩
 obtain ⟨g2,e2⟩:∃ n,w2.heap.size=n:=⟨_,rfl⟩
 rw [e0,e1] at l1
 rw [e1,e2] at l2
 rw [e0] at BA
 rw [e1] at BB
 rw [e2] at BC
 rw [e0,e1,e2]
 go_loopw [6] (fun i wr=>∃ k:Nat,k≤4∧i=.int .i64 k∧Far w wr∧Blk wr g0 205 (c4 (upW (plusW f g) f k))∧Blk wr g1 205 (c4 g)∧Blk wr g2 205 #[.complex .f64 0 0,.complex .f64 0 0,.complex .f64 0 0,.complex .f64 0 0]) (fun i _=>4 - (intOf i).toNat)
 case atStart=>exact ⟨0,Nat.zero_le _,rfl,FR.out,BA.out,BB.out,BC.out⟩
 case round =>
  obtain ⟨k,hk,rfl,hf,hba,hbb,hbc⟩:=hrel
  clear FR BA BB BC
  have FR:=zH hf
  have BA:=zH hba
  have BB:=zH hbb
  have BC:=zH hbc
  clear hf hba hbb hbc
  by_cases hlt:k < 4
  ·have p1:(k:Int) < 4:=by omega
   have hop:=OP.out k hlt
   have ca:=BA.out.draw.cell k
   rw [c4_at _ _ hlt,upW_at] at ca
   have cb:=BB.out.draw.cell k
   rw [c4_at _ _ hlt] at cb
   unfold cv at ca cb
   have SS:=zH (upW_set (plusW f g) f k hlt)
   go_wp2_with fail
   refine wp_region_T (fun w'=>w'.cell? ⟨g0,k,none⟩=some (.complex .f64 (f k).1 (f k).2)∧w'.cell? ⟨g1,k,none⟩=some (.complex .f64 (g k).1 (g k).2)∧w'=wr.drew) 7 (by kernel_rfl) ?_ (fun hS=>?_)
   ·exact ⟨ca,cb,rfl⟩
   refine kT 0 rfl hS ?_
   try simp only [pX]
   refine kT 1 rfl hS ?_
   try simp only [pX]
   refine kT 2 rfl hS ?_
   try simp only [pX]
   refine kT 3 rfl hS ?_
   try simp only [pX]
   refine kT 4 rfl hS ?_
   try simp only [pX]
   refine kT 5 rfl hS ?_
   try simp only [pX]
   refine kT 6 rfl hS ?_
   try simp only [pX]
   refine wpAnyT_tail _ _ rfl rfl (by kernel_rfl) ?_
   clear hS ca cb
   go_wp2_with (refine wpList_store_one rfl 204 (.tmp 16) (.tmp 15) rfl g0 k (cv (plusW f g k)) rfl rfl rfl rfl _ (c4 (upW (plusW f g) f k)) (c4 (upW (plusW f g) f (k+1))) BA.out.draw (by simp [c4];omega) (by kernel_rfl) (by rw [← SS.out];exact set_list _ _ _ (by simp [c4];omega)) ?_;intro w5 B5 g5)
   exact ⟨⟨k+1,by omega,by go_num,FR.out.draw.away g5 (by omega),B5,BB.out.draw.away g5 (.inr (by omega)),BC.out.draw.away g5 (.inr (by omega))⟩,by simp [intOf];omega⟩
  ·obtain rfl:k=4:=by omega
   have BA:=zH (show Blk wr g0 205 (c4 (plusW f g)) by rw [← upW_end (plusW f g) f];exact BA.out)
   go_wp2_with (first|(refine wpList_load_blk rfl 205 (.tmp 2) rfl g0 0 rfl _ (c4 (plusW f g)) (c4 (plusW f g)) _ BA.out Tryz.underlying205 rfl (by show _=some 4;kernel_rfl) rfl ?_)|(refine wpList_store_all rfl 205 (.tmp 4) (.tmp 18) rfl g2 (c4 (plusW f g)) rfl rfl _ _ BC.out rfl (by show _=some 4;kernel_rfl) (c4_one _) ?_;intro w5 B5 g5))
   refine ret_array rfl B5 rfl Tryz.underlying205 (by show _=some 4;kernel_rfl) rfl ?_
   exact ⟨rfl,by have:=FR.out.away g5 (by omega);exact this.out⟩
end Go.Proofs.YtjkmjpjknmghlaaGreat
namespace Go.Proofs.YtjkmjpjknmghlaaGreat
open Go.RowKit Go.ChangeShapes Go.WideShapes Fx
set_option maxRecDepth 100000
set_option maxHeartbeats 2000000
def backZ (z:Nat → Int × Int):Nat → Int:=fun i=>(sumsZ (0,1) z i).1.tdiv 4
theorem fourBack_any (f:Nat → Fx.Wd) (z:Nat → Int × Int) (B:Nat) (w:World) (hx:∀ i,i < 4 → Cd (f i) (z i)) (hz:∀ i,i < 4 → Cb (z i) B) (hB:B < 2 ^ 50) :
  Calls Tryz.prog 167 #[.agg (c4 f)] w fun e w'=>e=.returned (.agg (i4 .i64 (backZ z)))∧Below w.heap.size w w':=by
 have FR:=zH (Far.refl w)
 obtain ⟨w1,hw_w1,BA,k_w1⟩:=nB w #[.complex .f64 (f 0).1 (f 0).2,.complex .f64 (f 1).1 (f 1).2,.complex .f64 (f 2).1 (f 2).2,.complex .f64 (f 3).1 (f 3).2] 205
 replace FR:=zH (FR.out.fut k_w1)
 clear k_w1
 obtain ⟨w2,hw_w2,BO,k_w2⟩:=nB w1 #[.int .i64 0,.int .i64 0,.int .i64 0,.int .i64 0] 221
 replace FR:=zH (FR.out.fut k_w2)
 replace BA:=zH (BA.out.fut k_w2)
 clear k_w2
 obtain ⟨w3,hw_w3,BC,k_w3⟩:=nB w2 #[.int .i64 0,.int .i64 0,.int .i64 0,.int .i64 0] 221
 replace FR:=zH (FR.out.fut k_w3)
 replace BA:=zH (BA.out.fut k_w3)
 replace BO:=zH (BO.out.fut k_w3)
 clear k_w3
 have SU:=zH (fun w=>sums_any f leftW z (0,1) B w hx cd_left (.inl rfl) hz hB)
 have OK:=zH (fun k=>sums_ok cd_left (.inl rfl) hx hz hB k)
 clear hx hz
 have c0:w3.cell? ⟨w.heap.size,0,none⟩=some (.complex .f64 (f 0).1 (f 0).2):=BA.out.cell 0
 have c1:w3.cell? ⟨w.heap.size,1,none⟩=some (.complex .f64 (f 1).1 (f 1).2):=BA.out.cell 1
 have c2:w3.cell? ⟨w.heap.size,2,none⟩=some (.complex .f64 (f 2).1 (f 2).2):=BA.out.cell 2
 have c3:w3.cell? ⟨w.heap.size,3,none⟩=some (.complex .f64 (f 3).1 (f 3).2):=BA.out.cell 3
 unfold c4 cv
 go_enter Tryz.func167,Tryz.ntmps167
 go_wp2_with fail
 refine (SU.out _).mono ?_
 rintro e w4 ⟨rfl,hb⟩
 have l1:w.heap.size < w1.heap.size:=by rw [← hw_w1];simp
 have l2:w1.heap.size < w2.heap.size:=by rw [← hw_w2];simp
 clear hw_w1 hw_w2 hw_w3 c0 c1 c2 c3
 replace FR:=zH (FR.out.fut hb)
 replace BO:=zH (BO.out.fut hb)
 replace BC:=zH (BC.out.fut hb)
 clear hb
 replace BC:=zH (show Blk w4 w2.heap.size 221 (i4 .i64 (upI (backZ z) (fun _=>0) 0)) by rw [upI_zero];exact BC.out)
 obtain ⟨g0,e0⟩:∃ n,w.heap.size=n:=⟨_,rfl⟩
 obtain ⟨g1,e1⟩:∃ n,w1.heap.size=n:=⟨_,rfl⟩
 obtain ⟨g2,e2⟩:∃ n,w2.heap.size=n:=⟨_,rfl⟩
 rw [e0,e1] at l1
 rw [e1,e2] at l2
 rw [e1] at BO
 rw [e2] at BC
 rw [e0,e1,e2]
 clear BA
 unfold c4 cv
 go_wp2_with fail
 go_loopw [8] (fun i wr=>∃ k:Nat,k≤4∧i=.int .i64 k∧Far w wr∧Blk wr g1 221 #[.int .i64 0,.int .i64 0,.int .i64 0,.int .i64 0]∧Blk wr g2 221 (i4 .i64 (upI (backZ z) (fun _=>0) k))) (fun i _=>4 - (intOf i).toNat)
 case atStart=>exact ⟨0,Nat.zero_le _,rfl,FR.out,BO.out,BC.out⟩
 case round =>
  obtain ⟨k,hk,rfl,hf,hbo,hbc⟩:=hrel
  clear FR BO BC
  have FR:=zH hf
  have BO:=zH hbo
  have BC:=zH hbc
  clear hf hbo hbc
  by_cases hlt:k < 4
  ·have p1:(k:Int) < 4:=by omega
   have hix:=c4_at (sumsW leftW f) k hlt
   unfold c4 cv at hix
   have hir:=zH (fun w=>run_index_c4 (P:=Tryz.prog) w 205 204 _ _ _ _ _ Tryz.underlying205 (by kernel_rfl) Tryz.underlying204 k hlt hix)
   clear hix
   obtain ⟨q1,q2⟩:=OK.out k
   obtain ⟨re,hre⟩:∃ x,(sumsZ (0,1) z k).1=x:=⟨_,rfl⟩
   have q3:=q1.1
   have q4:=q2.1
   rw [hre] at q3 q4
   have hbk:backZ z k=re.tdiv 4:=by unfold backZ;rw [hre]
   have CX:=zH (fun w=>run_convert_float_int (P:=Tryz.prog) w 219 2 .f64 .i64 _ _ (by rw [Tryz.underlying219];rfl) Tryz.underlying2 (q3.int (by omega) (by omega)))
   have SS:=zH (upI_set .i64 (backZ z) (fun _=>0) k hlt)
   clear q1 q2 q3 hre
   go_wp2_with (first|simp only [hir.out]|simp only [CX.out]|(refine wpList_store_one rfl 2 (.tmp 17) (.tmp 16) rfl g2 k (.int .i64 (backZ z k)) rfl (by rw [hbk];rfl) rfl rfl _ (i4 .i64 (upI (backZ z) (fun _=>0) k)) (i4 .i64 (upI (backZ z) (fun _=>0) (k+1))) BC.out (by simp [i4];omega) (by kernel_rfl) (by rw [← SS.out];exact set_list _ _ _ (by simp [i4];omega)) ?_;intro w5 B5 g5))
   exact ⟨⟨k+1,by omega,by go_num,FR.out.away g5 (by omega),BO.out.away g5 (.inl (by omega)),B5⟩,by simp [intOf];omega⟩
  ·obtain rfl:k=4:=by omega
   have BC:=zH (show Blk wr g2 221 (i4 .i64 (backZ z)) by rw [← upI_end .i64 (backZ z) (fun _=>0)];exact BC.out)
   go_wp2_with (first|(refine wpList_load_blk rfl 221 (.tmp 3) rfl g2 0 rfl _ (i4 .i64 (backZ z)) (i4 .i64 (backZ z)) _ BC.out Tryz.underlying221 rfl (by show _=some 4;kernel_rfl) rfl ?_)|(refine wpList_store_all rfl 221 (.tmp 2) (.tmp 19) rfl g1 (i4 .i64 (backZ z)) rfl rfl _ _ BO.out rfl (by show _=some 4;kernel_rfl) (i4_one _ _) ?_;intro w5 B5 g5))
   refine ret_array rfl B5 rfl Tryz.underlying221 (by show _=some 4;kernel_rfl) rfl ?_
   exact ⟨rfl,by have:=FR.out.away g5 (by omega);exact this.out⟩
def w3Z (a b c:Int):Nat → Int:=fun i=>match i with|0=>c|1=>b|2=>a|_=>0
theorem wheelTurned_any (a b c:Int) (w:World) (ha:InK .i8 a) (hb:InK .i8 b) (hc:InK .i8 c) :
  Calls Tryz.prog 156 #[.agg #[.int .i8 a,.int .i8 b,.int .i8 c]] w fun e w'=>e=.returned (.agg (c4 (ofW (w3Z a b c))))∧Below w.heap.size w w':=by
 have FR:=zH (Far.refl w)
 obtain ⟨w1,hw_w1,BA,k_w1⟩:=nB w #[.int .i8 a,.int .i8 b,.int .i8 c] 183
 replace FR:=zH (FR.out.fut k_w1)
 clear k_w1
 obtain ⟨w2,hw_w2,BO,k_w2⟩:=nB w1 #[.complex .f64 0 0,.complex .f64 0 0,.complex .f64 0 0,.complex .f64 0 0] 205
 replace FR:=zH (FR.out.fut k_w2)
 replace BA:=zH (BA.out.fut k_w2)
 clear k_w2
 rw [inK_i8] at ha hb hc
 obtain ⟨a1,a2⟩:=ha
 obtain ⟨b1,b2⟩:=hb
 obtain ⟨d1,d2⟩:=hc
 have OF:=zH (fun w=>fourOf_any (w3Z a b c) 128 w (fun i hi=>by unfold w3Z;split <;> omega) (by decide))
 have c0:=BA.out.cell 0
 have c1:=BA.out.cell 1
 have c2:=BA.out.cell 2
 go_enter Tryz.func156,Tryz.ntmps156
 go_wp2_with fail
 refine (OF.out _).mono ?_
 rintro e w4 ⟨rfl,hb⟩
 have l1:w.heap.size < w1.heap.size:=by rw [← hw_w1];simp
 clear hw_w1 hw_w2 c0 c1 c2
 replace FR:=zH (FR.out.fut hb)
 replace BO:=zH (BO.out.fut hb)
 clear hb
 go_wp2_with (first|(refine wpList_store_all rfl 205 (.tmp 2) (.tmp 13) rfl w1.heap.size (c4 (ofW (w3Z a b c))) rfl rfl _ _ BO.out rfl (by show _=some 4;kernel_rfl) (c4_one _) ?_;intro w5 B5 g5))
 refine ret_array rfl B5 rfl Tryz.underlying205 (by show _=some 4;kernel_rfl) rfl ?_
 exact ⟨rfl,by have:=FR.out.away g5 (by omega);exact this.out⟩
theorem wheelBoth_any (f:Nat → Fx.Wd) (z:Nat → Int × Int) (B:Nat) (w:World) (hx:∀ i,i < 4 → Cd (f i) (z i)) (hz:∀ i,i < 4 → Cb (z i) B) (hB:B < 2 ^ 50) :
  Calls Tryz.prog 162 #[.agg (c4 f)] w fun e w'=>e=.returned (.agg #[.int .i64 (backZ z 2),.int .i64 (backZ z 3)])∧Below w.heap.size w w':=by
 have FR:=zH (Far.refl w)
 obtain ⟨w1,hw_w1,BA,k_w1⟩:=nB w #[.complex .f64 (f 0).1 (f 0).2,.complex .f64 (f 1).1 (f 1).2,.complex .f64 (f 2).1 (f 2).2,.complex .f64 (f 3).1 (f 3).2] 205
 replace FR:=zH (FR.out.fut k_w1)
 clear k_w1
 obtain ⟨w2,hw_w2,BO,k_w2⟩:=nB w1 #[.int .i64 0,.int .i64 0] 212
 replace FR:=zH (FR.out.fut k_w2)
 replace BA:=zH (BA.out.fut k_w2)
 clear k_w2
 have BK:=zH (fun w=>fourBack_any f z B w hx hz hB)
 clear hx hz hB
 have c0:w2.cell? ⟨w.heap.size,0,none⟩=some (.complex .f64 (f 0).1 (f 0).2):=BA.out.cell 0
 have c1:w2.cell? ⟨w.heap.size,1,none⟩=some (.complex .f64 (f 1).1 (f 1).2):=BA.out.cell 1
 have c2:w2.cell? ⟨w.heap.size,2,none⟩=some (.complex .f64 (f 2).1 (f 2).2):=BA.out.cell 2
 have c3:w2.cell? ⟨w.heap.size,3,none⟩=some (.complex .f64 (f 3).1 (f 3).2):=BA.out.cell 3
 unfold c4 cv
 go_enter Tryz.func162,Tryz.ntmps162
 go_wp2_with fail
 refine (BK.out _).mono ?_
 rintro e w4 ⟨rfl,hb⟩
 have l1:w.heap.size < w1.heap.size:=by rw [← hw_w1];simp
 have l2:w1.heap.size < w2.heap.size:=by rw [← hw_w2];simp
 have l3:=hb.size
 clear hw_w1 hw_w2 c0 c1 c2 c3
 replace FR:=zH (FR.out.fut hb)
 replace BO:=zH (BO.out.fut hb)
 clear hb
 unfold i4
 go_wp2_with (refine wpList_store_all rfl 212 (.tmp 2) (.tmp 10) rfl w1.heap.size #[.int .i64 (backZ z 2),.int .i64 (backZ z 3)] rfl rfl _ _ (BO.out.past _) rfl (by kernel_rfl) (by rw [← Array.all_toList];rfl) ?_;intro w5 B5 g5)
 refine ret_array rfl B5 rfl Tryz.underlying212 (by kernel_rfl) rfl ?_
 refine ⟨rfl,?_⟩
 have h5:Below w.heap.size w (w4.alloc (.cells #[.int .i64 (backZ z 0),.int .i64 (backZ z 1),.int .i64 (backZ z 2),.int .i64 (backZ z 3)] 221)):=FR.out.out.alloc (by omega) _
 exact h5.grown g5 (by simp;omega) (fun j hj=>by have:=Option.some.inj hj;omega)
end Go.Proofs.YtjkmjpjknmghlaaGreat
namespace Go.Proofs.YtjkmjpjknmghlaaGreat
open Go.RowKit Go.ChangeShapes Go.WideShapes Fx
set_option maxRecDepth 100000
set_option maxHeartbeats 2000000
def blocksV (n:Int):Int:=if n < 3 then 0 else (n - 1) / 2
theorem wheelBlocks_any (n:Int) (w:World) (h0:0≤n) (h1:n≤140737488355328) :
  Calls Tryz.prog 157 #[.int .i64 n] w fun e w'=>e=.returned (.int .i64 (blocksV n))∧w'=w:=by
 by_cases c:n < 3
 ·have hv:blocksV n=0:=if_pos c
  rw [hv]
  go_enter Tryz.func157,Tryz.ntmps157
  go_wp2_with fail
  go_ret
  exact ⟨rfl,rfl⟩
 ·have hv:blocksV n=(n - 2+1) / 2:=by unfold blocksV;rw [if_neg c];omega
  rw [hv]
  go_enter Tryz.func157,Tryz.ntmps157
  go_wp2_with fail
  go_ret
  exact ⟨rfl,rfl⟩
def at4 (l:List Int) (p:Nat):Nat → Int:=fun j=>l.getD (p+j) 0
theorem at4_splice (l:List Int) (p:Nat):splice [Value.int .i16 0,.int .i16 0,.int .i16 0,.int .i16 0] 0 (((l.drop p).take 4).map (Value.int .i16))=(i4 .i16 (at4 l p)).toList:=by
 have h:∀ j,at4 l p j=(l.drop p).getD j 0:=fun j=>by simp [at4,List.getD_eq_getElem?_getD,List.getElem?_drop]
 unfold i4
 rw [h,h,h,h]
 generalize l.drop p=m
 match m with
 | []=>rfl
 | [a]=>rfl
 | [a,b]=>rfl
 | [a,b,c]=>rfl
 | a :: b :: c :: d :: r=>simp [splice]
theorem wheelAt_any (A:Option Addr) (n cap:Nat) (l:List Int) (p:Nat) (w:World) (hl:Sl (tInt .i16) w (blo w.heap.size) A n cap l) (hp:p < n) :
  Calls Tryz.prog 161 #[.slice A n cap,.int .i64 p] w fun e w'=>e=.returned (.agg (i4 .i16 (at4 l p)))∧Below w.heap.size w w':=by
 obtain ⟨b,off,rfl,hb1,hb2,-,-⟩:=hl.int_at p hp
 have hcap:=hl.cap_le
 have hmax:=hl.max_le
 have hmx:maxLen≤9223372036854775807:=by decide
 have FR:=zH (Far.refl w)
 have L:=zH (Old.now hl)
 obtain ⟨w1,hw_w1,BO,k_w1⟩:=nB w #[.int .i16 0,.int .i16 0,.int .i16 0,.int .i16 0] 210
 replace FR:=zH (FR.out.fut k_w1)
 replace L:=zH (L.out.fut k_w1)
 clear k_w1
 obtain ⟨w2,hw_w2,BC,k_w2⟩:=nB w1 #[.int .i16 0,.int .i16 0,.int .i16 0,.int .i16 0] 210
 replace FR:=zH (FR.out.fut k_w2)
 replace L:=zH (L.out.fut k_w2)
 replace BO:=zH (BO.out.fut k_w2)
 clear k_w2
 have l1:w.heap.size < w1.heap.size:=by rw [← hw_w1];simp
 clear hl
 have p1:(p:Int)≤n:=by omega
 have p2:(n:Int)≤cap:=by omega
 have p3:(cap:Int)≤9223372036854775807:=by omega
 go_enter Tryz.func161,Tryz.ntmps161
 go_wp2_with fail
 clear hw_w1 hw_w2
 obtain ⟨cs,hcs⟩:∃ cs,((l.drop p).take 4).map (Value.int .i16)=cs:=⟨_,rfl⟩
 have hll:=L.out.out.n_eq
 have hlen:cs.length=Nat.min (n - p) 4:=by rw [← hcs,List.length_map,List.length_take,List.length_drop,hll];exact Nat.min_comm _ _
 have hlen4:cs.length≤4:=by rw [hlen];exact Nat.min_le_right _ _
 have SRC:=zH (show ∀ j v,cs[j]?=some v → w2.drew.cell? ((⟨b,off+p,none⟩:Addr).add j)=some v from by
  intro j v hv
  have hj:j < cs.length:=(List.getElem?_eq_some_iff.1 hv).1
  have hj2:p+j < n:=by rw [hlen] at hj;have:=Nat.min_le_left (n - p) 4;have:j < n - p:=Nat.lt_of_lt_of_le hj this;omega
  obtain ⟨b',off',e',-,-,hc,-⟩:=L.out.draw.out.int_at (p+j) hj2
  simp only [Option.some.injEq,Addr.mk.injEq,and_true] at e'
  obtain ⟨rfl,rfl⟩:=e'
  have ea:(⟨b,off+p,none⟩:Addr).add j=⟨b,off+(p+j),none⟩:=by unfold Addr.add;split <;> simp_all <;> omega
  rw [ea,hc]
  rw [← hcs,List.getElem?_map,List.getElem?_take] at hv
  split at hv
  ·rw [List.getElem?_drop] at hv
   cases hq:l[p+j]? with
   | none=>rw [hq] at hv;cases hv
   | some x=>rw [hq] at hv;rw [List.getD_eq_getElem?_getD,hq];exact hv
  ·cases hv)
 refine wp_region_held_drew (S:=fun w'=>True) (by kernel_rfl) ?_ (fun hS=>?_)
 ·exact trivial
 refine kH 0 rfl hS ?_
 try simp only [pX]
 refine kH 1 rfl hS ?_
 try simp only [pX]
 refine kH 2 rfl hS ?_
 try simp only [pX]
 refine kH 3 rfl hS ?_
 try simp only [pX]
 refine rH 4 rfl (fun K hK=>?_)
 refine step_copy_splice rfl (.tmp 6) (.tmp 9) 170 170 rfl 192 (by rw [Tryz.underlying170]) (by kernel_rfl) (some ⟨w1.heap.size,0,none⟩) (some ⟨b,off+p,none⟩) 4 4 (n - p) (cap - p) rfl (by show Value.slice (if cap=p then _ else _) (n - p) (cap - p)=_;rw [if_neg (by omega)]) w1.heap.size 0 [.int .i16 0,.int .i16 0,.int .i16 0,.int .i16 0] 210 BC.out.draw.heap cs hlen (fun _=>⟨rfl,_,rfl,SRC.out⟩) (by simp;omega) (by intro v hv;rw [← hcs,List.mem_map] at hv;obtain ⟨x,-,rfl⟩:=hv;rfl) w1.heap.size w2.drew (Below.refl _ _) (Nat.le_refl _) ?_;intro w5 HG hb5;refine hK.out _ _ trivial (fun hS=>?_)
 clear hK K
 try simp only [pX]
 refine wpAnyH_done (by kernel_rfl) ?_ _
 have B5:Blk w5 w1.heap.size 210 (i4 .i16 (at4 l p)):=⟨by have h:=HG.out;rw [← hcs,at4_splice] at h;simpa using h⟩
 have BO5:=BO.out.draw.below hb5 l1
 have F5:Below w.heap.size w w5:=FR.out.draw.out.trans (hb5.mono (by omega))
 clear hS HG hb5 BC BO FR L SRC hcs hlen hlen4
 go_wp2_with (first|(refine wpList_load_blk rfl 210 (.tmp 5) rfl w1.heap.size 0 rfl _ (i4 .i16 (at4 l p)) (i4 .i16 (at4 l p)) _ B5 Tryz.underlying210 rfl (by show _=some 4;kernel_rfl) rfl ?_)|(refine wpList_store_all rfl 210 (.tmp 4) (.tmp 11) rfl w.heap.size (i4 .i16 (at4 l p)) rfl rfl _ _ BO5 rfl (by show _=some 4;kernel_rfl) (i4_one _ _) ?_;intro w6 B6 g6))
 refine ret_array rfl B6 rfl Tryz.underlying210 (by show _=some 4;kernel_rfl) rfl ?_
 exact ⟨rfl,F5.grown g6 F5.size (fun j hj=>by have:=Option.some.inj hj;omega)⟩
end Go.Proofs.YtjkmjpjknmghlaaGreat
namespace Go.Proofs.YtjkmjpjknmghlaaGreat
open Fx
abbrev W3:=Int × Int × Int
def t3 (v:W3):Nat → Int:=w3Z v.1 v.2.1 v.2.2
def accW (xs:List (List Int)) (ws:List W3) (p:Nat):Nat → Nat → Fx.Wd
 | 0=>fun _=>(0,0)
 | k+1=>plusW (accW xs ws p k) (timesW (ofW (at4 (xs.getD k []) p)) (ofW (t3 (ws.getD k (0,0,0)))))
def accZ (xs:List (List Int)) (ws:List W3) (p:Nat):Nat → Nat → Int × Int
 | 0=>fun _=>(0,0)
 | k+1=>fun i=>cadd (accZ xs ws p k i) (crossZ (at4 (xs.getD k []) p) (t3 (ws.getD k (0,0,0))) i)
def winV (xs:List (List Int)) (ws:List W3) (p:Nat):Nat → Int
 | 0=>0
 | k+1=>winV xs ws p k+((xs.getD k []).getD p 0*(ws.getD k (0,0,0)).1+(xs.getD k []).getD (p+1) 0*(ws.getD k (0,0,0)).2.1+(xs.getD k []).getD (p+2) 0*(ws.getD k (0,0,0)).2.2)
def In3 (v:W3):Prop:=InK .i8 v.1∧InK .i8 v.2.1∧InK .i8 v.2.2
structure RowsOk (xs:List (List Int)) (ws:List W3):Prop where
 row:∀ k i,InK .i16 ((xs.getD k []).getD i 0)
 tap:∀ k,In3 (ws.getD k (0,0,0))
theorem RowsOk.at4 {xs:List (List Int)} {ws:List W3} (h:RowsOk xs ws) (k p:Nat):∀ i,i < 4 → (Go.Proofs.YtjkmjpjknmghlaaGreat.at4 (xs.getD k []) p i).natAbs≤32768:=fun i _=>by
 have:=h.row k (p+i)
 rw [inK_i16] at this
 unfold Go.Proofs.YtjkmjpjknmghlaaGreat.at4
 omega
theorem RowsOk.t3 {xs:List (List Int)} {ws:List W3} (h:RowsOk xs ws) (k:Nat):∀ i,i < 4 → (Go.Proofs.YtjkmjpjknmghlaaGreat.t3 (ws.getD k (0,0,0)) i).natAbs≤128:=fun i _=>by
 obtain ⟨h1,h2,h3⟩:=h.tap k
 rw [inK_i8] at h1 h2 h3
 unfold Go.Proofs.YtjkmjpjknmghlaaGreat.t3 w3Z
 split <;> omega
theorem cross_ok {xs:List (List Int)} {ws:List W3} (h:RowsOk xs ws) (p k i:Nat) :
  cMulBits (ofW (at4 (xs.getD k []) p) i).1 (ofW (at4 (xs.getD k []) p) i).2 (ofW (t3 (ws.getD k (0,0,0))) i).1 (ofW (t3 (ws.getD k (0,0,0))) i).2
   = some ((timesW (ofW (at4 (xs.getD k []) p)) (ofW (t3 (ws.getD k (0,0,0)))) i).1,(timesW (ofW (at4 (xs.getD k []) p)) (ofW (t3 (ws.getD k (0,0,0)))) i).2)
  ∧ Cd (timesW (ofW (at4 (xs.getD k []) p)) (ofW (t3 (ws.getD k (0,0,0)))) i) (crossZ (at4 (xs.getD k []) p) (t3 (ws.getD k (0,0,0))) i)
  ∧ Cb (crossZ (at4 (xs.getD k []) p) (t3 (ws.getD k (0,0,0))) i) 134217728:=by
 obtain ⟨a1,a2⟩:=of_ok (h.at4 k p) (by decide) i
 obtain ⟨b1,b2⟩:=of_ok (h.t3 k) (by decide) i
 obtain ⟨c1,c2⟩:=mulW_ok a1 b1 a2 b2 (by decide)
 exact ⟨c1,c2,(a2.cmul b2).le (by decide)⟩
theorem acc_ok {xs:List (List Int)} {ws:List W3} (h:RowsOk xs ws) (p:Nat):∀ k,k≤1024 → ∀ i,Cd (accW xs ws p k i) (accZ xs ws p k i)∧Cb (accZ xs ws p k i) (k*134217728)
 | 0,_,i=>⟨cd_zero,by simp [accZ],by simp [accZ]⟩
 | k+1,hk,i=>by
  obtain ⟨h1,h2⟩:=acc_ok h p k (by omega) i
  obtain ⟨-,h3,h4⟩:=cross_ok h p k i
  have h5:=h2.cadd h4
  refine ⟨(addW_ok h1 h3 (h5.le (by omega))).2,?_⟩
  exact h5.le (by omega)
theorem acc_add {xs:List (List Int)} {ws:List W3} (h:RowsOk xs ws) (p k:Nat) (hk:k < 1024) (i:Nat) :
  cSumBits .add .f64 (accW xs ws p k i).1 (accW xs ws p k i).2 (timesW (ofW (at4 (xs.getD k []) p)) (ofW (t3 (ws.getD k (0,0,0)))) i).1 (timesW (ofW (at4 (xs.getD k []) p)) (ofW (t3 (ws.getD k (0,0,0)))) i).2
   = some ((plusW (accW xs ws p k) (timesW (ofW (at4 (xs.getD k []) p)) (ofW (t3 (ws.getD k (0,0,0))))) i).1,(plusW (accW xs ws p k) (timesW (ofW (at4 (xs.getD k []) p)) (ofW (t3 (ws.getD k (0,0,0))))) i).2):=by
 obtain ⟨h1,h2⟩:=acc_ok h p k (by omega) i
 obtain ⟨-,h3,h4⟩:=cross_ok h p k i
 exact (addW_ok h1 h3 ((h2.cadd h4).le (by omega))).1
theorem cmul_add (a b q:Int × Int):cmul (cadd a b) q=cadd (cmul a q) (cmul b q):=by
 unfold cmul cadd
 simp only [Prod.mk.injEq]
 constructor <;> grind
theorem turnZ_add (q a b:Int × Int):∀ n,turnZ q (cadd a b) n=cadd (turnZ q a n) (turnZ q b n)
 | 0=>rfl
 | n+1=>by
  show cmul (turnZ q (cadd a b) n) q=_
  rw [turnZ_add q a b n,cmul_add]
  rfl
theorem cadd_comm4 (a b c d:Int × Int):cadd (cadd a b) (cadd c d)=cadd (cadd a c) (cadd b d):=by
 unfold cadd
 simp only [Prod.mk.injEq]
 constructor <;> omega
theorem sumZ_add (q:Int × Int) (f g:Nat → Int × Int) (k:Nat):∀ j,sumZ q (fun i=>cadd (f i) (g i)) k j=cadd (sumZ q f k j) (sumZ q g k j)
 | 0=>rfl
 | j+1=>by
  show cadd (sumZ q (fun i=>cadd (f i) (g i)) k j) (turnZ q (cadd (f j) (g j)) ((j*k) % 4))=_
  rw [sumZ_add q f g k j,turnZ_add,cadd_comm4]
  rfl
theorem sums_zero (q:Int × Int) (k:Nat) (h:Quarter q):sumsZ q (fun _=>(0,0)) k=(0,0):=by
 have ht:∀ n,turnZ q (0,0) n=(0,0):=by
  intro n
  induction n with
  | zero=>rfl
  | succ n ih=>show cmul (turnZ q (0,0) n) q=_;rw [ih];unfold cmul;simp
 have hs:∀ j,sumZ q (fun _=>(0,0)) k j=(0,0):=by
  intro j
  induction j with
  | zero=>rfl
  | succ j ih=>show cadd (sumZ q (fun _=>(0,0)) k j) (turnZ q (0,0) _)=_;rw [ih,ht];rfl
 exact hs 4
theorem back_acc (xs:List (List Int)) (ws:List W3) (p:Nat):∀ k,(sumsZ (0,1) (accZ xs ws p k) 2).1=4*winV xs ws p k∧(sumsZ (0,1) (accZ xs ws p k) 3).1=4*winV xs ws (p+1) k
 | 0=>by
  have h2:=sums_zero (0,1) 2 (.inl rfl)
  have h3:=sums_zero (0,1) 3 (.inl rfl)
  constructor
  ·show (sumsZ (0,1) (fun _=>(0,0)) 2).1=_;rw [h2];rfl
  ·show (sumsZ (0,1) (fun _=>(0,0)) 3).1=_;rw [h3];rfl
 | k+1=>by
  obtain ⟨h1,h2⟩:=back_acc xs ws p k
  obtain ⟨h3,h4⟩:=back_cross (at4 (xs.getD k []) p) (t3 (ws.getD k (0,0,0)))
  constructor
  ·show (sumZ (0,1) (fun i=>cadd (accZ xs ws p k i) (crossZ (at4 (xs.getD k []) p) (t3 (ws.getD k (0,0,0))) i)) 2 4).1=_
   rw [sumZ_add]
   show (sumsZ (0,1) (accZ xs ws p k) 2).1+(sumsZ (0,1) (crossZ (at4 (xs.getD k []) p) (t3 (ws.getD k (0,0,0)))) 2).1=_
   rw [h1,h3]
   simp only [winV,at4,t3,w3Z,Nat.add_zero]
   omega
  ·show (sumZ (0,1) (fun i=>cadd (accZ xs ws p k i) (crossZ (at4 (xs.getD k []) p) (t3 (ws.getD k (0,0,0))) i)) 3 4).1=_
   rw [sumZ_add]
   show (sumsZ (0,1) (accZ xs ws p k) 3).1+(sumsZ (0,1) (crossZ (at4 (xs.getD k []) p) (t3 (ws.getD k (0,0,0)))) 3).1=_
   rw [h2,h4]
   simp only [winV,at4,t3,w3Z,Nat.add_assoc,Nat.reduceAdd]
   omega
theorem backZ_acc (xs:List (List Int)) (ws:List W3) (p k:Nat):backZ (accZ xs ws p k) 2=winV xs ws p k∧backZ (accZ xs ws p k) 3=winV xs ws (p+1) k:=by
 obtain ⟨h1,h2⟩:=back_acc xs ws p k
 unfold backZ
 rw [h1,h2]
 exact ⟨Int.mul_tdiv_cancel_left _ (by decide),Int.mul_tdiv_cancel_left _ (by decide)⟩
end Go.Proofs.YtjkmjpjknmghlaaGreat
namespace Go.Proofs.YtjkmjpjknmghlaaGreat
open Go.RowKit Go.ChangeShapes Go.WideShapes Fx
set_option maxRecDepth 100000
set_option maxHeartbeats 2000000
theorem Sl.row_at {α:Type} {t:Ty α} {w:World} {S:Nat → Prop} {X:Option Addr} {n cap:Nat} {xs:List (List α)} (h:Sl (tSlice t) w S X n cap xs) (i:Nat) (hi:i < n) :
  ∃ b off A c,X=some ⟨b,off,none⟩∧S b∧w.cell? ⟨b,off+i,none⟩=some (.slice A (xs.getD i []).length c)∧Sl t w S A (xs.getD i []).length c (xs.getD i []):=by
 obtain ⟨x,b,off,v,hx,hA,hS,hb,hr,hc⟩:=h.cell1 rfl i hi
 obtain ⟨A,c,hv,hs⟩:=tSlice_iff.1 hr
 simp only [List.cons.injEq,and_true] at hv
 subst hv
 have:xs.getD i []=x:=by rw [List.getD_eq_getElem?_getD,hx];rfl
 rw [this]
 exact ⟨b,off,A,c,hA,hS,hc,hs⟩
theorem alike_any (X:Option Addr) (n cap m:Nat) (xs:List (List Int)) (w:World) (h:Sl (tSlice (tInt .i16)) w (blo w.heap.size) X n cap xs) (hn:1≤n) (hm:∀ i,i < n → (xs.getD i []).length=m) :
  Calls Tryz.prog 155 #[.slice X n cap] w fun e w'=>e=.returned (.bool true)∧w'=w:=by
 obtain ⟨b,off,A0,q0,rfl,-,hc0,hs0⟩:=h.row_at 0 (by omega)
 rw [hm 0 (by omega)] at hc0 hs0
 rw [Nat.add_zero] at hc0
 have hcap:=h.cap_le
 have hmax:=h.max_le
 have hmx:maxLen≤9223372036854775807:=by decide
 have hm2:=hs0.cap_le
 have hm3:=hs0.max_le
 have H:=zH h
 have HM:=zH hm
 clear h hm
 go_enter Tryz.func155,Tryz.ntmps155
 go_wp2_with fail
 go_loopw [7] (fun i wr=>∃ k:Nat,k≤n∧i=.int .i64 k∧wr=w) (fun i _=>n - (intOf i).toNat)
 case atStart=>exact ⟨0,Nat.zero_le _,rfl,rfl⟩
 case round =>
  obtain ⟨k,hk,rfl,rfl⟩:=hrel
  by_cases hlt:k < n
  ·have p1:(k:Int) < (n:Int):=by omega
   obtain ⟨b',off',A',c',e',-,hc,-⟩:=H.out.row_at k hlt
   simp only [Option.some.injEq,Addr.mk.injEq,and_true] at e'
   obtain ⟨rfl,rfl⟩:=e'
   rw [HM.out k hlt] at hc
   go_wp2_with fail
   exact ⟨⟨k+1,by omega,by go_num,by trivial⟩,by simp [intOf];omega⟩
  ·obtain rfl:k=n:=by omega
   go_wp2_with fail
   go_ret
   exact ⟨rfl,by trivial⟩
end Go.Proofs.YtjkmjpjknmghlaaGreat
