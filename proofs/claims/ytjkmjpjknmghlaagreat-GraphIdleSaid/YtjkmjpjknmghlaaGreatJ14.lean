/-
  Sums by rows that are slid over (layer 16): the walks of lane.Fits, lane.tap.
  Sums by rows that are slid over (layer 16): the walk of lane.row.
  Where a number lies (layer 4: shape.Index; layer 5: the document's Get); held between two limits (layer 1).
-/
import Derived.Test.YtjkmjpjknmghlaaGreatJ08
import Derived.Test.YtjkmjpjknmghlaaGreatJ13
import Derived.StillTailTactics
set_option linter.unusedVariables false
set_option linter.unusedSimpArgs false
namespace Go.Proofs.YtjkmjpjknmghlaaGreat
open Go.RowKit Go.ChangeShapes Go.WideShapes Fx
set_option maxRecDepth 100000
set_option maxHeartbeats 2000000
def i3 (k:IntKind) (l:Nat → Int):Array Value:=#[.int k (l 0),.int k (l 1),.int k (l 2)]
theorem i3_one (k:IntKind) (f:Nat → Int):(i3 k f).all (·.oneCell')=true:=by rw [← Array.all_toList];rfl
theorem up3_set (kd:IntKind) (f g:Nat → Int) (k:Nat) (h:k < 3):(i3 kd (upI f g k)).setIfInBounds k (.int kd (f k))=i3 kd (upI f g (k+1)):=by
 unfold i3 upI
 match k,h with
 | 0,_=>rfl
 | 1,_=>rfl
 | 2,_=>rfl
theorem up3_end (kd:IntKind) (f g:Nat → Int):i3 kd (upI f g 3)=i3 kd f:=by unfold i3 upI;simp
theorem fits_any (d:Node) (W:Option Addr) (nw cw:Nat) (B:Option Addr) (nb cb:Nat) (w:World) :
  Calls Tryz.prog 119 #[.agg (nN d.kind d.a d.b d.k d.s d.p d.out d.za d.zb W nw cw B nb cb d.qm d.qs d.qz d.rm d.rs d.rz d.lo d.hi)] w fun e w'=>e=.returned (.bool (decide (d.k=3∧d.s=1)))∧Below w.heap.size w w':=by
 have FR:=zH (Far.refl w)
 obtain ⟨w1,hw_w1,BA,k_w1⟩:=nB w (nN d.kind d.a d.b d.k d.s d.p d.out d.za d.zb W nw cw B nb cb d.qm d.qs d.qz d.rm d.rs d.rz d.lo d.hi) 44
 replace FR:=zH (FR.out.fut k_w1)
 clear k_w1
 have c3:=BA.out.cell 3
 have c4:=BA.out.cell 4
 by_cases h3:d.k=3
 ·by_cases h4:d.s=1
  ·have t3:(d.k == 3)=true:=by rw [h3];rfl
   have t4:(d.s == 1)=true:=by rw [h4];rfl
   rw [show decide (d.k=3∧d.s=1)=true by simp [h3,h4]]
   clear h3 h4
   go_enter Tryz.func119,Tryz.ntmps119
   go_wp2_with fail
   go_ret
   exact ⟨rfl,FR.out.out⟩
  ·have t3:(d.k == 3)=true:=by rw [h3];rfl
   have t4:(d.s == 1)=false:=by simpa using h4
   rw [show decide (d.k=3∧d.s=1)=false by simp [h4]]
   clear h3 h4
   go_enter Tryz.func119,Tryz.ntmps119
   go_wp2_with fail
   go_ret
   exact ⟨rfl,FR.out.out⟩
 ·have t3:(d.k == 3)=false:=by simpa using h3
  rw [show decide (d.k=3∧d.s=1)=false by simp [h3]]
  clear h3
  go_enter Tryz.func119,Tryz.ntmps119
  go_wp2_with fail
  go_ret
  exact ⟨rfl,FR.out.out⟩
theorem tap_any (H V:Int) (C:Nat) (A:Option Addr) (n cap:Nat) (d:Node) (W:Option Addr) (nw cw:Nat) (B:Option Addr) (nb cb:Nat) (o i c:Nat) (w:World)
  (hw:Sl (tInt .i8) w (blo w.heap.size) W nw cw d.w) (hC:C≤1024) (ho:o≤1024) (hi:i < 3) (hc:c < C) (hn:(o+1)*(9*C)≤nw) :
  Calls Tryz.prog 143 #[.agg #[.int .i64 H,.int .i64 V,.int .i64 C,.slice A n cap,.int .i64 d.kind,.int .i64 d.a,.int .i64 d.b,.int .i64 d.k,.int .i64 d.s,.int .i64 d.p,.int .i64 d.out,.int .i8 d.za,.int .i8 d.zb,.slice W nw cw,.slice B nb cb,.int .i32 d.qm,.int .i64 d.qs,.int .i8 d.qz,.int .i32 d.rm,.int .i64 d.rs,.int .i8 d.rz,.int .i8 d.lo,.int .i8 d.hi],.int .i64 o,.int .i64 i,.int .i64 c] w fun e w'=>e=.returned (.agg (i3 .i8 (fun j=>d.w.getD (((o*3+i)*3+j)*C+c) 0)))∧Below w.heap.size w w':=by
 have hbnd:∀ j,j < 3 → ((o*3+i)*3+j)*C+c < nw:=by
  intro j hj
  have h1:((o*3+i)*3+j)*C+c < ((o*3+i)*3+j+1)*C:=by rw [Nat.succ_mul];omega
  have h2:((o*3+i)*3+j+1)*C≤((o+1)*9)*C:=Nat.mul_le_mul_right C (by omega)
  rw [Nat.mul_assoc] at h2
  omega
 obtain ⟨bw,ow,hWW,-,-,-,-⟩:=hw.int_at _ (hbnd 0 (by omega))
 have m2:nw≤9223372036854775807:=Nat.le_trans hw.cap_le hw.max_le
 have FR:=zH (Far.refl w)
 have OW:=zH (Old.now hw)
 obtain ⟨w1,hw_w1,BA,k_w1⟩:=nB w #[.int .i64 H,.int .i64 V,.int .i64 C,.slice A n cap,.int .i64 d.kind,.int .i64 d.a,.int .i64 d.b,.int .i64 d.k,.int .i64 d.s,.int .i64 d.p,.int .i64 d.out,.int .i8 d.za,.int .i8 d.zb,.slice W nw cw,.slice B nb cb,.int .i32 d.qm,.int .i64 d.qs,.int .i8 d.qz,.int .i32 d.rm,.int .i64 d.rs,.int .i8 d.rz,.int .i8 d.lo,.int .i8 d.hi] 167
 replace FR:=zH (FR.out.fut k_w1)
 replace OW:=zH (OW.out.fut k_w1)
 clear k_w1
 obtain ⟨w2,hw_w2,BO,k_w2⟩:=nB w1 #[.int .i8 0,.int .i8 0,.int .i8 0] 183
 replace FR:=zH (FR.out.fut k_w2)
 replace OW:=zH (OW.out.fut k_w2)
 replace BA:=zH (BA.out.fut k_w2)
 clear k_w2
 obtain ⟨w3,hw_w3,BC,k_w3⟩:=nB w2 #[.int .i8 0,.int .i8 0,.int .i8 0] 183
 replace FR:=zH (FR.out.fut k_w3)
 replace OW:=zH (OW.out.fut k_w3)
 replace BA:=zH (BA.out.fut k_w3)
 replace BO:=zH (BO.out.fut k_w3)
 clear k_w3
 have HB:=zH hbnd
 clear hw hbnd hn
 subst hWW
 obtain ⟨wf,hwf⟩:∃ f:Nat → Int,f=fun j=>d.w.getD (((o*3+i)*3+j)*C+c) 0:=⟨_,rfl⟩
 rw [← hwf]
 have HWF:=zH hwf
 clear hwf
 go_enter Tryz.func143,Tryz.ntmps143
 go_wp2_with fail
 have l1:w.heap.size < w1.heap.size:=by rw [← hw_w1];simp
 have l2:w1.heap.size < w2.heap.size:=by rw [← hw_w2];simp
 clear hw_w1 hw_w2 hw_w3
 replace BC:=zH (show Blk w3 w2.heap.size 183 (i3 .i8 (upI wf (fun _=>0) 0)) by rw [upI_zero];exact BC.out)
 obtain ⟨g0,e0⟩:∃ n,w.heap.size=n:=⟨_,rfl⟩
 obtain ⟨g1,e1⟩:∃ n,w1.heap.size=n:=⟨_,rfl⟩
 obtain ⟨g2,e2⟩:∃ n,w2.heap.size=n:=⟨_,rfl⟩
 rw [e0,e1] at l1
 rw [e1,e2] at l2
 rw [e0] at BA
 rw [e1] at BO
 rw [e2] at BC
 rw [e0,e1,e2]
 go_loopw [11] (fun ii wr=>∃ k:Nat,k≤3∧ii=.int .i64 k∧Far w wr∧Old w (tInt .i8) wr (some ⟨bw,ow,none⟩) nw cw d.w∧Blk wr g0 167 #[.int .i64 H,.int .i64 V,.int .i64 C,.slice A n cap,.int .i64 d.kind,.int .i64 d.a,.int .i64 d.b,.int .i64 d.k,.int .i64 d.s,.int .i64 d.p,.int .i64 d.out,.int .i8 d.za,.int .i8 d.zb,.slice (some ⟨bw,ow,none⟩) nw cw,.slice B nb cb,.int .i32 d.qm,.int .i64 d.qs,.int .i8 d.qz,.int .i32 d.rm,.int .i64 d.rs,.int .i8 d.rz,.int .i8 d.lo,.int .i8 d.hi]∧Blk wr g1 183 #[.int .i8 0,.int .i8 0,.int .i8 0]∧Blk wr g2 183 (i3 .i8 (upI wf (fun _=>0) k))) (fun ii _=>3 - (intOf ii).toNat)
 case atStart=>exact ⟨0,Nat.zero_le _,rfl,FR.out,OW.out,BA.out,BO.out,BC.out⟩
 case round =>
  obtain ⟨k,hk,rfl,hf,how,hba,hbo,hbc⟩:=hrel
  clear FR OW BA BO BC
  have FR:=zH hf
  have OW:=zH how
  have BA:=zH hba
  have BO:=zH hbo
  have BC:=zH hbc
  clear hf how hba hbo hbc
  by_cases hlt:k < 3
  ·have p1:(k:Int) < 3:=by omega
   have hb:=HB.out k hlt
   obtain ⟨b',o',e',-,-,cq,-⟩:=OW.out.out.int_at _ hb
   simp only [Option.some.injEq,Addr.mk.injEq,and_true] at e'
   obtain ⟨rfl,rfl⟩:=e'
   rw [show d.w.getD (((o*3+i)*3+k)*C+c) 0=wf k by rw [HWF.out]] at cq
   obtain ⟨q,hq⟩:∃ q,((o*3+i)*3+k)*C=q:=⟨_,rfl⟩
   have hqi:((((o:Int)*3+(i:Int))*3+(k:Int))*(C:Int))=(q:Int):=by rw [← hq];simp
   rw [hq] at cq hb
   clear hq
   have p2:(q:Int)+(c:Int) < nw:=by omega
   have p3:(o:Int)≤1024:=by omega
   have p4:(i:Int) < 3:=by omega
   have c2:=BA.out.cell 2
   have c13:=BA.out.cell 13
   have SS:=zH (up3_set .i8 wf (fun _=>0) k hlt)
   go_wp2_with (refine wpList_store_one rfl 39 (.tmp 34) (.tmp 33) rfl g2 k (.int .i8 (wf k)) rfl rfl rfl rfl _ (i3 .i8 (upI wf (fun _=>0) k)) (i3 .i8 (upI wf (fun _=>0) (k+1))) BC.out (by simp [i3];omega) (by kernel_rfl) (by rw [← SS.out];exact set_list _ _ _ (by simp [i3];omega)) ?_;intro w5 B5 g5)
   exact ⟨⟨k+1,by omega,by go_num,FR.out.away g5 (by omega),OW.out.away g5 (by omega),BA.out.away g5 (.inl (by omega)),BO.out.away g5 (.inl (by omega)),B5⟩,by simp [intOf];omega⟩
  ·obtain rfl:k=3:=by omega
   have BC:=zH (show Blk wr g2 183 (i3 .i8 wf) by rw [← up3_end .i8 wf (fun _=>0)];exact BC.out)
   go_wp2_with (first|(refine wpList_load_blk rfl 183 (.tmp 9) rfl g2 0 rfl _ (i3 .i8 wf) (i3 .i8 wf) _ BC.out Tryz.underlying183 rfl (by show _=some 3;kernel_rfl) rfl ?_)|(refine wpList_store_all rfl 183 (.tmp 8) (.tmp 36) rfl g1 (i3 .i8 wf) rfl rfl _ _ BO.out rfl (by show _=some 3;kernel_rfl) (i3_one _ _) ?_;intro w5 B5 g5))
   refine ret_array rfl B5 rfl Tryz.underlying183 (by show _=some 3;kernel_rfl) rfl ?_
   exact ⟨rfl,by have:=FR.out.away g5 (by omega);exact this.out⟩
end Go.Proofs.YtjkmjpjknmghlaaGreat
namespace Go.Proofs.YtjkmjpjknmghlaaGreat
open Go.RowKit Go.ChangeShapes Go.WideShapes Fx
set_option maxRecDepth 100000
set_option maxHeartbeats 2000000
theorem ei_i16:EI Tryz.prog 170 192 (.int .i16 0) 1 2:=⟨Tryz.underlying170,by kernel_rfl,rfl,by decide⟩
def rowSt (H V C:Nat) (l:List Int) (za:Int) (P:Nat) (y:Int) (c k:Nat):List Int:=(List.range (V+2*P)).map fun j:Nat=>if P≤j∧j < P+k then px H V C l za y ((j:Int) - (P:Int)) c else 0
theorem rowSt_zero (H V C:Nat) (l:List Int) (za:Int) (P:Nat) (y:Int) (c:Nat):rowSt H V C l za P y c 0=List.replicate (V+2*P) 0:=by
 unfold rowSt
 apply List.ext_getElem (by simp)
 intro i h1 h2
 simp only [List.getElem_map,List.getElem_range,List.getElem_replicate]
 rw [if_neg (by omega)]
theorem rowSt_out (H V C:Nat) (l:List Int) (za:Int) (P:Nat) (y:Int) (c:Nat) (h:y < 0 ∨ (H:Int)≤y):rowV H V C l za P y c=List.replicate (V+2*P) 0:=by
 unfold rowV
 apply List.ext_getElem (by simp)
 intro i h1 h2
 simp only [List.getElem_map,List.getElem_range,List.getElem_replicate]
 unfold px
 rw [if_neg (by omega)]
theorem rowSt_end (H V C:Nat) (l:List Int) (za:Int) (P:Nat) (y:Int) (c:Nat):rowSt H V C l za P y c V=rowV H V C l za P y c:=by
 unfold rowSt rowV
 apply List.ext_getElem (by simp)
 intro i h1 h2
 simp only [List.getElem_map,List.getElem_range]
 by_cases h:P≤i∧i < P+V
 ·rw [if_pos h]
 ·rw [if_neg h];unfold px;rw [if_neg (by omega)]
theorem rowSt_set (H V C:Nat) (l:List Int) (za:Int) (P:Nat) (y c k:Nat) (hk:k < V) (hy:y < H) :
  (rowSt H V C l za P y c k).set (k+P) (l.getD ((y*V+k)*C+c) 0 - za)=rowSt H V C l za P y c (k+1):=by
 unfold rowSt
 apply List.ext_getElem (by simp)
 intro i h1 h2
 rw [List.getElem_set]
 simp only [List.getElem_map,List.getElem_range]
 by_cases e:k+P=i
 ·subst e
  rw [if_pos rfl,if_pos (by omega)]
  unfold px
  rw [if_pos (by omega)]
  have:(((k+P:Nat):Int) - (P:Int)).toNat=k:=by omega
  rw [this,Int.toNat_natCast]
 ·rw [if_neg e]
  by_cases h:P≤i∧i < P+k
  ·rw [if_pos h,if_pos (by omega)]
  ·rw [if_neg h,if_neg (by omega)]
theorem wrap_i16 (n:Int):IntKind.i16.wrap n=(n+32768) % 65536 - 32768:=by
 unfold IntKind.wrap
 simp [IntKind.bits,IntKind.signed]
 split <;> omega
theorem idx_lt (y k c H V C:Nat) (hy:y < H) (hk:k < V) (hc:c < C):(y*V+k)*C+c < H*V*C:=by
 have h1:y*V+k < H*V:=by
  have:(y+1)*V≤H*V:=Nat.mul_le_mul_right V hy
  rw [Nat.succ_mul] at this
  omega
 have h2:(y*V+k+1)*C≤(H*V)*C:=Nat.mul_le_mul_right C h1
 rw [Nat.succ_mul] at h2
 omega
theorem row_any (H V C P:Nat) (A:Option Addr) (n cap:Nat) (l:List Int) (d:Node) (W:Option Addr) (nw cw:Nat) (B:Option Addr) (nb cb:Nat) (h:Int) (c:Nat) (w:World)
  (hl:Sl (tInt .i8) w (blo w.heap.size) A n cap l) (hn:n=H*V*C) (hn2:n≤1048576) (hV:V≤1048576) (hC:C≤1048576) (hp:d.p=P) (hP:P≤4) (hz:InK .i8 d.za) (hc:c < C) (hh:-100≤h) (hh2:h≤2000000) (hH:H≤1048576) :
  Calls Tryz.prog 142 #[.agg #[.int .i64 H,.int .i64 V,.int .i64 C,.slice A n cap,.int .i64 d.kind,.int .i64 d.a,.int .i64 d.b,.int .i64 d.k,.int .i64 d.s,.int .i64 d.p,.int .i64 d.out,.int .i8 d.za,.int .i8 d.zb,.slice W nw cw,.slice B nb cb,.int .i32 d.qm,.int .i64 d.qs,.int .i8 d.qz,.int .i32 d.rm,.int .i64 d.rs,.int .i8 d.rz,.int .i8 d.lo,.int .i8 d.hi],.int .i64 h,.int .i64 c] w (RetSl (tInt .i16) w (rowV H V C l d.za P h c)):=by
 have FR:=zH (Far.refl w)
 have OL:=zH (Old.now hl)
 obtain ⟨w1,hw_w1,BA,k_w1⟩:=nB w #[.int .i64 H,.int .i64 V,.int .i64 C,.slice A n cap,.int .i64 d.kind,.int .i64 d.a,.int .i64 d.b,.int .i64 d.k,.int .i64 d.s,.int .i64 d.p,.int .i64 d.out,.int .i8 d.za,.int .i8 d.zb,.slice W nw cw,.slice B nb cb,.int .i32 d.qm,.int .i64 d.qs,.int .i8 d.qz,.int .i32 d.rm,.int .i64 d.rs,.int .i8 d.rz,.int .i8 d.lo,.int .i8 d.hi] 167
 replace FR:=zH (FR.out.fut k_w1)
 replace OL:=zH (OL.out.fut k_w1)
 clear k_w1
 obtain ⟨w2,hw_w2,BS,k_w2⟩:=nB w1 #[.int .i64 H,.int .i64 V,.int .i64 C] 24
 replace FR:=zH (FR.out.fut k_w2)
 replace OL:=zH (OL.out.fut k_w2)
 replace BA:=zH (BA.out.fut k_w2)
 clear k_w2
 have c0:w1.cell? ⟨w.heap.size,0,none⟩=some (.int .i64 H):=by rw [← hw_w1];exact (Blk.now _ _ _ _ rfl).cell 0
 have c1:w1.cell? ⟨w.heap.size,1,none⟩=some (.int .i64 V):=by rw [← hw_w1];exact (Blk.now _ _ _ _ rfl).cell 1
 have c2:w1.cell? ⟨w.heap.size,2,none⟩=some (.int .i64 C):=by rw [← hw_w1];exact (Blk.now _ _ _ _ rfl).cell 2
 have c9:=BA.out.cell 9
 have d1:=BS.out.cell 1
 have LL:=zH (show w.heap.size < w2.heap.size∧w1.heap.size < w2.heap.size by rw [← hw_w2,← hw_w1];simp;omega)
 have HN:=zH hn
 have HL:=zH hl
 have HP:=zH hp
 rw [hp] at c9
 clear hn hh hp hl
 have p1:(V:Int)≤1048576:=by omega
 have p2:(P:Int)≤4:=by omega
 by_cases hin:0≤h∧h < (H:Int)
 ·obtain ⟨y,rfl⟩:∃ y:Nat,h=(y:Int):=⟨h.toNat,by omega⟩
  have p3:(y:Int) < (H:Int):=hin.2
  have hyH:y < H:=by omega
  rw [← rowSt_end]
  have t1:decide ((y:Int) < 0)=false:=by simp
  have t2:decide ((H:Int)≤(y:Int))=false:=by simp;omega
  have t3:decide (H≤y)=false:=by simp;omega
  clear hin
  go_enter Tryz.func142,Tryz.ntmps142
  go_wp2_with fail
  go_step3
  go_wp2_with (at_make;go_loud (refine wpList_make (t:=tInt .i16) (S:=fun _=>False) (base:=w.heap.size) rfl _ _ rfl ei_i16 .i64 .i64 _ _ (V+2*P) rfl rfl ?_ ?_ ?_ ?_ ?_ 0 ⟨rfl,by decide⟩ (fun _ h=>h.elim) ?_;rotate_right;intro w3 hown hg;(try rw [hw_w1] at hg);(try rw [hw_w2] at hg);have ON:=zH hown;have kb:Below w2.heap.size w2 w3:=(Below.refl _ _).grown hg (Nat.le_refl _) (by simp);replace FR:=zH (FR.out.fut kb);replace BS:=zH (BS.out.fut kb);replace BA:=zH (BA.out.fut kb);replace OL:=zH (OL.out.fut kb);have e0:=BS.out.cell 0;have e1:=BS.out.cell 1;clear hown hg kb hw_w1 hw_w2 c0 c1 c2 c9 d1))
  rotate_left
  ·omega
  ·omega
  ·omega
  ·unfold maxLen;omega
  ·exact FR.out.size
  have hb0:(y*V+0)*C+c < n ∨ V=0:=by
   by_cases h0:V=0
   ·exact .inr h0
   ·left;rw [HN.out];exact idx_lt y 0 c H V C hyH (by omega) hc
  rw [← rowSt_zero H V C l d.za P y c] at ON
  go_loopw [9] (fun ii wr=>∃ k:Nat,k≤V∧ii=.int .i64 k∧Far w wr∧Old w (tInt .i8) wr A n cap l∧Blk wr w.heap.size 167 #[.int .i64 H,.int .i64 V,.int .i64 C,.slice A n cap,.int .i64 d.kind,.int .i64 d.a,.int .i64 d.b,.int .i64 d.k,.int .i64 d.s,.int .i64 d.p,.int .i64 d.out,.int .i8 d.za,.int .i8 d.zb,.slice W nw cw,.slice B nb cb,.int .i32 d.qm,.int .i64 d.qs,.int .i8 d.qz,.int .i32 d.rm,.int .i64 d.rs,.int .i8 d.rz,.int .i8 d.lo,.int .i8 d.hi]∧Blk wr w1.heap.size 24 #[.int .i64 H,.int .i64 V,.int .i64 C] ∧
   Own (tInt .i16) wr (fun _=>False) w.heap.size 192 (.slice (some ⟨w2.heap.size,0,none⟩) (V+2*P) (V+2*P)) (V+2*P) (rowSt H V C l d.za P y c k)) (fun ii _=>V - (intOf ii).toNat)
  case atStart=>exact ⟨0,Nat.zero_le _,rfl,FR.out,OL.out,BA.out,BS.out,ON.out⟩
  case round =>
   obtain ⟨k,hk,rfl,hf,how,hba,hbs,hon⟩:=hrel
   clear FR OL BA BS ON e0 e1
   have FR:=zH hf
   have OL:=zH how
   have BA:=zH hba
   have BS:=zH hbs
   have ON:=zH hon
   clear hf how hba hbs hon
   have s1:=BS.out.cell 1
   by_cases hlt:k < V
   ·have hb:(y*V+k)*C+c < n:=by rw [HN.out];exact idx_lt y k c H V C hyH hlt hc
    have RS:=zH (rowSt_set H V C l d.za P y c k hlt hyH)
    obtain ⟨b',o',rfl,-,-,cq,iq⟩:=OL.out.out.int_at _ hb
    obtain ⟨xd,hxd⟩:∃ x,l.getD ((y*V+k)*C+c) 0=x:=⟨_,rfl⟩
    rw [hxd] at cq iq
    rw [hxd] at RS
    clear hxd
    obtain ⟨z,hzz⟩:∃ z,d.za=z:=⟨_,rfl⟩
    rw [hzz] at RS
    have hz':=hz
    rw [hzz,inK_i8] at hz'
    rw [inK_i8] at iq
    have a0:=BA.out.cell 0
    have c3:=BA.out.cell 3
    have c9:=BA.out.cell 9
    have c11:=BA.out.cell 11
    have s2:=BS.out.cell 2
    simp only [gX] at a0 c3 c9 c11 s1 s2
    rw [HP.out] at c9
    rw [hzz] at c11
    have HZ:=zH hzz
    obtain ⟨q1,h1⟩:∃ q,y*V=q:=⟨_,rfl⟩
    have h1j:(y:Int)*(V:Int)=(q1:Int):=by rw [← h1];simp
    rw [h1] at cq hb
    obtain ⟨q2,h2⟩:∃ q,q1+k=q:=⟨_,rfl⟩
    rw [h2] at cq hb
    obtain ⟨q3,h3⟩:∃ q,q2*C=q:=⟨_,rfl⟩
    have h3j:(q2:Int)*(C:Int)=(q3:Int):=by rw [← h3];simp
    have m1:q2≤q3:=by rw [← h3];exact Nat.le_mul_of_pos_right _ (by omega)
    rw [h3] at cq hb
    obtain ⟨q4,h4⟩:∃ q,q3+c=q:=⟨_,rfl⟩
    rw [h4] at cq hb
    have g1:IntKind.i64.wrap ((y:Int)*(V:Int))=(q1:Int):=by rw [h1j];exact IntWalk.i64_in _ (by omega)
    have g2:IntKind.i64.wrap ((q1:Int)+(k:Int))=(q2:Int):=(IntWalk.i64_in _ (by omega)).trans (by omega)
    have g3:IntKind.i64.wrap ((q2:Int)*(C:Int))=(q3:Int):=by rw [h3j];exact IntWalk.i64_in _ (by omega)
    have g4:IntKind.i64.wrap ((q3:Int)+(c:Int))=(q4:Int):=(IntWalk.i64_in _ (by omega)).trans (by omega)
    have g5:IntKind.i64.wrap ((k:Int)+(P:Int))=((k+P:Nat):Int):=(IntWalk.i64_in _ (by omega)).trans (by omega)
    have g6:IntKind.i16.wrap xd=xd:=by rw [wrap_i16];omega
    have g7:IntKind.i16.wrap z=z:=by rw [wrap_i16];omega
    have g8:IntKind.i16.wrap (xd - z)=xd - z:=by rw [wrap_i16];omega
    have kp:k+P < V+2*P:=by omega
    clear hzz hz h1 h3 h1j h2 h3j h4
    go_wp2_with fail
    go_still_tail 28,(by kernel_rfl)
    change wpList _ _ _ _ _ wr.drew
    have kd:Below wr.heap.size wr wr.drew:=(Below.refl _ _).drew
    have ON2:=ON.out.below kd (Nat.le_refl _) (fun _ h=>h.elim)
    replace FR:=zH (FR.out.fut kd)
    replace OL:=zH (OL.out.fut kd)
    replace BA:=zH (BA.out.fut kd)
    replace BS:=zH (BS.out.fut kd)
    replace ON:=zH ON2
    clear ON2 kd s1 s2 a0 c3 c9 c11 cq
    generalize wr.drew=w5 at *
    obtain ⟨x1,u1,-,-,c5,c6,c7,-⟩:=ON.out.cell rfl (k+P) (by omega)
    go_wp2_with fail
    obtain ⟨o3,g3⟩:=ON.out.set1 rfl (k+P) (.int .i16 (xd - z)) (xd - z) ⟨rfl,by simp only [InK,IntKind.min,IntKind.max,IntKind.signed,IntKind.bits];simp;omega⟩ (fun _ h=>h.elim)
    rw [HZ.out,RS.out] at o3
    have ll1:=LL.out.1
    have ll2:=LL.out.2
    have l3:w.heap.size≤w2.heap.size:=o3.lt _ rfl |>.1
    exact ⟨⟨k+1,by omega,by go_num,FR.out.away g3 l3,OL.out.away g3 l3,BA.out.away g3 (.inl ll1),BS.out.away g3 (.inl ll2),by rw [HZ.out];exact o3⟩,by simp [intOf];omega⟩
   ·obtain rfl:k=V:=by omega
    go_wp2_with fail
    go_step3
    go_wp2_with fail
    rw [Exit.noGoto_ret]
    go_ret
    exact ON.out.ret (by decide) FR.out.out (fun _ h=>h.elim)
 ·have hout:h < 0 ∨ (H:Int)≤h:=by omega
  rw [rowSt_out _ _ _ _ _ _ _ _ hout]
  clear hin
  rcases hout with q1|q1
  ·go_enter Tryz.func142,Tryz.ntmps142
   go_wp2_with fail
   refine wp_scope_fore 0 rfl ?_
   go_wp2_with (at_make;go_loud (refine wpList_make (t:=tInt .i16) (S:=fun _=>False) (base:=w.heap.size) rfl _ _ rfl ei_i16 .i64 .i64 _ _ (V+2*P) rfl rfl ?_ ?_ ?_ ?_ ?_ 0 ⟨rfl,by decide⟩ (fun _ h=>h.elim) ?_;rotate_right;intro w3 hown hg;(try rw [hw_w1] at hg);(try rw [hw_w2] at hg);have ON:=zH hown;have kb:Below w2.heap.size w2 w3:=(Below.refl _ _).grown hg (Nat.le_refl _) (by simp);replace FR:=zH (FR.out.fut kb);replace BS:=zH (BS.out.fut kb);replace BA:=zH (BA.out.fut kb);replace OL:=zH (OL.out.fut kb);have e0:=BS.out.cell 0;have e1:=BS.out.cell 1;clear hown hg kb hw_w1 hw_w2 c0 c1 c2 c9 d1))
   rotate_left
   ·omega
   ·omega
   ·omega
   ·unfold maxLen;omega
   ·exact FR.out.size
   go_step3
   refine ⟨rfl,?_⟩
   go_wp2_with fail
   rw [Exit.noGoto_ret]
   go_ret
   exact ON.out.ret (by decide) FR.out.out (fun _ h=>h.elim)
  ·go_enter Tryz.func142,Tryz.ntmps142
   go_wp2_with fail
   refine wp_scope_fore 0 rfl ?_
   go_wp2_with (at_make;go_loud (refine wpList_make (t:=tInt .i16) (S:=fun _=>False) (base:=w.heap.size) rfl _ _ rfl ei_i16 .i64 .i64 _ _ (V+2*P) rfl rfl ?_ ?_ ?_ ?_ ?_ 0 ⟨rfl,by decide⟩ (fun _ h=>h.elim) ?_;rotate_right;intro w3 hown hg;(try rw [hw_w1] at hg);(try rw [hw_w2] at hg);have ON:=zH hown;have kb:Below w2.heap.size w2 w3:=(Below.refl _ _).grown hg (Nat.le_refl _) (by simp);replace FR:=zH (FR.out.fut kb);replace BS:=zH (BS.out.fut kb);replace BA:=zH (BA.out.fut kb);replace OL:=zH (OL.out.fut kb);have e0:=BS.out.cell 0;have e1:=BS.out.cell 1;clear hown hg kb hw_w1 hw_w2 c0 c1 c2 c9 d1))
   rotate_left
   ·omega
   ·omega
   ·omega
   ·unfold maxLen;omega
   ·exact FR.out.size
   go_step3
   refine ⟨rfl,?_⟩
   go_wp2_with fail
   rw [Exit.noGoto_ret]
   go_ret
   exact ON.out.ret (by decide) FR.out.out (fun _ h=>h.elim)
end Go.Proofs.YtjkmjpjknmghlaaGreat
namespace Go.Proofs.YtjkmjpjknmghlaaGreat
open Go.RowKit Go.ChangeShapes Go.WideShapes
set_option maxRecDepth 100000
set_option maxHeartbeats 2000000
def inside (H V:Nat) (y x:Int):Prop:=0≤y∧y < H∧0≤x∧x < V
instance (H V:Nat) (y x:Int):Decidable (inside H V y x):=by unfold inside;infer_instance
def placeV (V C:Nat) (y x:Int) (c:Nat):Nat:=(y.toNat*V+x.toNat)*C+c
theorem shapeIndex_any (H V C:Nat) (y x:Int) (c:Nat) (w:World) (h1:1≤H∧H≤16) (v1:1≤V∧V≤16) (c1:1≤C∧C≤1024) (he:decide (0 < elems H V C)=true) (hc:c < C) :
  Calls Tryz.prog 129 #[.agg #[.int .i64 H,.int .i64 V,.int .i64 C],.int .i64 y,.int .i64 x,.int .i64 c] w fun e w' =>
   e=.returned (.tuple #[.int .i64 (if inside H V y x then (placeV V C y x c:Int) else 0),.bool (decide (inside H V y x))])∧Below w.heap.size w w':=by
 have SR:=zH (fun w=>shapeRight_any (H:Int) (C:Int) (V:Int) w (by rw [inK_i64];omega) (by rw [inK_i64];omega) (by rw [inK_i64];omega))
 rw [he] at SR
 have FR:=zH (Far.refl w)
 obtain ⟨w1,hw_w1,BS,k_w1⟩:=nB w #[.int .i64 H,.int .i64 V,.int .i64 C] 24
 replace FR:=zH (FR.out.fut k_w1)
 clear k_w1
 have d0:=BS.out.cell 0
 have d1:=BS.out.cell 1
 have d2:=BS.out.cell 2
 clear he
 by_cases a1:0≤y
 ·by_cases a2:y < (H:Int)
  ·by_cases a3:0≤x
   ·by_cases a4:x < (V:Int)
    ·obtain ⟨yn,rfl⟩:∃ m:Nat,y=m:=⟨y.toNat,by omega⟩
     obtain ⟨xn,rfl⟩:∃ m:Nat,x=m:=⟨x.toNat,by omega⟩
     rw [if_pos ⟨a1,a2,a3,a4⟩,decide_eq_true (show inside H V yn xn from ⟨a1,a2,a3,a4⟩)]
     unfold placeV
     simp only [Int.toNat_natCast]
     obtain ⟨q1,e1⟩:∃ m,yn*V=m:=⟨_,rfl⟩
     have j1:(yn:Int)*(V:Int)=(q1:Int):=by rw [← e1];simp
     have b1:q1≤256:=by rw [← e1];exact Nat.mul_le_mul (show yn≤16 by omega) v1.2
     rw [e1]
     obtain ⟨q2,e2⟩:∃ m,(q1+xn)*C=m:=⟨_,rfl⟩
     have j2:((q1:Int)+(xn:Int))*(C:Int)=(q2:Int):=by rw [← e2];simp
     have b2:q2≤272*1024:=by rw [← e2];exact Nat.mul_le_mul (by omega) c1.2
     rw [e2,Int.natCast_add]
     clear e1 e2
     have p1:¬ (H:Int)≤(yn:Int):=by omega
     have p2:¬ (V:Int)≤(xn:Int):=by omega
     have p3:¬ (C:Int)≤(c:Int):=by omega
     have p5:¬ H≤yn:=by omega
     have p6:¬ V≤xn:=by omega
     have p7:¬ C≤c:=by omega
     go_enter Tryz.func129,Tryz.ntmps129
     go_wp2_with (go_at_call 24;refine (SR.out _).mono ?_;rintro e w2 ⟨rfl,hb⟩;replace BS:=zH (BS.out.fut hb);replace FR:=zH (FR.out.fut hb);clear hb hw_w1 d0 d1 d2;have d0:=BS.out.cell 0;have d1:=BS.out.cell 1;have d2:=BS.out.cell 2)
     go_ret2
     exact ⟨rfl,FR.out.out⟩

    ·have ni:¬ inside H V y x:=fun h=>absurd h.2.2.2 a4
     rw [if_neg ni,decide_eq_false ni]
     clear ni
     have p1:¬ (H:Int)≤y:=by omega
     have p2:(V:Int)≤x:=by omega
     go_enter Tryz.func129,Tryz.ntmps129
     go_wp2_with (go_at_call 24;refine (SR.out _).mono ?_;rintro e w2 ⟨rfl,hb⟩;replace BS:=zH (BS.out.fut hb);replace FR:=zH (FR.out.fut hb);clear hb hw_w1 d0 d1 d2;have d0:=BS.out.cell 0;have d1:=BS.out.cell 1;have d2:=BS.out.cell 2)
     go_ret2
     exact ⟨rfl,FR.out.out⟩
   ·have ni:¬ inside H V y x:=fun h=>absurd h.2.2.1 a3
    rw [if_neg ni,decide_eq_false ni]
    clear ni
    have p1:¬ (H:Int)≤y:=by omega
    have p2:x < 0:=by omega
    go_enter Tryz.func129,Tryz.ntmps129
    go_wp2_with (go_at_call 24;refine (SR.out _).mono ?_;rintro e w2 ⟨rfl,hb⟩;replace BS:=zH (BS.out.fut hb);replace FR:=zH (FR.out.fut hb);clear hb hw_w1 d0 d1 d2;have d0:=BS.out.cell 0;have d1:=BS.out.cell 1;have d2:=BS.out.cell 2)
    go_ret2
    exact ⟨rfl,FR.out.out⟩
  ·have ni:¬ inside H V y x:=fun h=>absurd h.2.1 a2
   rw [if_neg ni,decide_eq_false ni]
   clear ni
   have p1:(H:Int)≤y:=by omega
   go_enter Tryz.func129,Tryz.ntmps129
   go_wp2_with (go_at_call 24;refine (SR.out _).mono ?_;rintro e w2 ⟨rfl,hb⟩;replace BS:=zH (BS.out.fut hb);replace FR:=zH (FR.out.fut hb);clear hb hw_w1 d0 d1 d2;have d0:=BS.out.cell 0;have d1:=BS.out.cell 1;have d2:=BS.out.cell 2)
   go_ret2
   exact ⟨rfl,FR.out.out⟩
 ·have ni:¬ inside H V y x:=fun h=>absurd h.1 a1
  rw [if_neg ni,decide_eq_false ni]
  clear ni
  have p1:y < 0:=by omega
  go_enter Tryz.func129,Tryz.ntmps129
  go_wp2_with (go_at_call 24;refine (SR.out _).mono ?_;rintro e w2 ⟨rfl,hb⟩;replace BS:=zH (BS.out.fut hb);replace FR:=zH (FR.out.fut hb);clear hb hw_w1 d0 d1 d2;have d0:=BS.out.cell 0;have d1:=BS.out.cell 1;have d2:=BS.out.cell 2)
  go_ret2
  exact ⟨rfl,FR.out.out⟩
def heldV (v lo hi:Int):Int:=if v < lo then lo else if v > hi then hi else v
theorem held_any (v lo hi:Int) (w:World):Calls Tryz.prog 130 #[.int .i64 v,.int .i64 lo,.int .i64 hi] w fun e w'=>e=.returned (.int .i64 (heldV v lo hi))∧w=w':=by
 unfold heldV
 by_cases a1:v < lo
 ·rw [if_pos a1]
  go_enter Tryz.func130,Tryz.ntmps130
  go_wp2_with fail
  go_ret
  exact ⟨rfl,rfl⟩
 ·rw [if_neg a1]
  by_cases a2:v > hi
  ·rw [if_pos a2]
   go_enter Tryz.func130,Tryz.ntmps130
   go_wp2_with fail
   go_ret
   exact ⟨rfl,rfl⟩
  ·rw [if_neg a2]
   go_enter Tryz.func130,Tryz.ntmps130
   go_wp2_with fail
   go_ret
   exact ⟨rfl,rfl⟩
def w8 (v:Int):Int:=IntKind.i8.wrap v
theorem w8_eq (n:Int):w8 n=(n+128) % 256 - 128:=by
 unfold w8 IntKind.wrap
 simp [IntKind.bits,IntKind.signed]
 split <;> omega
theorem w8_in (n:Int):InK .i8 (w8 n):=by rw [inK_i8,w8_eq];omega
theorem clamp_any (v lo hi:Int) (w:World) (h0:InK .i8 lo) (h1:InK .i8 hi):Calls Tryz.prog 114 #[.int .i64 v,.int .i8 lo,.int .i8 hi] w fun e w'=>e=.returned (.int .i8 (w8 (heldV v lo hi)))∧w=w':=by
 rw [inK_i8] at h0 h1
 obtain ⟨a1,a2⟩:=h0
 obtain ⟨a3,a4⟩:=h1
 go_enter Tryz.func114,Tryz.ntmps114
 go_wp2_with (go_at_call 130;refine (held_any _ _ _ _).mono ?_;rintro e w2 ⟨rfl,rfl⟩)
 go_ret
 exact ⟨rfl,rfl⟩
end Go.Proofs.YtjkmjpjknmghlaaGreat
