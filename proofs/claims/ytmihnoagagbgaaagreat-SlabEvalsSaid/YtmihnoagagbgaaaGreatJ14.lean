/-
  Sums by rows that are slid over (layer 16): the walks of lane.Fits, lane.tap.
  Sums by rows that are slid over (layer 16): the walk of lane.row.
  Where a number lies (layer 4: shape.Index; layer 5: the document's Get); held between two limits (layer 1).
  One sum of a window of one channel (layer 17: depth.sum).
-/
import Derived.Test.YtmihnoagagbgaaaGreatJ08
import Derived.Test.YtmihnoagagbgaaaGreatJ13
set_option linter.unusedVariables false
set_option linter.unusedSimpArgs false
set_option maxRecDepth 100000
set_option maxHeartbeats 16000000
namespace Go.Proofs.YtmihnoagagbgaaaGreat
open Go.RowKit Go.ChangeShapes Go.WideShapes Fx Tryz
set_option maxRecDepth 100000
set_option maxHeartbeats 16000000
def i3 (k:IntKind) (l:Nat → Int):Array Value:=#[.int k (l 0),.int k (l 1),.int k (l 2)]
theorem tK (k:IntKind) (f:Nat → Int):(i3 k f).all (·.oneCell')=true:=by rw [← Array.all_toList];rfl
theorem tB (kd:IntKind) (f g:Nat → Int) (k:Nat) (h:k < 3):(i3 kd (upI f g k)).setIfInBounds k (.int kd (f k))=i3 kd (upI f g (k+1)):=by
 unfold i3 upI
 match k,h with
 | 0,_=>rfl
 | 1,_=>rfl
 | 2,_=>rfl
theorem tA (kd:IntKind) (f g:Nat → Int):i3 kd (upI f g 3)=i3 kd f:=by unfold i3 upI;simp
theorem lW (d:af) (W:QA) (nw cw:Nat) (B:QA) (nb cb:Nat) (w:World) :
  Calls prog 128 #[.agg (nD d W nw cw B nb cb)] w fun e w'=>e=.returned (.bool (decide (d.k=3∧d.s=1)))∧Below w w w':=by
 have FR:=zW w
 obtain ⟨w1,yw1,BA,FR⟩:=nF FR (nD d W nw cw B nb cb) 42
 obtain ⟨c3,c4⟩:=uc2 BA 3 4
 by_cases h3:d.k=3
 ·by_cases h4:d.s=1
  ·have t3:(d.k == 3)=true:=by rw [h3];rfl
   have t4:(d.s == 1)=true:=by rw [h4];rfl
   rw [show decide (d.k=3∧d.s=1)=true by simp [h3,h4]]
   clear h3 h4
   go_in
   go_wp2
   go_ret
   exact ⟨rfl,FR.u⟩
  ·have t3:(d.k == 3)=true:=by rw [h3];rfl
   have t4:(d.s == 1)=false:=by simpa using h4
   rw [show decide (d.k=3∧d.s=1)=false by simp [h4]]
   clear h3 h4
   go_in
   go_wp2
   go_ret
   exact ⟨rfl,FR.u⟩
 ·have t3:(d.k == 3)=false:=by simpa using h3
  rw [show decide (d.k=3∧d.s=1)=false by simp [h3]]
  clear h3
  go_in
  go_wp2
  go_ret
  exact ⟨rfl,FR.u⟩
theorem tz (H V:Int) (C:Nat) (A:QA) (n cap:Nat) (d:af) (W:QA) (nw cw:Nat) (B:QA) (nb cb:Nat) (o i c:Nat) (w:World)
  (hw:xA w W nw cw d.w) (hC:C≤1024) (ho:o≤1024) (hi:i < 3) (hc:c < C) (hn:(o+1)*(9*C)≤nw) :
  Calls prog 169 #[.agg #[.int .i64 H,.int .i64 V,.int .i64 C,.slice A n cap,.int .i64 d.kind,.int .i64 d.a,.int .i64 d.b,.int .i64 d.k,.int .i64 d.s,.int .i64 d.p,.int .i64 d.out,.int .i8 d.za,.int .i8 d.zb,.slice W nw cw,.slice B nb cb,.int .i32 d.qm,.int .i64 d.qs,.int .i8 d.qz,.int .i32 d.rm,.int .i64 d.rs,.int .i8 d.rz,.int .i8 d.lo,.int .i8 d.hi],.int .i64 o,.int .i64 i,.int .i64 c] w fun e w'=>e=.returned (.agg (i3 .i8 (fun j=>d.w.getD (((o*3+i)*3+j)*C+c) 0)))∧Below w w w':=by
 have hbnd:∀ j,j < 3 → ((o*3+i)*3+j)*C+c < nw:=by
  intro j hj
  have h1:((o*3+i)*3+j)*C+c < ((o*3+i)*3+j+1)*C:=by rw [Nat.succ_mul];omega
  have h2:((o*3+i)*3+j+1)*C≤((o+1)*9)*C:=Nat.mul_le_mul_right C oM
  rw [Nat.mul_assoc] at h2
  omega
 obtain ⟨bw,ow,hWW,-,-,-,-⟩:=hw.int_at _ (hbnd 0 oM)
 have m2:nw≤9223372036854775807:=lT hw.cap_le hw.max_le
 have FR:=zW w
 have OW:=zH (Old.now hw)
 obtain ⟨w1,w2,w3,yw1,yw2,yw3,_,_,_,BA,BO,BC,yk3⟩:=bk3 w #[.int .i64 H,.int .i64 V,.int .i64 C,.slice A n cap,.int .i64 d.kind,.int .i64 d.a,.int .i64 d.b,.int .i64 d.k,.int .i64 d.s,.int .i64 d.p,.int .i64 d.out,.int .i8 d.za,.int .i8 d.zb,.slice W nw cw,.slice B nb cb,.int .i32 d.qm,.int .i64 d.qs,.int .i8 d.qz,.int .i32 d.rm,.int .i64 d.rs,.int .i8 d.rz,.int .i8 d.lo,.int .i8 d.hi] 192 #[.int .i8 0,.int .i8 0,.int .i8 0] 215 #[.int .i8 0,.int .i8 0,.int .i8 0] 215
 obtain ⟨FR,OW⟩:=uz2 yk3 FR OW
 clear yk3
 have HB:=zH hbnd
 clear hw hbnd hn
 subst hWW
 obtain ⟨wf,hwf⟩:∃ f:Nat → Int,f=fun j=>d.w.getD (((o*3+i)*3+j)*C+c) 0:=⟨_,rfl⟩
 rw [← hwf]
 have HWF:=zH hwf
 clear hwf
 go_in
 go_wp2_with fail
 have l1:=zL yw1
 have l2:=zL yw2
 clear yw1 yw2 yw3
 replace BC:=zH (show Blk w3 w2.heap.size 215 (i3 .i8 (upI wf (fun _=>0) 0)) by rw [mW];exact BC.o)
 obtain ⟨g0,e0⟩:∃ n,w.heap.size=n:=⟨_,rfl⟩
 obtain ⟨g1,e1⟩:∃ n,w1.heap.size=n:=⟨_,rfl⟩
 obtain ⟨g2,e2⟩:∃ n,w2.heap.size=n:=⟨_,rfl⟩
 rw [e0,e1] at l1
 rw [e1,e2] at l2
 rw [e0] at BA
 rw [e1] at BO
 rw [e2] at BC
 rw [e0,e1,e2]
 go_loopw [11] (fun ii wr=>∃ k:Nat,k≤3∧ii=.int .i64 k∧Far w wr∧Old w (aa .i8) wr (some ⟨bw,ow,none⟩) nw cw d.w∧Blk wr g0 192 #[.int .i64 H,.int .i64 V,.int .i64 C,.slice A n cap,.int .i64 d.kind,.int .i64 d.a,.int .i64 d.b,.int .i64 d.k,.int .i64 d.s,.int .i64 d.p,.int .i64 d.out,.int .i8 d.za,.int .i8 d.zb,.slice (some ⟨bw,ow,none⟩) nw cw,.slice B nb cb,.int .i32 d.qm,.int .i64 d.qs,.int .i8 d.qz,.int .i32 d.rm,.int .i64 d.rs,.int .i8 d.rz,.int .i8 d.lo,.int .i8 d.hi]∧Blk wr g1 215 #[.int .i8 0,.int .i8 0,.int .i8 0]∧Blk wr g2 215 (i3 .i8 (upI wf (fun _=>0) k))) (fun ii _=>3 - (intOf ii).toNat)
 case atStart=>exact ⟨0,zl _,rfl,FR.o,OW.o,BA.o,BO.o,BC.o⟩
 case round =>
  obtain ⟨k,hk,rfl,hf,how,hba,hbo,hbc⟩:=hrel
  clear FR OW BA BO BC
  have FR:=zH hf
  have OW:=zH how
  have BA:=zH hba
  have BO:=zH hbo
  have BC:=zH hbc
  clear hf how hba hbo hbc
  by_cases hlt:k < 3
  ·have p1:(k:Int) < 3:=oM
   have hb:=HB.o k hlt
   obtain ⟨b',o',e',-,-,cq,-⟩:=OW.o.out.int_at _ hb
   simp only [Option.some.injEq,Addr.mk.injEq,and_true] at e'
   obtain ⟨rfl,rfl⟩:=e'
   rw [show d.w.getD (((o*3+i)*3+k)*C+c) 0=wf k by rw [HWF.o]] at cq
   obtain ⟨q,hq⟩:∃ q,((o*3+i)*3+k)*C=q:=⟨_,rfl⟩
   have hqi:((((o:Int)*3+(i:Int))*3+(k:Int))*(C:Int))=(q:Int):=by rw [← hq];simp
   rw [hq] at cq hb
   clear hq
   have p2:(q:Int)+(c:Int) < nw:=oM
   have p3:(o:Int)≤1024:=oM
   have p4:(i:Int) < 3:=oM
   obtain ⟨c2,c13⟩:=uc2 BA 2 13
   have SS:=zH (tB .i8 wf (fun _=>0) k hlt)
   go_wp2_with (refine wpList_store_one rfl 37 (.tmp 34) (.tmp 33) rfl g2 k (.int .i8 (wf k)) rfl rfl rfl rfl _ (i3 .i8 (upI wf (fun _=>0) k)) (i3 .i8 (upI wf (fun _=>0) (k+1))) BC.o (by simp [i3];omega) kM (by rw [← SS.o];exact fe _ _ _ (by simp [i3];omega)) ?_;intro w5 B5 g5)
   exact ⟨⟨k+1,by omega,by go_num,FR.o.away g5 oM,OW.o.away g5 oM,BA.o.away g5 (.inl oM),BO.o.away g5 (.inl oM),B5⟩,by simp [intOf];omega⟩
  ·obtain rfl:k=3:=oM
   have BC:=zH (show Blk wr g2 215 (i3 .i8 wf) by rw [← tA .i8 wf (fun _=>0)];exact BC.o)
   go_wp2_with (first|(refine wpList_load_blk rfl 215 (.tmp 9) rfl g2 0 rfl _ (i3 .i8 wf) (i3 .i8 wf) _ BC.o underlying215 rfl (by show _=some 3;kernel_rfl) rfl ?_)|(refine wpList_store_all rfl 215 (.tmp 8) (.tmp 36) rfl g1 (i3 .i8 wf) rfl rfl _ _ BO.o rfl (by show _=some 3;kernel_rfl) (tK _ _) ?_;intro w5 B5 g5))
   refine de rfl B5 rfl underlying215 (by show _=some 3;kernel_rfl) rfl ?_
   exact ⟨rfl,by have:=FR.o.away g5 oM;exact this.out⟩
theorem jm:EI prog 195 224 (.int .i16 0) 1 2:=⟨underlying195,by kernel_rfl,rfl,by decide⟩
def ge (H V C:Nat) (l:List Int) (za:Int) (P:Nat) (y:Int) (c k:Nat):List Int:=(List.range (V+2*P)).map fun j:Nat=>if P≤j∧j < P+k then px H V C l za y ((j:Int) - (P:Int)) c else 0
theorem pU (H V C:Nat) (l:List Int) (za:Int) (P:Nat) (y:Int) (c:Nat):ge H V C l za P y c 0=List.replicate (V+2*P) 0:=by
 unfold ge
 apply List.ext_getElem sM
 intro i h1 h2
 simp only [List.getElem_map,List.getElem_range,List.getElem_replicate]
 rw [if_neg oM]
theorem rE (H V C:Nat) (l:List Int) (za:Int) (P:Nat) (y:Int) (c:Nat) (h:y < 0 ∨ (H:Int)≤y):eQ H V C l za P y c=List.replicate (V+2*P) 0:=by
 unfold eQ
 apply List.ext_getElem sM
 intro i h1 h2
 simp only [List.getElem_map,List.getElem_range,List.getElem_replicate]
 unfold px
 rw [if_neg oM]
theorem rD (H V C:Nat) (l:List Int) (za:Int) (P:Nat) (y:Int) (c:Nat):ge H V C l za P y c V=eQ H V C l za P y c:=by
 unfold ge eQ
 apply List.ext_getElem sM
 intro i h1 h2
 simp only [List.getElem_map,List.getElem_range]
 by_cases h:P≤i∧i < P+V
 ·rw [if_pos h]
 ·rw [if_neg h];unfold px;rw [if_neg oM]
theorem rF (H V C:Nat) (l:List Int) (za:Int) (P:Nat) (y c k:Nat) (hk:k < V) (hy:y < H) :
  (ge H V C l za P y c k).set (k+P) (l.getD ((y*V+k)*C+c) 0 - za)=ge H V C l za P y c (k+1):=by
 unfold ge
 apply List.ext_getElem sM
 intro i h1 h2
 rw [List.getElem_set]
 simp only [List.getElem_map,List.getElem_range]
 by_cases e:k+P=i
 ·subst e
  rw [if_pos rfl,if_pos oM]
  unfold px
  rw [if_pos oM]
  have:(((k+P:Nat):Int) - (P:Int)).toNat=k:=oM
  rw [this,Int.toNat_natCast]
 ·rw [if_neg e]
  by_cases h:P≤i∧i < P+k
  ·rw [if_pos h,if_pos oM]
  ·rw [if_neg h,if_neg oM]
theorem fh (n:Int):IntKind.i16.wrap n=(n+32768) % 65536 - 32768:=by
 unfold IntKind.wrap
 simp [IntKind.bits,IntKind.signed]
 split <;> omega
theorem dO (y k c H V C:Nat) (hy:y < H) (hk:k < V) (hc:c < C):(y*V+k)*C+c < H*V*C:=by
 have h1:y*V+k < H*V:=by
  have:(y+1)*V≤H*V:=Nat.mul_le_mul_right V hy
  rw [Nat.succ_mul] at this
  omega
 have h2:(y*V+k+1)*C≤(H*V)*C:=Nat.mul_le_mul_right C h1
 rw [Nat.succ_mul] at h2
 omega
theorem tr (H V C P:Nat) (A:QA) (n cap:Nat) (l:List Int) (d:af) (W:QA) (nw cw:Nat) (B:QA) (nb cb:Nat) (h:Int) (c:Nat) (w:World)
  (hl:xA w A n cap l) (hn:n=H*V*C) (hn2:n≤1048576) (hV:V≤1048576) (hC:C≤1048576) (hp:d.p=P) (hP:P≤4) (hz:InK .i8 d.za) (hc:c < C) (hh:-100≤h) (hh2:h≤2000000) (hH:H≤1048576) :
  Calls prog 168 #[.agg #[.int .i64 H,.int .i64 V,.int .i64 C,.slice A n cap,.int .i64 d.kind,.int .i64 d.a,.int .i64 d.b,.int .i64 d.k,.int .i64 d.s,.int .i64 d.p,.int .i64 d.out,.int .i8 d.za,.int .i8 d.zb,.slice W nw cw,.slice B nb cb,.int .i32 d.qm,.int .i64 d.qs,.int .i8 d.qz,.int .i32 d.rm,.int .i64 d.rs,.int .i8 d.rz,.int .i8 d.lo,.int .i8 d.hi],.int .i64 h,.int .i64 c] w (RetSl (aa .i16) w (eQ H V C l d.za P h c)):=by
 have FR:=zW w
 have OL:=zH (Old.now hl)
 obtain ⟨w1,w2,yw1,yw2,_,_,BA,BS,yk2⟩:=bk2 w #[.int .i64 H,.int .i64 V,.int .i64 C,.slice A n cap,.int .i64 d.kind,.int .i64 d.a,.int .i64 d.b,.int .i64 d.k,.int .i64 d.s,.int .i64 d.p,.int .i64 d.out,.int .i8 d.za,.int .i8 d.zb,.slice W nw cw,.slice B nb cb,.int .i32 d.qm,.int .i64 d.qs,.int .i8 d.qz,.int .i32 d.rm,.int .i64 d.rs,.int .i8 d.rz,.int .i8 d.lo,.int .i8 d.hi] 192 (sN H V C) 24
 obtain ⟨FR,OL⟩:=uz2 yk2 FR OL
 clear yk2
 have c0:w1.cell? ⟨w.heap.size,0,none⟩=some (.int .i64 H):=by rw [← yw1];exact (Blk.now _ _ _ _ rfl).cell 0
 have c1:w1.cell? ⟨w.heap.size,1,none⟩=some (.int .i64 V):=by rw [← yw1];exact (Blk.now _ _ _ _ rfl).cell 1
 have c2:w1.cell? ⟨w.heap.size,2,none⟩=some (.int .i64 C):=by rw [← yw1];exact (Blk.now _ _ _ _ rfl).cell 2
 have c9:=BA.o.cell 9
 have d1:=BS.o.cell 1
 have LL:=zH (show w.heap.size < w2.heap.size∧w1.heap.size < w2.heap.size by rw [← yw2,← yw1];simp;omega)
 have HN:=zH hn
 have HL:=zH hl
 have HP:=zH hp
 rw [hp] at c9
 clear hn hh hp hl
 have p1:(V:Int)≤1048576:=oM
 have p2:(P:Int)≤4:=oM
 by_cases hin:0≤h∧h < (H:Int)
 ·obtain ⟨y,rfl⟩:∃ y:Nat,h=(y:Int):=⟨h.toNat,by omega⟩
  have p3:(y:Int) < (H:Int):=hin.2
  have hyH:y < H:=oM
  rw [← rD]
  have t1:decide ((y:Int) < 0)=false:=by simp
  have t2:decide ((H:Int)≤(y:Int))=false:=by simp;omega
  have t3:decide (H≤y)=false:=by simp;omega
  clear hin
  go_in
  go_wp2_with fail
  go_step3
  go_wp2_with (at_make;go_loud (refine wpList_make (t:=aa .i16) (S:=fun _=>False) (base:=w.heap.size) rfl _ _ rfl jm .i64 .i64 _ _ (V+2*P) rfl rfl ?_ ?_ ?_ ?_ ?_ 0 ⟨rfl,by decide⟩ (fun _ h=>h.elim) ?_;rotate_right;intro w3 hown hg;(try rw [yw1] at hg);(try rw [yw2] at hg);have ON:=zH hown;have kb:Below w2 w2 w3:=(qB _ _).grown hg (lR _) sM;obtain ⟨FR,BS,BA,OL⟩:=uz4 kb FR BS BA OL;obtain ⟨e0,e1⟩:=uc2 BS 0 1;clear hown hg kb yw1 yw2 c0 c1 c2 c9 d1))
  rotate_left
  ·omega
  ·omega
  ·omega
  ·unfold maxLen;omega
  ·exact FR.o.size
  have hb0:(y*V+0)*C+c < n ∨ V=0:=by
   by_cases h0:V=0
   ·exact .inr h0
   ·left;rw [HN.o];exact dO y 0 c H V C hyH oM hc
  rw [← pU H V C l d.za P y c] at ON
  go_loopw [9] (fun ii wr=>∃ k:Nat,k≤V∧ii=.int .i64 k∧Far w wr∧Old w (aa .i8) wr A n cap l∧Blk wr w.heap.size 192 #[.int .i64 H,.int .i64 V,.int .i64 C,.slice A n cap,.int .i64 d.kind,.int .i64 d.a,.int .i64 d.b,.int .i64 d.k,.int .i64 d.s,.int .i64 d.p,.int .i64 d.out,.int .i8 d.za,.int .i8 d.zb,.slice W nw cw,.slice B nb cb,.int .i32 d.qm,.int .i64 d.qs,.int .i8 d.qz,.int .i32 d.rm,.int .i64 d.rs,.int .i8 d.rz,.int .i8 d.lo,.int .i8 d.hi]∧Blk wr w1.heap.size 24 (sN H V C) ∧
   Own (aa .i16) wr (fun _=>False) w.heap.size 224 (.slice (some ⟨w2.heap.size,0,none⟩) (V+2*P) (V+2*P)) (V+2*P) (ge H V C l d.za P y c k)) (fun ii _=>V - (intOf ii).toNat)
  case atStart=>exact ⟨0,zl _,rfl,FR.o,OL.o,BA.o,BS.o,ON.o⟩
  case round =>
   obtain ⟨k,hk,rfl,hf,how,hba,hbs,hon⟩:=hrel
   clear FR OL BA BS ON e0 e1
   have FR:=zH hf
   have OL:=zH how
   have BA:=zH hba
   have BS:=zH hbs
   have ON:=zH hon
   clear hf how hba hbs hon
   have s1:=BS.o.cell 1
   by_cases hlt:k < V
   ·have hb:(y*V+k)*C+c < n:=by rw [HN.o];exact dO y k c H V C hyH hlt hc
    have RS:=zH (rF H V C l d.za P y c k hlt hyH)
    obtain ⟨b',o',rfl,-,-,cq,iq⟩:=OL.o.out.int_at _ hb
    obtain ⟨xd,hxd⟩:∃ x,l.getD ((y*V+k)*C+c) 0=x:=⟨_,rfl⟩
    rw [hxd] at cq iq
    rw [hxd] at RS
    clear hxd
    obtain ⟨z,hzz⟩:∃ z,d.za=z:=⟨_,rfl⟩
    rw [hzz] at RS
    have hz':=hz
    rw [hzz,aT] at hz'
    rw [aT] at iq
    obtain ⟨a0,c3,c9,c11⟩:=uc4 BA 0 3 9 11
    have s2:=BS.o.cell 2
    simp only [gX] at a0 c3 c9 c11 s1 s2
    rw [HP.o] at c9
    rw [hzz] at c11
    have HZ:=zH hzz
    obtain ⟨q1,h1⟩:∃ q,y*V=q:=⟨_,rfl⟩
    have h1j:(y:Int)*(V:Int)=(q1:Int):=by rw [← h1];simp
    rw [h1] at cq hb
    obtain ⟨q2,h2⟩:∃ q,q1+k=q:=⟨_,rfl⟩
    rw [h2] at cq hb
    obtain ⟨q3,h3⟩:∃ q,q2*C=q:=⟨_,rfl⟩
    have h3j:(q2:Int)*(C:Int)=(q3:Int):=by rw [← h3];simp
    have m1:q2≤q3:=by rw [← h3];exact Nat.le_mul_of_pos_right _ oM
    rw [h3] at cq hb
    obtain ⟨q4,h4⟩:∃ q,q3+c=q:=⟨_,rfl⟩
    rw [h4] at cq hb
    have g1:IntKind.i64.wrap ((y:Int)*(V:Int))=(q1:Int):=by rw [h1j];exact wJ
    have g2:IntKind.i64.wrap ((q1:Int)+(k:Int))=(q2:Int):=(wJ).trans oM
    have g3:IntKind.i64.wrap ((q2:Int)*(C:Int))=(q3:Int):=by rw [h3j];exact wJ
    have g4:IntKind.i64.wrap ((q3:Int)+(c:Int))=(q4:Int):=(wJ).trans oM
    have g5:IntKind.i64.wrap ((k:Int)+(P:Int))=((k+P:Nat):Int):=(wJ).trans oM
    have g6:IntKind.i16.wrap xd=xd:=by rw [fh];omega
    have g7:IntKind.i16.wrap z=z:=by rw [fh];omega
    have g8:IntKind.i16.wrap (xd - z)=xd - z:=by rw [fh];omega
    have kp:k+P < V+2*P:=oM
    clear hzz hz h1 h3 h1j h2 h3j h4
    go_wp2_with fail
    go_still_tail 28,kM
    change wpList _ _ _ _ _ wr.drew
    have kd:Below wr wr wr.drew:=(qB _ _).drew
    have ON2:=ON.o.below kd (lR _) (fun _ h=>h.elim)
    obtain ⟨FR,OL,BA,BS⟩:=uz4 kd FR OL BA BS
    replace ON:=zH ON2
    clear ON2 kd s1 s2 a0 c3 c9 c11 cq
    generalize wr.drew=w5 at *
    obtain ⟨x1,u1,-,-,c5,c6,c7,-⟩:=ON.o.cell rfl (k+P) oM
    go_wp2_with fail
    obtain ⟨o3,g3⟩:=ON.o.set1 rfl (k+P) (.int .i16 (xd - z)) (xd - z) ⟨rfl,by simp only [InK,IntKind.min,IntKind.max,IntKind.signed,IntKind.bits];simp;omega⟩ (fun _ h=>h.elim)
    rw [HZ.o,RS.o] at o3
    have ll1:=LL.o.1
    have ll2:=LL.o.2
    have l3:w.heap.size≤w2.heap.size:=o3.lt _ rfl |>.1
    exact ⟨⟨k+1,by omega,by go_num,FR.o.away g3 l3,OL.o.away g3 l3,BA.o.away g3 (.inl ll1),BS.o.away g3 (.inl ll2),by rw [HZ.o];exact o3⟩,by simp [intOf];omega⟩
   ·obtain rfl:k=V:=oM
    go_wp2_with fail
    go_step3
    go_wp2_with fail
    rw [Exit.noGoto_ret]
    go_ret
    exact ON.o.ret dM FR.u (fun _ h=>h.elim)
 ·have hout:h < 0 ∨ (H:Int)≤h:=oM
  rw [rE _ _ _ _ _ _ _ _ hout]
  clear hin
  rcases hout with q1|q1
  ·go_in
   go_wp2_with fail
   refine eh 0 rfl ?_
   go_wp2_with (at_make;go_loud (refine wpList_make (t:=aa .i16) (S:=fun _=>False) (base:=w.heap.size) rfl _ _ rfl jm .i64 .i64 _ _ (V+2*P) rfl rfl ?_ ?_ ?_ ?_ ?_ 0 ⟨rfl,by decide⟩ (fun _ h=>h.elim) ?_;rotate_right;intro w3 hown hg;(try rw [yw1] at hg);(try rw [yw2] at hg);have ON:=zH hown;have kb:Below w2 w2 w3:=(qB _ _).grown hg (lR _) sM;obtain ⟨FR,BS,BA,OL⟩:=uz4 kb FR BS BA OL;obtain ⟨e0,e1⟩:=uc2 BS 0 1;clear hown hg kb yw1 yw2 c0 c1 c2 c9 d1))
   rotate_left
   ·omega
   ·omega
   ·omega
   ·unfold maxLen;omega
   ·exact FR.o.size
   go_step3
   refine ⟨rfl,?_⟩
   go_wp2_with fail
   rw [Exit.noGoto_ret]
   go_ret
   exact ON.o.ret dM FR.u (fun _ h=>h.elim)
  ·go_in
   go_wp2_with fail
   refine eh 0 rfl ?_
   go_wp2_with (at_make;go_loud (refine wpList_make (t:=aa .i16) (S:=fun _=>False) (base:=w.heap.size) rfl _ _ rfl jm .i64 .i64 _ _ (V+2*P) rfl rfl ?_ ?_ ?_ ?_ ?_ 0 ⟨rfl,by decide⟩ (fun _ h=>h.elim) ?_;rotate_right;intro w3 hown hg;(try rw [yw1] at hg);(try rw [yw2] at hg);have ON:=zH hown;have kb:Below w2 w2 w3:=(qB _ _).grown hg (lR _) sM;obtain ⟨FR,BS,BA,OL⟩:=uz4 kb FR BS BA OL;obtain ⟨e0,e1⟩:=uc2 BS 0 1;clear hown hg kb yw1 yw2 c0 c1 c2 c9 d1))
   rotate_left
   ·omega
   ·omega
   ·omega
   ·unfold maxLen;omega
   ·exact FR.o.size
   go_step3
   refine ⟨rfl,?_⟩
   go_wp2_with fail
   rw [Exit.noGoto_ret]
   go_ret
   exact ON.o.ret dM FR.u (fun _ h=>h.elim)
end Go.Proofs.YtmihnoagagbgaaaGreat
namespace Go.Proofs.YtmihnoagagbgaaaGreat
open Go.RowKit Go.ChangeShapes Go.WideShapes Tryz
set_option maxRecDepth 100000
set_option maxHeartbeats 16000000
def aK (H V:Nat) (y x:Int):Prop:=0≤y∧y < H∧0≤x∧x < V
instance (H V:Nat) (y x:Int):Decidable (aK H V y x):=by unfold aK;infer_instance
def cH (V C:Nat) (y x:Int) (c:Nat):Nat:=(y.toNat*V+x.toNat)*C+c
theorem dt (H V C:Nat) (y x:Int) (c:Nat) (w:World) (h1:1≤H∧H≤16) (v1:1≤V∧V≤16) (c1:1≤C∧C≤1024) (he:decide (0 < ab H V C)=true) (hc:c < C) :
  Calls prog 149 #[.agg (sN H V C),.int .i64 y,.int .i64 x,.int .i64 c] w fun e w' =>
   e=.returned (.tuple #[.int .i64 (if aK H V y x then (cH V C y x c:Int) else 0),.bool (decide (aK H V y x))])∧Below w w w':=by
 have SR:=zH (fun w=>aP (H:Int) (C:Int) (V:Int) w (by rw [ah];omega) (by rw [ah];omega) (by rw [ah];omega))
 rw [he] at SR
 have FR:=zW w
 obtain ⟨w1,yw1,BS,FR⟩:=nF FR (sN H V C) 24
 obtain ⟨d0,d1,d2⟩:=uc3 BS 0 1 2
 clear he
 by_cases a1:0≤y
 ·by_cases a2:y < (H:Int)
  ·by_cases a3:0≤x
   ·by_cases a4:x < (V:Int)
    ·obtain ⟨yn,rfl⟩:∃ m:Nat,y=m:=⟨y.toNat,by omega⟩
     obtain ⟨xn,rfl⟩:∃ m:Nat,x=m:=⟨x.toNat,by omega⟩
     rw [if_pos ⟨a1,a2,a3,a4⟩,qT (show aK H V yn xn from ⟨a1,a2,a3,a4⟩)]
     unfold cH
     simp only [Int.toNat_natCast]
     obtain ⟨q1,e1⟩:∃ m,yn*V=m:=⟨_,rfl⟩
     have j1:(yn:Int)*(V:Int)=(q1:Int):=by rw [← e1];simp
     have b1:q1≤256:=by rw [← e1];exact Nat.mul_le_mul (show yn≤16 by omega) v1.2
     rw [e1]
     obtain ⟨q2,e2⟩:∃ m,(q1+xn)*C=m:=⟨_,rfl⟩
     have j2:((q1:Int)+(xn:Int))*(C:Int)=(q2:Int):=by rw [← e2];simp
     have b2:q2≤272*1024:=by rw [← e2];exact Nat.mul_le_mul oM c1.2
     rw [e2,Int.natCast_add]
     clear e1 e2
     have p1:¬ (H:Int)≤(yn:Int):=oM
     have p2:¬ (V:Int)≤(xn:Int):=oM
     have p3:¬ (C:Int)≤(c:Int):=oM
     have p5:¬ H≤yn:=oM
     have p6:¬ V≤xn:=oM
     have p7:¬ C≤c:=oM
     go_in
     go_wp2_with (go_at_call 36;refine qM (SR.o _) fun w2 hb=>?_;obtain ⟨BS,FR⟩:=uz2 hb BS FR;clear hb yw1 d0 d1 d2;obtain ⟨d0,d1,d2⟩:=uc3 BS 0 1 2)
     go_ret2
     exact ⟨rfl,FR.u⟩

    ·have ni:¬ aK H V y x:=fun h=>absurd h.2.2.2 a4
     rw [if_neg ni,dF ni]
     clear ni
     have p1:¬ (H:Int)≤y:=oM
     have p2:(V:Int)≤x:=oM
     go_in
     go_wp2_with (go_at_call 36;refine qM (SR.o _) fun w2 hb=>?_;obtain ⟨BS,FR⟩:=uz2 hb BS FR;clear hb yw1 d0 d1 d2;obtain ⟨d0,d1,d2⟩:=uc3 BS 0 1 2)
     go_ret2
     exact ⟨rfl,FR.u⟩
   ·have ni:¬ aK H V y x:=fun h=>absurd h.2.2.1 a3
    rw [if_neg ni,dF ni]
    clear ni
    have p1:¬ (H:Int)≤y:=oM
    have p2:x < 0:=oM
    go_in
    go_wp2_with (go_at_call 36;refine qM (SR.o _) fun w2 hb=>?_;obtain ⟨BS,FR⟩:=uz2 hb BS FR;clear hb yw1 d0 d1 d2;obtain ⟨d0,d1,d2⟩:=uc3 BS 0 1 2)
    go_ret2
    exact ⟨rfl,FR.u⟩
  ·have ni:¬ aK H V y x:=fun h=>absurd h.2.1 a2
   rw [if_neg ni,dF ni]
   clear ni
   have p1:(H:Int)≤y:=oM
   go_in
   go_wp2_with (go_at_call 36;refine qM (SR.o _) fun w2 hb=>?_;obtain ⟨BS,FR⟩:=uz2 hb BS FR;clear hb yw1 d0 d1 d2;obtain ⟨d0,d1,d2⟩:=uc3 BS 0 1 2)
   go_ret2
   exact ⟨rfl,FR.u⟩
 ·have ni:¬ aK H V y x:=fun h=>absurd h.1 a1
  rw [if_neg ni,dF ni]
  clear ni
  have p1:y < 0:=oM
  go_in
  go_wp2_with (go_at_call 36;refine qM (SR.o _) fun w2 hb=>?_;obtain ⟨BS,FR⟩:=uz2 hb BS FR;clear hb yw1 d0 d1 d2;obtain ⟨d0,d1,d2⟩:=uc3 BS 0 1 2)
  go_ret2
  exact ⟨rfl,FR.u⟩
theorem gQ (H V C:Nat) (A:QA) (n cap:Nat) (l:List Int) (y x c:Nat) (w:World) (hs:xA w A n cap l) (hn:n=H*V*C) (hn2:n≤1024) (hC:C≤1024) (hy:y < H) (hx:x < V) (hc:c < C) :
  Calls prog 95 #[.agg (tN H V C A n cap),.int .i64 y,.int .i64 x,.int .i64 c] w fun e w'=>e=.returned (.int .i8 (l.getD ((y*V+x)*C+c) 0))∧Below w w w':=by
 have hi:(y*V+x)*C+c < n:=by rw [hn];exact dO y x c H V C hy hx hc
 have FR:=zW w
 obtain ⟨w1,yw1,BT,FR⟩:=nF FR (tN H V C A n cap) 27
 obtain ⟨b,o,rfl,_,_,ci,_⟩:=(hs.later FR.u (lR _)).int_at _ hi
 obtain ⟨t1,t2,t3⟩:=uc3 BT 1 2 3
 obtain ⟨v,hv⟩:∃ v,l.getD ((y*V+x)*C+c) 0=v:=⟨_,rfl⟩
 rw [hv] at ci ⊢
 obtain ⟨q1,e1⟩:∃ m,y*V=m:=⟨_,rfl⟩
 have j1:(y:Int)*(V:Int)=(q1:Int):=by rw [← e1];simp
 rw [e1] at ci hi
 obtain ⟨q2,e2⟩:∃ m,(q1+x)*C=m:=⟨_,rfl⟩
 have j2:((q1:Int)+(x:Int))*(C:Int)=(q2:Int):=by rw [← e2];simp
 have b1:q1+x≤q2:=by rw [← e2];exact Nat.le_mul_of_pos_right _ oM
 rw [e2] at ci hi
 have p1:(q2:Int)+(c:Int) < (n:Int):=oM
 clear hs hv hn e1 e2
 go_in
 go_wp2
 go_ret
 exact ⟨rfl,FR.u⟩
def bG (H V C:Nat) (l:List Int) (za:Int) (w:List Int) (K S P:Nat) (c y x q:Nat):Int:=w.getD (c*K*K+q) 0*px H V C l za ((y*S+q / K:Nat) - P) ((x*S+q % K:Nat) - P) c
def eG (H V C:Nat) (l:List Int) (za:Int) (w:List Int) (K S P:Nat) (c y x:Nat):Int:=az (K*K) (bG H V C l za w K S P c y x)
theorem uA (H V C:Nat) (A:QA) (n cap:Nat) (l:List Int) (d:af) (W:QA) (nw cw:Nat) (B:QA) (nb cb:Nat) (K S P y x c:Nat) (w:World)
  (hl:xA w A n cap l) (hwl:xA w W nw cw d.w) (hbl:xB w B nb cb d.bias) (hn:n=H*V*C) (hn2:n≤1024) (h1:1≤H∧H≤16) (v1:1≤V∧V≤16) (c1:1≤C∧C≤1024) (he:decide (0 < ab H V C)=true)
  (hk:d.k=K) (hs:d.s=S) (hp:d.p=P) (k1:1≤K∧K≤5) (s1:1≤S∧S≤4) (p1:P≤4) (hz:InK .i8 d.za) (hy:y≤1000) (hx:x≤1000) (hc:c < C) (hcb:c < nb) (hnw:nw=C*K*K) :
  Calls prog 158 #[.agg (tN H V C A n cap),.agg (nN d.kind d.a d.b d.k d.s d.p d.out d.za d.zb W nw cw B nb cb d.qm d.qs d.qz d.rm d.rs d.rz d.lo d.hi),.int .i64 y,.int .i64 x,.int .i64 c] w fun e w' =>
   e=.returned (.int .i32 (wrap32 (d.bias.getD c 0+eG H V C l d.za d.w K S P c y x)))∧Below w w w':=by
 obtain ⟨bb,ob,rfl,-,-,-,-⟩:=hbl.int_at c hcb
 have FR:=zW w
 have OL:=zH (Old.now hl)
 have OW:=zH (Old.now hwl)
 have OB:=zH (Old.now hbl)
 obtain ⟨w1,w2,yw1,yw2,_,_,BT,BN,yk2⟩:=bk2 w (tN H V C A n cap) 27 (nN d.kind d.a d.b d.k d.s d.p d.out d.za d.zb W nw cw (some ⟨bb,ob,none⟩) nb cb d.qm d.qs d.qz d.rm d.rs d.rz d.lo d.hi) 42
 obtain ⟨FR,OL,OW,OB⟩:=uz4 yk2 FR OL OW OB
 clear yk2
 have IX:=zH (fun (yy xx:Int) (wq:World)=>dt H V C yy xx c wq h1 v1 c1 he hc)
 obtain ⟨b0,o0,e0,-,-,cB,iB⟩:=OB.o.out.int_at c hcb
 simp only [Option.some.injEq,Addr.mk.injEq,and_true] at e0
 obtain ⟨rfl,rfl⟩:=e0
 obtain ⟨bo,hbo⟩:∃ m,d.bias.getD c 0=m:=⟨_,rfl⟩
 rw [hbo] at cB iB ⊢
 have HN:=zH hn
 have HW:=zH hnw
 have HL:=zH hl
 have HWL:=zH hwl
 have HK:=zH hk
 have HS:=zH hs
 have HP:=zH hp
 have HZ:=zH hz
 obtain ⟨n3,n10⟩:=uc2 BN 3 10
 simp only [gX] at n3 n10
 rw [hk] at n3
 obtain ⟨KK,hKK⟩:∃ m,K*K=m:=⟨_,rfl⟩
 have hKi:(K:Int)*(K:Int)=(KK:Int):=by rw [← hKK];simp
 have KK1:KK≤25:=by rw [← hKK];exact Nat.mul_le_mul k1.2 k1.2
 unfold eG
 rw [hKK]
 rw [bE] at iB
 have HB0:=zH (show wrap32 (bo+az 0 (bG H V C l d.za d.w K S P c y x))=bo by rw [show az 0 (bG H V C l d.za d.w K S P c y x)=0 from rfl,Int.add_zero];unfold wrap32;omega)
 have hk0:=k1
 obtain ⟨k1a,k1b⟩:=k1
 have HKK:=zH hKK
 clear hl hwl hbl hn hnw hk hs hp hz he hbo hKK
 go_in
 go_wp2_with fail
 go_step3
 go_wp2_with fail
 go_step3
 go_wp2_with fail
 clear yw1 yw2 n3 n10 cB
 go_loopw [11,25] (fun u ii wr=>∃ k:Nat,k≤KK∧ii=.int .i64 k∧u=.int .i32 (wrap32 (bo+az k (bG H V C l d.za d.w K S P c y x)))∧Far w wr∧Blk wr w.heap.size 27 (tN H V C A n cap)∧Blk wr w1.heap.size 42 (nN d.kind d.a d.b d.k d.s d.p d.out d.za d.zb W nw cw (some ⟨bb,ob,none⟩) nb cb d.qm d.qs d.qz d.rm d.rs d.rz d.lo d.hi)) (fun _ ii _=>KK - (intOf ii).toNat)
 case atStart=>exact ⟨0,zl _,rfl,by rw [HB0.o],FR.o,BT.o,BN.o⟩
 case round =>
  obtain ⟨k,hk,rfl,rfl,hf,hbt,hbn⟩:=hrel
  clear FR BT BN
  have FR:=zH hf
  have BT:=zH hbt
  have BN:=zH hbn
  clear hf hbt hbn
  by_cases hlt:k < KK
  ·have p1':(k:Int) < (KK:Int):=oM
   go_wp2_with fail
   obtain ⟨ki,hki⟩:∃ m,k / K=m:=⟨_,rfl⟩
   obtain ⟨kj,hkj⟩:∃ m,k % K=m:=⟨_,rfl⟩
   have bki:ki≤25:=by rw [← hki];exact lT (Nat.div_le_self _ _) oM
   have bkj:kj≤5:=by rw [← hkj];exact lT (Nat.le_of_lt (Nat.mod_lt _ oM)) k1b
   have hK0:(K:Int) ≠ 0:=oM
   have d1:(k:Int).tdiv (K:Int)=(ki:Int):=by rw [← hki,Int.tdiv_eq_ediv_of_nonneg oM];simp
   have d2:(k:Int).tmod (K:Int)=(kj:Int):=by rw [← hkj,Int.tmod_eq_emod_of_nonneg oM];simp
   obtain ⟨ys,hys⟩:∃ m,y*S=m:=⟨_,rfl⟩
   have ysi:(y:Int)*(S:Int)=(ys:Int):=by rw [← hys];simp
   have ysb:ys≤4000:=by rw [← hys];exact Nat.mul_le_mul hy s1.2
   obtain ⟨xs,hxs⟩:∃ m,x*S=m:=⟨_,rfl⟩
   have xsi:(x:Int)*(S:Int)=(xs:Int):=by rw [← hxs];simp
   have xsb:xs≤4000:=by rw [← hxs];exact Nat.mul_le_mul hx s1.2
   obtain ⟨yy,hyy⟩:∃ m:Int,((y*S+k / K:Nat):Int) - P=m:=⟨_,rfl⟩
   obtain ⟨xx,hxx⟩:∃ m:Int,((x*S+k % K:Nat):Int) - P=m:=⟨_,rfl⟩
   have hyy2:(ys:Int)+(ki:Int) - (P:Int)=yy:=by rw [← hyy,hys,hki];simp
   have hxx2:(xs:Int)+(kj:Int) - (P:Int)=xx:=by rw [← hxx,hxs,hkj];simp
   have g1:IntKind.i64.wrap ((y:Int)*(S:Int))=(ys:Int):=by rw [ysi];exact wJ
   have g2:IntKind.i64.wrap ((x:Int)*(S:Int))=(xs:Int):=by rw [xsi];exact wJ
   have g3:IntKind.i64.wrap ((ys:Int)+(ki:Int))=(ys:Int)+(ki:Int):=wJ
   have g4:IntKind.i64.wrap ((xs:Int)+(kj:Int))=(xs:Int)+(kj:Int):=wJ
   have g5:IntKind.i64.wrap ((ys:Int)+(ki:Int) - (P:Int))=yy:=by rw [hyy2];exact wJ
   have g6:IntKind.i64.wrap ((xs:Int)+(kj:Int) - (P:Int))=xx:=by rw [hxx2];exact wJ
   have g7:IntKind.i64.wrap (ki:Int)=(ki:Int):=wJ
   have g8:IntKind.i64.wrap (kj:Int)=(kj:Int):=wJ
   have t0:∀ q:Ext wr,q.1.cell? ⟨w.heap.size,0,none⟩=some (.int .i64 H):=fun q=>(BT.o.ext q).cell 0
   have t1:∀ q:Ext wr,q.1.cell? ⟨w.heap.size,1,none⟩=some (.int .i64 V):=fun q=>(BT.o.ext q).cell 1
   have t2:∀ q:Ext wr,q.1.cell? ⟨w.heap.size,2,none⟩=some (.int .i64 C):=fun q=>(BT.o.ext q).cell 2
   have n3:∀ q:Ext wr,q.1.cell? ⟨w1.heap.size,3,none⟩=some (.int .i64 K):=fun q=>by rw [← HK.o];exact (BN.o.ext q).cell 3
   have n4:∀ q:Ext wr,q.1.cell? ⟨w1.heap.size,4,none⟩=some (.int .i64 S):=fun q=>by rw [← HS.o];exact (BN.o.ext q).cell 4
   have n5:∀ q:Ext wr,q.1.cell? ⟨w1.heap.size,5,none⟩=some (.int .i64 P):=fun q=>by rw [← HP.o];exact (BN.o.ext q).cell 5
   have RG:=zH (fun q:Ext wr=>aR q (IX.o yy xx q.1))
   have hq:az (k+1) (bG H V C l d.za d.w K S P c y x)=az k (bG H V C l d.za d.w K S P c y x)+bG H V C l d.za d.w K S P c y x k:=rfl
   have hq2:bG H V C l d.za d.w K S P c y x k=d.w.getD (c*K*K+k) 0*px H V C l d.za yy xx c:=by unfold bG;rw [hyy,hxx]
   obtain ⟨D,hD⟩:∃ m,az k (bG H V C l d.za d.w K S P c y x)=m:=⟨_,rfl⟩
   rw [hD] at hq ⊢
   obtain ⟨D1,hD1⟩:∃ m,az (k+1) (bG H V C l d.za d.w K S P c y x)=m:=⟨_,rfl⟩
   rw [hD1] at hq
   have HD:=zH hD1
   by_cases hin:aK H V yy xx
   ·have hin2:=hin
    unfold aK at hin2
    have E1:=RG.o
    simp only [if_pos hin,qT hin] at E1
    obtain ⟨ix,hix⟩:∃ m,cH V C yy xx c=m:=⟨_,rfl⟩
    rw [hix] at E1
    have hixn:ix < n:=by
     rw [← hix,HN.o]
     exact dO yy.toNat xx.toNat c H V C oM oM hc
    have hpx:px H V C l d.za yy xx c=l.getD ix 0 - d.za:=by unfold px;rw [if_pos hin2,← hix];rfl
    rw [hq2,hpx] at hq
    replace E1:=zH E1
    refine aB wr kM kM (qB _ _) ?_
    repeat (go_big_quiet_step ((exact E1.o _)))
    refine wpQuiet_nil ?_
    rintro _ ⟨⟨w3,hB⟩,rfl⟩
    obtain ⟨FR,BT,BN⟩:=uz3 hB FR BT BN
    clear t0 t1 t2 n3 n4 n5 hB RG hix hin hin2 hpx g1 g2 g3 g4 g5 g6 g7 g8 d1 d2 hq2
    obtain ⟨bA,oA,rfl,-,-,ca,ia⟩:=(zO HL FR).int_at ix hixn
    obtain ⟨r1,hr1⟩:∃ m,c*K=m:=⟨_,rfl⟩
    have j1:(c:Int)*(K:Int)=(r1:Int):=by rw [← hr1];simp
    obtain ⟨r2,hr2⟩:∃ m,r1*K=m:=⟨_,rfl⟩
    have j2:(r1:Int)*(K:Int)=(r2:Int):=by rw [← hr2];simp
    have hr3:r2+k < nw:=by
     rw [HW.o,← hr2,← hr1]
     have:(c+1)*(K*K)≤C*(K*K):=Nat.mul_le_mul_right _ hc
     rw [HKK.o] at this
     rw [Nat.mul_assoc,Nat.mul_assoc,HKK.o]
     rw [Nat.succ_mul] at this
     omega
    rw [hr1,hr2] at hq
    have r2b:r2≤30000:=by
     rw [← hr2,← hr1]
     have q1:c*K≤1024*5:=Nat.mul_le_mul oM k1b
     exact lT (Nat.mul_le_mul q1 k1b) oM
    have r1b:r1≤r2:=by rw [← hr2];exact Nat.le_mul_of_pos_right _ oM
    obtain ⟨bW,oW,rfl,-,-,cW,iW⟩:=(zO HWL FR).int_at (r2+k) hr3
    obtain ⟨dv,hdv⟩:∃ m,l.getD ix 0=m:=⟨_,rfl⟩
    obtain ⟨wv,hwv⟩:∃ m,d.w.getD (r2+k) 0=m:=⟨_,rfl⟩
    obtain ⟨zv,hzv⟩:∃ m,d.za=m:=⟨_,rfl⟩
    have hzz:=HZ.o
    rw [hdv] at ca ia hq
    rw [hwv] at cW iW hq
    rw [hzv] at hq hzz
    rw [aT] at ia iW hzz
    obtain ⟨i1,i2⟩:=ia
    obtain ⟨i3,i4⟩:=iW
    obtain ⟨i5,i6⟩:=hzz
    have hm:=eL wv (dv - zv) i3 i4 oM oM
    have a3:=BT.o.cell 3
    obtain ⟨n3,n7,n9⟩:=uc3 BN 3 7 9
    simp only [gX] at a3 n3 n7 n9
    rw [HK.o] at n3
    rw [hzv] at n7
    have HQ:=zH hq
    have ZZ:=zH hzv
    clear hq hdv hwv hzv hr1 hr2
    go_wp2_with fail
    go_quiet (fail)
    go_wp2
    exact ⟨⟨k+1,by omega,by go_num,by rw [HD.o,HQ.o,eT,Int.add_assoc],FR.o.drewN _,⟨BT.o.heap⟩,⟨BN.o.heap⟩⟩,by simp [intOf];omega⟩
   ·have E1:=RG.o
    simp only [if_neg hin,dF hin] at E1
    have hpx:px H V C l d.za yy xx c=0:=by unfold px;exact if_neg hin
    rw [hq2,hpx,Int.mul_zero,Int.add_zero] at hq
    have HQ:=zH hq
    replace E1:=zH E1
    clear hq hq2 hpx hin RG
    refine aB wr kM kM (qB _ _) ?_
    repeat (go_big_quiet_step ((exact E1.o _)))
    refine wpQuiet_nil ?_
    rintro _ ⟨⟨w3,hB⟩,rfl⟩
    obtain ⟨FR,BT,BN⟩:=uz3 hB FR BT BN
    clear t0 t1 t2 n3 n4 n5 hB g1 g2 g3 g4 g5 g6 g7 g8 d1 d2
    go_wp2
    exact ⟨⟨k+1,by omega,by go_num,by rw [HD.o,HQ.o],FR.o,BT.o,BN.o⟩,by simp [intOf];omega⟩
  ·obtain rfl:k=KK:=oM
   go_wp2_with fail
   rw [Exit.noGoto_ret]
   go_ret
   exact ⟨rfl,FR.u⟩
end Go.Proofs.YtmihnoagagbgaaaGreat
