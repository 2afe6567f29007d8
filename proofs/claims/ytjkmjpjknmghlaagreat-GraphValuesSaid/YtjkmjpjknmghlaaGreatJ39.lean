/-
  A tensor of one number (layer 5: tensor.Fill).
  A tensor whose pixels are those of another one, or z (layer 9: pad.made).
  A tensor with more around it (layer 9: pad.resized, pad.Around).
-/
import Derived.Test.YtjkmjpjknmghlaaGreatJ30
import Derived.Test.YtjkmjpjknmghlaaGreatJ37
set_option linter.unusedVariables false
set_option linter.unusedSimpArgs false
namespace Go.Proofs.YtjkmjpjknmghlaaGreat
open Go.RowKit Go.ChangeShapes Go.WideShapes Fx
set_option maxRecDepth 100000
set_option maxHeartbeats 4000000
theorem fill_any (H V C N:Nat) (z:Int) (w:World) (h1:1≤H∧H≤100) (v1:1≤V∧V≤100) (c1:1≤C∧C≤1024) (hel:elems (H:Int) (V:Int) (C:Int)=(N:Int)) (hN:1≤N∧N≤1024) (hz:InK .i8 z) :
  Calls Tryz.prog 133 #[.agg (sN H V C),.int .i8 z] w fun e w'=>∃ q,e=.returned (.tuple #[.agg (tN H V C (some ⟨q,0,none⟩) N N),.int .i64 0])∧Own (tInt .i8) w' (fun _=>False) w.heap.size 39 (.slice (some ⟨q,0,none⟩) N N) N (List.replicate N z)∧Below w.heap.size w w':=by
 have SR:=zH (fun w=>shapeRight_any (H:Int) (C:Int) (V:Int) w (by rw [inK_i64];omega) (by rw [inK_i64];omega) (by rw [inK_i64];omega))
 rw [show decide (0 < elems (H:Int) (V:Int) (C:Int))=true by rw [hel];simp;omega] at SR
 have EL:=zH (fun w=>elems_any (H:Int) (C:Int) (V:Int) w (by rw [inK_i64];omega) (by rw [inK_i64];omega) (by rw [inK_i64];omega))
 rw [hel] at EL
 have RP:=zH (fun g w hc hg=>repeat_any z N g w hN hz hc hg)
 have FR:=zH (Far.refl w)
 clear hel hz
 obtain ⟨w1,hw_w1,BA,k_w1⟩:=nB w (sN H V C) 24
 replace FR:=zH (FR.out.fut k_w1)
 clear k_w1
 obtain ⟨w1b,hw_w1b,BR,k_w1b⟩:=nB w1 (tN 0 0 0 none 0 0) 27
 replace FR:=zH (FR.out.fut k_w1b)
 replace BA:=zH (BA.out.fut k_w1b)
 clear k_w1b
 have l1:w.heap.size < w1.heap.size:=by rw [← hw_w1];simp
 have l2:w1.heap.size < w1b.heap.size:=by rw [← hw_w1b];simp
 go_enter Tryz.func133,Tryz.ntmps133
 go_wp2_with (refine lB 24 (.tmp 2) w.heap.size BA.out Tryz.underlying24 ?_)
 refine (SR.out _).mono ?_
 rintro e w2 ⟨rfl,hb⟩
 have l3:=hb.size
 replace FR:=zH (FR.out.fut hb)
 replace BA:=zH (BA.out.fut hb)
 replace BR:=zH (BR.out.fut hb)
 clear hb
 clear hw_w1 hw_w1b
 go_wp2_with fail
 refine wp_region_held_drew (S:=fun w'=>Blk w' w.heap.size 24 (sN H V C)∧Below w.heap.size w w') (by kernel_rfl) ?_ (fun hS=>?_)
 ·exact ⟨BA.out.drew,FR.out.out.drew⟩
 have KW:=zH (show Below w2.heap.size w2 w2.drew from (Below.refl _ _).drew)
 refine tkH 0 rfl (yB 24 (.tmp 2) w.heap.size (fun w hs=>hs.1) Tryz.underlying24) hS ?_
 try simp only [pX]
 refine tkH 1 rfl (v:=?_) (Or.inl ⟨by rfl,?_⟩) hS ?_
 rotate_left
 ·intro wz hSw;(try dsimp only at hSw);go_simp;try with_reducible rfl
 try simp only [pX]
 refine tkH 3 rfl (yB 24 (.tmp 2) w.heap.size (fun w hs=>hs.1) Tryz.underlying24) hS ?_
 try simp only [pX]
 refine wpAnyH_ready (rs:=[2,4]) (by kernel_rfl) (by simp) ?_
 refine AllReadyH.cons rfl (fun K hK=>?_) (AllReadyH.cons rfl (fun K hK=>?_) AllReadyH.nil)
 ·go_simp
  have hb:Below w2.drew.heap.size w2.drew (w2.drew.alloc (.cells #[.int .i8 z] 39)):=(Below.refl _ _).alloc (Nat.le_refl _) _
  have BZ:=zH (Blk.now w2.drew w2.heap.size 39 #[.int .i8 z] rfl)
  refine hK.out _ _ ?_ (fun hS=>?_)
  ·exact ⟨Blk.later hS.1 hb,below_later hb hS.2⟩
  replace KW:=zH (below_later hb KW.out)
  clear hK K
  try simp only [pX]
  refine rH 4 rfl (fun K hK=>?_)
  go_simp
  refine (EL.out _).mono ?_
  rintro e wa ⟨rfl,hb⟩
  replace BZ:=zH (BZ.out.later hb)
  refine hK.out _ _ ?_ (fun hS=>?_)
  ·exact ⟨Blk.later hS.1 hb,below_later hb hS.2⟩
  replace KW:=zH (below_later hb KW.out)
  clear hK K
  try simp only [pX]
  refine rH 5 rfl (fun K hK=>?_)
  go_simp
  have zw:w2.heap.size≤(wa).heap.size:=KW.out.size
  have lz:=BZ.out.lt
  refine (RP.out w2.heap.size (wa) (BZ.out.cell 0) lz).mono ?_
  rintro e wb ⟨q,rfl,own,hb⟩
  have OW:=zH own
  have lq:=own.lt _ rfl
  clear own
  have BR3:=zH (BR.out.later (below_later hb KW.out))
  refine hK.out _ _ ?_ (fun hS=>?_)
  ·exact ⟨Blk.later hS.1 hb,below_later hb hS.2⟩
  replace KW:=zH (below_later hb KW.out)
  clear hK K
  try simp only [pX]
  refine tkH 6 rfl (v:=?_) (Or.inl ⟨by rfl,?_⟩) hS ?_
  rotate_left
  ·intro wz hSw;(try dsimp only at hSw);go_simp;try with_reducible rfl
  try simp only [pX]
  refine rH 7 rfl (fun K hK=>?_)
  rw [if_pos (by rfl)]
  refine oper_store_blk 27 (.tmp 4) (.tmp 16) rfl w1.heap.size 0 (tN H V C (some ⟨q,0,none⟩) N N) rfl rfl _ (tN 0 0 0 none 0 0) (tN H V C (some ⟨q,0,none⟩) N N) BR3.out (by simp) (by kernel_rfl) (by simp [Value.oneCell']) rfl ?_
  intro wc BX gc
  have e2:=OW.out.flat gc (.inr (by simp [Value.ownBlock];simp only [World.size_drew,World.size_alloc] at *;omega)) (fun _ h=>h)
  have F9:=(show Far w _ from ⟨hS.2⟩).away gc (by omega)
  have zq:w.heap.size≤q:=by simp only [World.size_drew,World.size_alloc] at *;omega
  refine hK.out _ _ ⟨hS.1.away gc (.inl (by omega)),F9.out⟩ (fun hS=>?_)
  clear hK K
  try simp only [pX]
  refine rH 8 rfl (fun K hK=>?_)
  go_simp
  refine hK.out _ _ hS (fun hS=>?_)
  clear hK K
  try simp only [pX]
  refine wpAnyH_done (by kernel_rfl) ?_ _
  go_wp2_with fail
  refine rC BX Tryz.underlying27 ?_
  exact ⟨q,rfl,owned_more e2 zq,F9.out⟩
 ·go_simp
  refine (EL.out _).mono ?_
  rintro e wa ⟨rfl,hb⟩
  refine hK.out _ _ ?_ (fun hS=>?_)
  ·exact ⟨Blk.later hS.1 hb,below_later hb hS.2⟩
  replace KW:=zH (below_later hb KW.out)
  clear hK K
  try simp only [pX]
  refine rH 2 rfl (fun K hK=>?_)
  go_simp
  have hb:Below wa.heap.size wa (wa.alloc (.cells #[.int .i8 z] 39)):=(Below.refl _ _).alloc (Nat.le_refl _) _
  have BZ:=zH (Blk.now wa wa.heap.size 39 #[.int .i8 z] rfl)
  refine hK.out _ _ ?_ (fun hS=>?_)
  ·exact ⟨Blk.later hS.1 hb,below_later hb hS.2⟩
  replace KW:=zH (below_later hb KW.out)
  clear hK K
  try simp only [pX]
  refine rH 5 rfl (fun K hK=>?_)
  go_simp
  have zw:w2.heap.size≤(wa.alloc (.cells #[.int .i8 z] 39)).heap.size:=KW.out.size
  have lz:=BZ.out.lt
  refine (RP.out wa.heap.size (wa.alloc (.cells #[.int .i8 z] 39)) (BZ.out.cell 0) lz).mono ?_
  rintro e wb ⟨q,rfl,own,hb⟩
  have OW:=zH own
  have lq:=own.lt _ rfl
  clear own
  have BR3:=zH (BR.out.later (below_later hb KW.out))
  refine hK.out _ _ ?_ (fun hS=>?_)
  ·exact ⟨Blk.later hS.1 hb,below_later hb hS.2⟩
  replace KW:=zH (below_later hb KW.out)
  clear hK K
  try simp only [pX]
  refine tkH 6 rfl (v:=?_) (Or.inl ⟨by rfl,?_⟩) hS ?_
  rotate_left
  ·intro wz hSw;(try dsimp only at hSw);go_simp;try with_reducible rfl
  try simp only [pX]
  refine rH 7 rfl (fun K hK=>?_)
  rw [if_pos (by rfl)]
  refine oper_store_blk 27 (.tmp 4) (.tmp 16) rfl w1.heap.size 0 (tN H V C (some ⟨q,0,none⟩) N N) rfl rfl _ (tN 0 0 0 none 0 0) (tN H V C (some ⟨q,0,none⟩) N N) BR3.out (by simp) (by kernel_rfl) (by simp [Value.oneCell']) rfl ?_
  intro wc BX gc
  have e2:=OW.out.flat gc (.inr (by simp [Value.ownBlock];simp only [World.size_drew,World.size_alloc] at *;omega)) (fun _ h=>h)
  have F9:=(show Far w _ from ⟨hS.2⟩).away gc (by omega)
  have zq:w.heap.size≤q:=by simp only [World.size_drew,World.size_alloc] at *;omega
  refine hK.out _ _ ⟨hS.1.away gc (.inl (by omega)),F9.out⟩ (fun hS=>?_)
  clear hK K
  try simp only [pX]
  refine rH 8 rfl (fun K hK=>?_)
  go_simp
  refine hK.out _ _ hS (fun hS=>?_)
  clear hK K
  try simp only [pX]
  refine wpAnyH_done (by kernel_rfl) ?_ _
  go_wp2_with fail
  refine rC BX Tryz.underlying27 ?_
  exact ⟨q,rfl,owned_more e2 zq,F9.out⟩
end Go.Proofs.YtjkmjpjknmghlaaGreat
namespace Go.Proofs.YtjkmjpjknmghlaaGreat
open Go.RowKit Go.ChangeShapes Go.WideShapes Fx
set_option maxRecDepth 100000
set_option maxHeartbeats 8000000
def padL (F:Nat → Int) (z:Int) (N C i:Nat):List Int:=(List.range N).map fun j=>if j / C < i then F j else z
theorem padL_zero (F:Nat → Int) (z:Int) (N C:Nat):padL F z N C 0=List.replicate N z:=by
 unfold padL
 apply List.ext_getElem (by simp)
 intro i h1 h2
 simp
theorem padL_at (F:Nat → Int) (z:Int) (N C i j:Nat) (h:j < N):(padL F z N C i)[j]?=some (if j / C < i then F j else z):=by
 unfold padL
 rw [List.getElem?_map,List.getElem?_range h];rfl
theorem padL_len (F:Nat → Int) (z:Int) (N C i:Nat):(padL F z N C i).length=N:=by unfold padL;simp
theorem row_of {C i j:Nat} (hC:0 < C):(j / C < i ↔ j < i*C):=Nat.div_lt_iff_lt_mul hC
theorem padL_skip (F:Nat → Int) (z:Int) (N C i:Nat) (hC:0 < C) (h:∀ c,c < C → F (i*C+c)=z):padL F z N C i=padL F z N C (i+1):=by
 unfold padL
 apply List.map_congr_left
 intro j _
 by_cases h1:j / C < i
 ·rw [if_pos h1,if_pos (by omega)]
 ·by_cases h2:j / C < i+1
  ·rw [if_neg h1,if_pos h2]
   have e:j / C=i:=by omega
   have:=Nat.div_add_mod j C
   rw [e,Nat.mul_comm] at this
   rw [← this,h _ (Nat.mod_lt _ hC)]
  ·rw [if_neg h1,if_neg h2]
theorem padL_copy (F:Nat → Int) (z:Int) (N C i:Nat) (hC:0 < C) (h:i*C+C≤N):splice (padL F z N C i) (i*C) ((List.range C).map fun c=>F (i*C+c))=padL F z N C (i+1):=by
 have hl:=padL_len F z N C i
 apply List.ext_getElem?
 intro j
 have hs:(splice (padL F z N C i) (i*C) ((List.range C).map fun c=>F (i*C+c))).length=N:=by rw [length_splice _ _ _ (by simp [hl];omega),hl]
 by_cases hj:j < N
 ·rw [padL_at F z N C (i+1) j hj]
  have e1:(j / C < i+1)=(j < i*C+C):=by rw [row_of hC,Nat.succ_mul]
  simp only [e1]
  unfold splice
  by_cases a:j < i*C
  ·rw [List.getElem?_append_left (by rw [List.length_take];omega),List.getElem?_take,if_pos a,padL_at F z N C i j hj,if_pos ((row_of hC).2 a),if_pos (by omega)]
  ·rw [List.getElem?_append_right (by rw [List.length_take];omega),List.length_take,hl,Nat.min_eq_left (by omega)]
   by_cases b:j < i*C+C
   ·rw [List.getElem?_append_left (by simp;omega),List.getElem?_map,List.getElem?_range (by omega),if_pos b]
    show some (F (i*C+(j - i*C)))=some (F j)
    rw [show i*C+(j - i*C)=j by omega]
   ·rw [List.getElem?_append_right (by simp;omega),List.length_map,List.length_range,List.getElem?_drop,show i*C+C+(j - i*C - C)=j by omega,padL_at F z N C i j hj,if_neg (by rw [row_of hC];exact a),if_neg b]
 ·rw [List.getElem?_eq_none (by omega),List.getElem?_eq_none (by rw [padL_len];omega)]
theorem padL_all (F:Nat → Int) (z:Int) (N C M:Nat) (hC:0 < C) (h:M*C=N):padL F z N C M=(List.range N).map F:=by
 unfold padL
 apply List.map_congr_left
 intro j hj
 rw [if_pos ((row_of hC).2 (by rw [h];exact List.mem_range.1 hj))]
theorem padMade_any (H V C Ho Wo p M:Nat) (A:Option Addr) (n cap:Nat) (l:List Int) (z:Int) (N:Nat) (a:Addr) (w:World) (ha:Sl (tInt .i8) w (blo w.heap.size) A n cap l) (hn:n=H*V*C) (hn2:n≤1024) (hH:1≤H∧H≤16) (hV:1≤V∧V≤16) (hC:1≤C∧C≤1024) (het:decide (0 < elems H V C)=true)
  (hHo:1≤Ho∧Ho≤16) (hWo:1≤Wo∧Wo≤16) (hp:p≤4) (hz:InK .i8 z) (hM:Ho*Wo=M) (hN:M*C=N) (hN2:N≤1024) (hel:elems (Ho:Int) (Wo:Int) (C:Int)=(N:Int)) (hpa:w.cell? a=some (.int .i64 p)) (hab:a.block < w.heap.size) :
  Calls Tryz.prog 117 #[.agg (sN Ho Wo C),.agg (tN H V C A n cap),.int .i8 z,.func (.func 118) #[] #[.pointer (some a)]] w fun e w'=>∃ Q c,e=.returned (.agg (tN Ho Wo C Q N c))∧Sl (tInt .i8) w' (bin w.heap.size w'.heap.size) Q N c ((List.range N).map (padF H V C l p z Wo))∧Below w.heap.size w w':=by
 have HA:=zH ha
 have HZ:=zH hz
 have HPA:=zH (And.intro hpa hab)
 have hN1:1≤N:=by rw [← hN,← hM];exact Nat.mul_pos (Nat.mul_pos hHo.1 hWo.1) hC.1
 have FI:=zH (fun w=>fill_any Ho Wo C N z w ⟨hHo.1,by omega⟩ ⟨hWo.1,by omega⟩ hC hel ⟨hN1,hN2⟩ hz)
 have IX:=zH (fun (yy xx:Int) (w:World)=>shapeIndex_any H V C yy xx 0 w hH hV hC het hC.1)
 have HN:=zH hn
 have NE:=zH (And.intro hM hN)
 have hMi:(Ho:Int)*(Wo:Int)=(M:Int):=by rw [← hM];simp
 have hMb:M≤256:=by rw [← hM];exact Nat.mul_le_mul hHo.2 hWo.2
 have gM:IntKind.i64.wrap ((Ho:Int)*(Wo:Int))=(M:Int):=by rw [hMi];exact IntWalk.i64_in _ (by omega)
 obtain ⟨PF,hPF⟩:∃ f,padF H V C l p z Wo=f:=⟨_,rfl⟩
 rw [hPF]
 have HPF:=zH (show ∀ j,PF j=pixV H V C l ((j / C / Wo:Nat) - (p:Int)) ((j / C % Wo:Nat) - (p:Int)) (j % C) z from fun j=>by rw [← hPF];rfl)
 have FR:=zH (Far.refl w)
 clear ha hz hpa hn hel het hM hN hMi hPF
 obtain ⟨w1,hw_w1,BA,k_w1⟩:=nB w (sN Ho Wo C) 24
 replace FR:=zH (FR.out.fut k_w1)
 clear k_w1
 obtain ⟨w2,hw_w2,BT,k_w2⟩:=nB w1 (tN H V C A n cap) 27
 replace FR:=zH (FR.out.fut k_w2)
 replace BA:=zH (BA.out.fut k_w2)
 clear k_w2
 obtain ⟨w3,hw_w3,BR,k_w3⟩:=nB w2 (tN 0 0 0 none 0 0) 27
 replace FR:=zH (FR.out.fut k_w3)
 replace BA:=zH (BA.out.fut k_w3)
 replace BT:=zH (BT.out.fut k_w3)
 clear k_w3
 have l1:w.heap.size < w1.heap.size:=by rw [← hw_w1];simp
 have l2:w1.heap.size < w2.heap.size:=by rw [← hw_w2];simp
 have l3:w2.heap.size < w3.heap.size:=by rw [← hw_w3];simp
 go_enter Tryz.func117,Tryz.ntmps117
 go_wp2_with (refine lB 24 (.tmp 4) w.heap.size BA.out Tryz.underlying24 ?_)
 refine (FI.out _).mono ?_
 rintro e w4 ⟨q,rfl,own,hb⟩
 have ON:=zH own
 have lq:=own.lt _ rfl
 have l4:=hb.size
 clear own hw_w1 hw_w2 hw_w3
 replace FR:=zH (FR.out.fut hb)
 replace BA:=zH (BA.out.fut hb)
 replace BT:=zH (BT.out.fut hb)
 replace BR:=zH (BR.out.fut hb)
 clear hb
 obtain ⟨w5,hw_w5,BG,k_w5⟩:=nB w4 (tN Ho Wo C (some ⟨q,0,none⟩) N N) 27
 replace FR:=zH (FR.out.fut k_w5)
 replace BA:=zH (BA.out.fut k_w5)
 replace BT:=zH (BT.out.fut k_w5)
 replace BR:=zH (BR.out.fut k_w5)
 clear k_w5
 have O5:=zH (ON.out.below (show Below w4.heap.size w4 w5 by rw [← hw_w5];exact (Below.refl _ _).alloc (Nat.le_refl _) _) (Nat.le_refl _) (fun _ h=>h.elim))
 have l5:w4.heap.size < w5.heap.size:=by rw [← hw_w5];simp
 have s0:=BA.out.cell 0
 have s1:=BA.out.cell 1
 go_wp2_with fail
 clear hw_w5 s0 s1 ON FI
 have ON:=zH (show Own (tInt .i8) w5 (fun _=>False) w3.heap.size 39 (.slice (some ⟨q,0,none⟩) N N) N (padL PF z N C 0) by rw [padL_zero];exact O5.out)
 clear O5 gM
 go_loopw [30] (fun ii wr=>∃ i:Nat,i≤M∧ii=.int .i64 i∧Far w wr∧Blk wr w.heap.size 24 (sN Ho Wo C)∧Blk wr w1.heap.size 27 (tN H V C A n cap)∧Blk wr w2.heap.size 27 (tN 0 0 0 none 0 0)∧Blk wr w4.heap.size 27 (tN Ho Wo C (some ⟨q,0,none⟩) N N)∧Own (tInt .i8) wr (fun _=>False) w3.heap.size 39 (.slice (some ⟨q,0,none⟩) N N) N (padL PF z N C i)) (fun ii _=>M - (intOf ii).toNat)
 case atStart=>exact ⟨0,Nat.zero_le _,rfl,FR.out,BA.out,BT.out,BR.out,BG.out,ON.out⟩
 case round =>
  obtain ⟨i,hi,rfl,f0,f1,f2,f3,f4,f5⟩:=hrel
  clear FR BA BT BR BG ON
  have FR:=zH f0
  have BA:=zH f1
  have BT:=zH f2
  have BR:=zH f3
  have BG:=zH f4
  have ON:=zH f5
  clear f0 f1 f2 f3 f4 f5
  by_cases hlt:i < M
  ·have p1:(i:Int) < (M:Int):=by omega
   obtain ⟨yb,hyb⟩:∃ m,i / Wo=m:=⟨_,rfl⟩
   obtain ⟨xb,hxb⟩:∃ m,i % Wo=m:=⟨_,rfl⟩
   have byb:yb≤256:=by rw [← hyb];exact Nat.le_trans (Nat.div_le_self _ _) (by omega)
   have bxb:xb≤16:=by rw [← hxb];have:=Nat.mod_lt i (show Wo > 0 by omega);omega
   have hW0:¬ Wo=0:=by omega
   have d1:(i:Int).tdiv (Wo:Int)=(yb:Int):=by rw [← hyb,Int.tdiv_eq_ediv_of_nonneg (by omega)];simp
   have d2:(i:Int).tmod (Wo:Int)=(xb:Int):=by rw [← hxb,Int.tmod_eq_emod_of_nonneg (by omega)];simp
   have e1:IntKind.i64.wrap (yb:Int)=(yb:Int):=IntWalk.i64_in _ (by omega)
   have e2:IntKind.i64.wrap (xb:Int)=(xb:Int):=IntWalk.i64_in _ (by omega)
   have HP2:=zH (show ∀ c,c < C → PF (i*C+c)=pixV H V C l ((yb:Int) - (p:Int)) ((xb:Int) - (p:Int)) c z from fun c hc=>by
    have dv:(i*C+c) / C=i:=by rw [Nat.mul_comm,Nat.mul_add_div (by omega),Nat.div_eq_of_lt hc,Nat.add_zero]
    have md:(i*C+c) % C=c:=by rw [Nat.mul_comm,Nat.mul_add_mod,Nat.mod_eq_of_lt hc]
    rw [HPF.out,dv,md,hyb,hxb])
   clear hyb hxb
   have s1:=BA.out.drew.cell 1
   simp only [gX] at s1
   go_wp2_with fail
   refine wp_region_held_drew (S:=fun w'=>w'.cell? ⟨w.heap.size,1,none⟩=some (.int .i64 Wo)∧Below wr.heap.size wr w') (by kernel_rfl) ?_ (fun hS=>?_)
   ·exact ⟨s1,(Below.refl _ _).drew⟩
   refine tkH 0 rfl (v:=?_) (Or.inl ⟨by rfl,?_⟩) hS ?_
   rotate_left
   ·intro wz hSw;go_simp;try with_reducible rfl
   try simp only [pX]
   refine tkH 1 rfl (v:=?_) (Or.inl ⟨by rfl,?_⟩) hS ?_
   rotate_left
   ·intro wz hSw;go_simp;try with_reducible rfl
   try simp only [pX]
   refine tkH 2 rfl (v:=?_) (Or.inl ⟨by rfl,?_⟩) hS ?_
   rotate_left
   ·intro wz hSw;go_simp;try with_reducible rfl
   try simp only [pX]
   refine tkH 3 rfl (v:=?_) (Or.inl ⟨by rfl,?_⟩) hS ?_
   rotate_left
   ·intro wz hSw;go_simp;try with_reducible rfl
   try simp only [pX]
   refine tkH 4 rfl (v:=?_) (Or.inl ⟨by rfl,?_⟩) hS ?_
   rotate_left
   ·intro wz hSw;go_simp;try with_reducible rfl
   try simp only [pX]
   refine tkH 5 rfl (v:=?_) (Or.inl ⟨by rfl,?_⟩) hS ?_
   rotate_left
   ·intro wz hSw;go_simp;try with_reducible rfl
   try simp only [pX]
   refine tkH 6 rfl (v:=?_) (Or.inl ⟨by rfl,?_⟩) hS ?_
   rotate_left
   ·intro wz hSw;go_simp;try with_reducible rfl
   try simp only [pX]
   refine tkH 7 rfl (v:=?_) (Or.inl ⟨by rfl,?_⟩) hS ?_
   rotate_left
   ·intro wz hSw;go_simp;try with_reducible rfl
   try simp only [pX]
   refine tkH 8 rfl (v:=?_) (Or.inl ⟨by rfl,?_⟩) hS ?_
   rotate_left
   ·intro wz hSw;go_simp;try with_reducible rfl
   try simp only [pX]
   refine rH 9 rfl (fun K hK=>?_)
   go_simp
   refine (padFrom_any a (yb:Int) (xb:Int) (p:Int) _ ((FR.out.fut hS.2).out.cell (p:=a) HPA.out.2 |>.trans HPA.out.1) ⟨by omega,by omega⟩ ⟨by omega,by omega⟩ ⟨by omega,by omega⟩).mono ?_
   rintro e wa ⟨rfl,hb⟩
   refine hK.out _ _ ⟨cell_later hb hS.1,below_later hb hS.2⟩ (fun hS=>?_)
   clear hK K
   try simp only [pX]
   refine tkH 10 rfl (v:=?_) (Or.inl ⟨by rfl,?_⟩) hS ?_
   rotate_left
   ·intro wz hSw;go_simp;try with_reducible rfl
   try simp only [pX]
   refine tkH 11 rfl (v:=?_) (Or.inl ⟨by rfl,?_⟩) hS ?_
   rotate_left
   ·intro wz hSw;go_simp;try with_reducible rfl
   try simp only [pX]
   refine tkH 13 rfl (v:=?_) (Or.inl ⟨by rfl,?_⟩) hS ?_
   rotate_left
   ·intro wz hSw;go_simp;try with_reducible rfl
   try simp only [pX]
   refine tkH 12 rfl (v:=?_) (Or.inl ⟨by rfl,?_⟩) hS ?_
   rotate_left
   ·intro wz hSw;go_simp;try with_reducible rfl
   try simp only [pX]
   refine tkH 14 rfl (v:=?_) (Or.inl ⟨by rfl,?_⟩) hS ?_
   rotate_left
   ·intro wz hSw;go_simp;try with_reducible rfl
   try simp only [pX]
   refine wpAnyH_done (by kernel_rfl) ?_ _
   have kd:=hS.2
   replace ON:=zH (ON.out.below kd (Nat.le_refl _) (fun _ h=>h.elim))
   replace FR:=zH (FR.out.fut kd)
   replace BA:=zH (BA.out.fut kd)
   replace BT:=zH (BT.out.fut kd)
   replace BR:=zH (BR.out.fut kd)
   replace BG:=zH (BG.out.fut kd)
   clear kd
   clear s1 d1 d2 e1 e2 hS hb
   obtain ⟨yy,hyy⟩:∃ y,(yb:Int) - (p:Int)=y:=⟨_,rfl⟩
   obtain ⟨xx,hxx⟩:∃ y,(xb:Int) - (p:Int)=y:=⟨_,rfl⟩
   rw [hyy,hxx] at HP2 ⊢
   clear hyy hxx
   go_wp2_with (refine wpList_load_blk rfl 24 (.tmp 47) rfl w1.heap.size 0 rfl _ (tN H V C A n cap) (sN H V C) _ BT.out Tryz.underlying24 rfl (by kernel_rfl) rfl ?_)
   have E1:=IX.out yy xx wa
   by_cases hin:inside H V yy xx
   ·have hin2:=hin
    unfold inside at hin2
    simp only [if_pos hin,decide_eq_true hin] at E1
    obtain ⟨at_,hat⟩:∃ m,placeV V C yy xx 0=m:=⟨_,rfl⟩
    rw [hat] at E1
    refine E1.mono ?_
    rintro e wb ⟨rfl,hb⟩
    have lb:=hb.size
    replace ON:=zH (ON.out.below hb (Nat.le_refl _) (fun _ h=>h.elim))
    replace FR:=zH (FR.out.fut hb)
    replace BA:=zH (BA.out.fut hb)
    replace BT:=zH (BT.out.fut hb)
    replace BR:=zH (BR.out.fut hb)
    replace BG:=zH (BG.out.fut hb)
    clear hb
    obtain ⟨o1,ho1⟩:∃ m,i*C=m:=⟨_,rfl⟩
    have ho1N:o1+C≤N:=by
     rw [← NE.out.2,← ho1]
     have:=Nat.mul_le_mul_right C (show i+1≤M by omega)
     rw [Nat.succ_mul] at this
     exact this
    have hatC:at_+C≤n:=by
     have h1:=idx_lt yy.toNat xx.toNat (C - 1) H V C (by omega) (by omega) (by omega)
     rw [← HN.out] at h1
     rw [← hat]
     unfold placeV
     omega
    have hcap:n≤cap:=HA.out.cap_le
    have hcm:cap≤9223372036854775807:=HA.out.max_le
    have g1:IntKind.i64.wrap ((i:Int)*(C:Int))=(o1:Int):=by rw [show (i:Int)*(C:Int)=(o1:Int) by rw [← ho1];simp];exact IntWalk.i64_in _ (by omega)
    have g2:IntKind.i64.wrap ((i:Int)+1)=(i:Int)+1:=IntWalk.i64_in _ (by omega)
    obtain ⟨o2,ho2⟩:∃ m,o1+C=m:=⟨_,rfl⟩
    obtain ⟨a2,ha2⟩:∃ m,at_+C=m:=⟨_,rfl⟩
    have g3:IntKind.i64.wrap (((i:Int)+1)*(C:Int))=(o2:Int):=by rw [show ((i:Int)+1)*(C:Int)=(o2:Int) by rw [← ho2,← ho1,Int.add_mul,Int.one_mul];simp];exact IntWalk.i64_in _ (by omega)
    have g4:IntKind.i64.wrap ((at_:Int)+(C:Int))=(a2:Int):=by rw [show ((at_:Int)+(C:Int))=(a2:Int) by rw [← ha2];simp];exact IntWalk.i64_in _ (by omega)
    obtain ⟨XS,hXS⟩:∃ x,((List.range C).map fun c=>PF (o1+c))=x:=⟨_,rfl⟩
    have XL:XS.length=C:=by rw [← hXS];simp
    have PC:=zH (padL_copy PF z N C i hC.1 (by rw [ho1];exact ho1N))
    rw [ho1,hXS] at PC
    rw [ho1] at HP2
    have XV:∀ c,c < C → XS.getD c 0=l.getD (at_+c) 0:=fun c hc=>by
     rw [← hXS,List.getD_eq_getElem?_getD,List.getElem?_map,List.getElem?_range hc]
     show PF (o1+c)=_
     rw [HP2.out c hc]
     unfold pixV
     rw [if_pos hin,← hat]
     rfl
    have SD:=((Old.now HA.out).fut FR.out.out).all
    have S0:=SD.int_at at_ (by omega)
    obtain ⟨b,o,rfl,hb1,-,-,-⟩:=S0
    have OD:=zH (ON.out.heap (w':=wb.drew) rfl)
    have X0:=zH (show ∀ x ∈ XS,InK .i8 x by
     intro x hx
     rw [← hXS] at hx
     obtain ⟨c,hc,rfl⟩:=List.mem_map.1 hx
     rw [HP2.out c (List.mem_range.1 hc)]
     exact pixV_in HA.out.allK HZ.out)
    have X1:=zH (show XS.length=Nat.min C C by rw [XL];exact (Nat.min_self C).symm)
    have X2:=zH (show ∀ j,j < XS.length → wb.drew.cell? ((⟨b,o+at_,none⟩:Addr).add j)=some (.int .i8 (XS.getD j 0)) by
     intro j hj
     rw [XL] at hj
     obtain ⟨b',o',e',-,-,cx,-⟩:=SD.int_at (at_+j) (by omega)
     injection e' with e'
     injection e' with e1 e2 e3
     subst e1 e2
     have ha':(⟨b,o+at_,none⟩:Addr).add j=⟨b,o+(at_+j),none⟩:=by unfold Addr.add;split <;> simp_all <;> omega
     rw [ha',XV j hj]
     exact cx)
    have X3:=zH (show o1+XS.length≤N by rw [XL];exact ho1N)
    have XLh:=zH XL
    clear hXS XL XV SD hat ho1 E1 hin hin2
    have nz1:¬ N=o1:=by omega
    have nz2:¬ cap=at_:=by omega
    have i1:o1≤o2:=by omega
    have i2:o2≤N:=by omega
    have i3:at_≤a2:=by omega
    have i4:a2≤cap:=by omega
    have i5:o2 - o1=C:=by omega
    have i6:a2 - at_=C:=by omega
    go_wp2_with fail
    refine wp_region_held_drew (S:=fun w'=>Blk w' w4.heap.size 27 (tN Ho Wo C (some ⟨q,0,none⟩) N N)∧Blk w' w.heap.size 24 (sN Ho Wo C)∧Blk w' w1.heap.size 27 (tN H V C (some ⟨b,o,none⟩) n cap)∧Blk w' w2.heap.size 27 (tN 0 0 0 none 0 0)∧Below w.heap.size w w') (by kernel_rfl) ?_ (fun hS=>?_)
    ·exact ⟨BG.out.drew,BA.out.drew,BT.out.drew,BR.out.drew,FR.out.out.drew⟩
    refine tkH 0 rfl (v:=?_) (Or.inl ⟨by rfl,?_⟩) hS ?_
    rotate_left
    ·intro wz hSw;go_simp;try with_reducible rfl
    try simp only [pX]
    refine tkH 1 rfl (v:=?_) (Or.inl ⟨by rfl,?_⟩) hS ?_
    rotate_left
    ·intro wz hSw;have zz:=hSw.1.cell 3;simp only [gX] at zz;go_simp;try with_reducible rfl
    try simp only [pX]
    refine tkH 2 rfl (v:=?_) (Or.inl ⟨by rfl,?_⟩) hS ?_
    rotate_left
    ·intro wz hSw;go_simp;try with_reducible rfl
    try simp only [pX]
    refine tkH 3 rfl (v:=?_) (Or.inl ⟨by rfl,?_⟩) hS ?_
    rotate_left
    ·intro wz hSw;go_simp;try with_reducible rfl
    try simp only [pX]
    refine tkH 4 rfl (v:=?_) (Or.inl ⟨by rfl,?_⟩) hS ?_
    rotate_left
    ·intro wz hSw;have zz:=hSw.2.1.cell 2;simp only [gX] at zz;go_simp;try with_reducible rfl
    try simp only [pX]
    refine tkH 5 rfl (v:=?_) (Or.inl ⟨by rfl,?_⟩) hS ?_
    rotate_left
    ·intro wz hSw;go_simp;try with_reducible rfl
    try simp only [pX]
    refine tkH 6 rfl (v:=?_) (Or.inl ⟨by rfl,?_⟩) hS ?_
    rotate_left
    ·intro wz hSw;go_simp;try with_reducible rfl
    try simp only [pX]
    refine tkH 7 rfl (v:=?_) (Or.inl ⟨by rfl,?_⟩) hS ?_
    rotate_left
    ·intro wz hSw;go_simp;try with_reducible rfl
    try simp only [pX]
    refine tkH 8 rfl (v:=?_) (Or.inl ⟨by rfl,?_⟩) hS ?_
    rotate_left
    ·intro wz hSw;go_simp;try with_reducible rfl
    try simp only [pX]
    refine tkH 9 rfl (v:=?_) (Or.inl ⟨by rfl,?_⟩) hS ?_
    rotate_left
    ·intro wz hSw;have zz:=hSw.2.1.cell 2;simp only [gX] at zz;go_simp;try with_reducible rfl
    try simp only [pX]
    refine tkH 10 rfl (v:=?_) (Or.inl ⟨by rfl,?_⟩) hS ?_
    rotate_left
    ·intro wz hSw;go_simp;try with_reducible rfl
    try simp only [pX]
    refine tkH 11 rfl (v:=?_) (Or.inl ⟨by rfl,?_⟩) hS ?_
    rotate_left
    ·intro wz hSw;go_simp;try with_reducible rfl
    try simp only [pX]
    refine tkH 12 rfl (v:=?_) (Or.inl ⟨by rfl,?_⟩) hS ?_
    rotate_left
    ·intro wz hSw;go_simp;try with_reducible rfl
    try simp only [pX]
    refine tkH 13 rfl (v:=?_) (Or.inl ⟨by rfl,?_⟩) hS ?_
    rotate_left
    ·intro wz hSw;have zz:=hSw.2.2.1.cell 3;simp only [gX] at zz;go_simp;try with_reducible rfl
    try simp only [pX]
    refine tkH 14 rfl (v:=?_) (Or.inl ⟨by rfl,?_⟩) hS ?_
    rotate_left
    ·intro wz hSw;go_simp;try with_reducible rfl
    try simp only [pX]
    refine tkH 15 rfl (v:=?_) (Or.inl ⟨by rfl,?_⟩) hS ?_
    rotate_left
    ·intro wz hSw;go_simp;try with_reducible rfl
    try simp only [pX]
    refine tkH 16 rfl (v:=?_) (Or.inl ⟨by rfl,?_⟩) hS ?_
    rotate_left
    ·intro wz hSw;go_simp;try with_reducible rfl
    try simp only [pX]
    refine tkH 17 rfl (v:=?_) (Or.inl ⟨by rfl,?_⟩) hS ?_
    rotate_left
    ·intro wz hSw;have zz:=hSw.2.1.cell 2;simp only [gX] at zz;go_simp;try with_reducible rfl
    try simp only [pX]
    refine tkH 18 rfl (v:=?_) (Or.inl ⟨by rfl,?_⟩) hS ?_
    rotate_left
    ·intro wz hSw;go_simp;try with_reducible rfl
    try simp only [pX]
    refine tkH 19 rfl (v:=?_) (Or.inl ⟨by rfl,?_⟩) hS ?_
    rotate_left
    ·intro wz hSw;go_simp;try with_reducible rfl
    try simp only [pX]
    refine rH 20 rfl (fun K hK=>?_)
    rw [if_pos (by rfl)]
    refine oper_copyO (k:=.i8) (.tmp 66) (.tmp 74) 25 25 rfl 39 Tryz.underlying25 (by kernel_rfl) OD.out o1 C (N - o1) rfl ⟨b,o+at_,none⟩ C (cap - at_) rfl XS X0.out X1.out X2.out X3.out ?_
    intro wc own gc
    have OC:=zH own
    clear own
    refine hK.out _ _ ⟨hS.1.rowR gc (fun e=>by injection e with e;omega),hS.2.1.rowR gc (fun e=>by injection e with e;omega),hS.2.2.1.rowR gc (fun e=>by injection e with e;omega),hS.2.2.2.1.rowR gc (fun e=>by injection e with e;omega),hS.2.2.2.2.grown gc hS.2.2.2.2.size (fun j e=>by injection e with e;omega)⟩ (fun hS=>?_)
    clear hK K
    try simp only [pX]
    refine wpAnyH_done (by kernel_rfl) ?_ _
    have O9:=OC.out
    rw [PC.out] at O9
    go_wp2_with fail
    exact ⟨⟨i+1,by omega,by go_num,⟨hS.2.2.2.2⟩,hS.2.1,hS.2.2.1,hS.2.2.2.1,hS.1,O9⟩,by simp [intOf];omega⟩
   ·simp only [if_neg hin,decide_eq_false hin] at E1
    refine E1.mono ?_
    rintro e wb ⟨rfl,hb⟩
    replace ON:=zH (ON.out.below hb (Nat.le_refl _) (fun _ h=>h.elim))
    replace FR:=zH (FR.out.fut hb)
    replace BA:=zH (BA.out.fut hb)
    replace BT:=zH (BT.out.fut hb)
    replace BR:=zH (BR.out.fut hb)
    replace BG:=zH (BG.out.fut hb)
    clear hb
    go_wp2_with fail
    have o3:=ON.out
    rw [padL_skip PF z N C i hC.1 (fun c hc=>by rw [HP2.out c hc];unfold pixV;rw [if_neg hin])] at o3
    exact ⟨⟨i+1,by omega,by go_num,FR.out,BA.out,BT.out,BR.out,BG.out,o3⟩,by simp [intOf];omega⟩
  ·obtain rfl:i=M:=by omega
   go_wp2_with (first|(refine lB 27 (.tmp 9) w4.heap.size BG.out Tryz.underlying27 ?_)|(refine sB 27 (.tmp 8) (.tmp 77) w2.heap.size (tN Ho Wo C (some ⟨q,0,none⟩) N N) BR.out ?_;intro w9 B9 g9))
   have e1:=ON.out
   rw [padL_all PF z N C i hC.1 NE.out.2] at e1
   have e2:=e1.flat g9 (.inr (by simp [Value.ownBlock];omega)) (fun _ h=>h)
   refine ret_cell rfl B9 rfl Tryz.underlying27 (by kernel_rfl) rfl ?_
   have FE:=FR.out.away g9 (by omega)
   obtain ⟨A2,c2,hv,s⟩:=e2.sl (S':=bin w.heap.size _) (by decide) (fun b h1 h2=>⟨by omega,h2⟩) (fun b h=>h.elim)
   injection hv with hv1 hv2 hv3
   subst hv1 hv3
   exact ⟨_,_,rfl,s,FE.out⟩
end Go.Proofs.YtjkmjpjknmghlaaGreat
namespace Go.Proofs.YtjkmjpjknmghlaaGreat
open Go.RowKit Go.ChangeShapes Go.WideShapes Fx
set_option maxRecDepth 100000
set_option maxHeartbeats 8000000
theorem resized_any (t:Tensor) (H V C p:Nat) (A:Option Addr) (n cap:Nat) (z:Int) (w:World) (ha:Sl (tInt .i8) w (blo w.heap.size) A n cap t.data) (TK:TOk t n H V C) (hp:p≤4) (hz:InK .i8 z) :
  Calls Tryz.prog 88 #[.agg (tN H V C A n cap),.int .i64 p,.int .i8 z] w (RetT .i8 (padQ t p z).1 (padQ t p z).2 w):=by
 have HA:=zH ha
 have k1:=TK.h1
 have k2:=TK.v1
 have k3:=TK.c1
 unfold padQ
 rw [TK.h,TK.v,TK.c]
 simp only [Int.toNat_natCast]
 obtain ⟨Ho,hHo⟩:∃ m,H+2*p=m:=⟨_,rfl⟩
 obtain ⟨Wo,hWo⟩:∃ m,V+2*p=m:=⟨_,rfl⟩
 have i1:(H:Int)+2*(p:Int)=(Ho:Int):=by omega
 have i2:(V:Int)+2*(p:Int)=(Wo:Int):=by omega
 rw [i1,i2,hWo]
 have SR:=zH (fun w=>shapeRight_any (Ho:Int) (C:Int) (Wo:Int) w (by rw [inK_i64];omega) (by rw [inK_i64];omega) (by rw [inK_i64];omega))
 have FR:=zH (Far.refl w)
 obtain ⟨w1,hw_w1,BT,k_w1⟩:=nB w (tN H V C A n cap) 27
 replace FR:=zH (FR.out.fut k_w1)
 clear k_w1
 obtain ⟨w2,hw_w2,BP,k_w2⟩:=nB w1 #[.int .i64 p] 3
 replace FR:=zH (FR.out.fut k_w2)
 replace BT:=zH (BT.out.fut k_w2)
 clear k_w2
 obtain ⟨w3,hw_w3,BR,k_w3⟩:=nB w2 (tN 0 0 0 none 0 0) 27
 replace FR:=zH (FR.out.fut k_w3)
 replace BT:=zH (BT.out.fut k_w3)
 replace BP:=zH (BP.out.fut k_w3)
 clear k_w3
 have t0:w3.cell? ⟨w.heap.size,0,none⟩=some (.int .i64 H):=BT.out.cell 0
 have t1:w3.cell? ⟨w.heap.size,1,none⟩=some (.int .i64 V):=BT.out.cell 1
 have t2:w3.cell? ⟨w.heap.size,2,none⟩=some (.int .i64 C):=BT.out.cell 2
 have p0:w3.cell? ⟨w1.heap.size,0,none⟩=some (.int .i64 p):=BP.out.cell 0
 obtain ⟨w4,hw_w4,BS,k_w4⟩:=nB w3 (sN Ho Wo C) 24
 replace FR:=zH (FR.out.fut k_w4)
 replace BT:=zH (BT.out.fut k_w4)
 replace BP:=zH (BP.out.fut k_w4)
 replace BR:=zH (BR.out.fut k_w4)
 clear k_w4
 have l1:w.heap.size < w1.heap.size:=by rw [← hw_w1];simp
 have l2:w1.heap.size < w2.heap.size:=by rw [← hw_w2];simp
 have l3:w2.heap.size < w3.heap.size:=by rw [← hw_w3];simp
 have l4:w3.heap.size < w4.heap.size:=by rw [← hw_w4];simp
 have g1:IntKind.i64.wrap (2*(p:Int))=2*(p:Int):=IntWalk.i64_in _ (by omega)
 have g2:IntKind.i64.wrap ((H:Int)+2*(p:Int))=(Ho:Int):=by rw [i1];exact IntWalk.i64_in _ (by omega)
 have g3:IntKind.i64.wrap ((V:Int)+2*(p:Int))=(Wo:Int):=by rw [i2];exact IntWalk.i64_in _ (by omega)
 by_cases e0:elems (Ho:Int) (Wo:Int) (C:Int)=0
 ·rw [if_pos e0]
  rw [show decide (0 < elems (Ho:Int) (Wo:Int) (C:Int))=false by rw [e0];decide] at SR
  clear e0 ha TK hz i1 i2 hHo hWo
  go_enter Tryz.func88,Tryz.ntmps88
  go_wp2_with (first|(refine lB 24 (.tmp 8) w3.heap.size BS.out Tryz.underlying24 ?_)|(go_at_call 24;refine (SR.out _).mono ?_;rintro e w5 ⟨rfl,hb⟩;have l5:=hb.size;replace FR:=zH (FR.out.fut hb);replace BT:=zH (BT.out.fut hb);replace BP:=zH (BP.out.fut hb);replace BR:=zH (BR.out.fut hb);replace BS:=zH (BS.out.fut hb);clear hb t0 t1 t2 p0 hw_w1 hw_w2 hw_w3 hw_w4)|(refine sB 27 (.tmp 6) (.tmp 28) w2.heap.size (tN 0 0 0 none 0 0) BR.out ?_;intro w9 B9 g9))
  refine rC B9 Tryz.underlying27 ?_
  exact RetT.none (FR.out.away g9 (by omega)).out
 ·rw [if_neg e0]
  obtain ⟨H',V',C',q1,q2,q3,b1,b2,b3,q4,q5⟩:=elems_nat e0
  obtain rfl:Ho=H':=by omega
  obtain rfl:Wo=V':=by omega
  obtain rfl:C=C':=by omega
  obtain ⟨N,hN⟩:∃ N,Ho*Wo*C=N:=⟨_,rfl⟩
  rw [hN] at q4 q5
  have hN0:0 < N:=by
   rcases Nat.eq_zero_or_pos N with e|e
   ·rw [e] at q4;exact absurd q4 e0
   ·exact e
  rw [show decide (0 < elems (Ho:Int) (Wo:Int) (C:Int))=true by rw [q4];simp;omega] at SR
  have MD:=zH (fun wq (h:Sl (tInt .i8) wq (blo wq.heap.size) A n cap t.data) (a:Addr) hpa hab=>padMade_any H V C Ho Wo p (Ho*Wo) A n cap t.data z N a wq h TK.n_eq TK.n_le k1 k2 k3 (tok_elems TK) b1 b2 hp hz rfl hN q5 q4 hpa hab)
  rw [q4,Int.toNat_natCast]
  clear e0 ha TK hz q1 q2 q3 q4 hN i1 i2 hHo hWo
  go_enter Tryz.func88,Tryz.ntmps88
  go_wp2_with (first|(refine lB 24 (.tmp 8) w3.heap.size BS.out Tryz.underlying24 ?_)|(go_at_call 24;refine (SR.out _).mono ?_;rintro e w5 ⟨rfl,hb⟩;have l5:=hb.size;replace FR:=zH (FR.out.fut hb);replace BT:=zH (BT.out.fut hb);replace BP:=zH (BP.out.fut hb);replace BR:=zH (BR.out.fut hb);replace BS:=zH (BS.out.fut hb);clear hb t0 t1 t2 p0 hw_w1 hw_w2 hw_w3 hw_w4)|(refine lB 27 (.tmp 3) w.heap.size BT.out Tryz.underlying27 ?_))
  refine (MD.out _ ((Old.now HA.out).fut FR.out.out).all ⟨w1.heap.size,0,none⟩ (BP.out.cell 0) BP.out.lt).mono ?_
  rintro e wm ⟨RA,rc,rfl,rs,hb⟩
  have RS:=zH (show New w5 (tInt .i8) wm RA N rc _ from ⟨rs⟩)
  have lbr:=BR.out.lt
  have lfr:=FR.out.size
  replace BR:=zH (BR.out.fut hb)
  replace FR:=zH (FR.out.fut hb)
  clear hb rs
  go_wp2_with (refine sB 27 (.tmp 6) (.tmp 33) w2.heap.size (tN Ho Wo C RA N rc) BR.out ?_;intro w9 B9 g9)
  refine rC B9 Tryz.underlying27 ?_
  exact ⟨RA,N,rc,rfl,(RS.out.away g9 lbr).out.more (bin_more lfr (Nat.le_refl _)),(FR.out.away g9 (by omega)).out⟩
def padO (t:Tensor) (p z:Int):Tensor × Int:=if p < 0 ∨ 4 < p then (noTensor,2) else padQ t p.toNat z
theorem around_any (t:Tensor) (p:Int) (A:Option Addr) (n cap:Nat) (z:Int) (w:World) (ht:TensorIn t) (ha:Sl (tInt .i8) w (blo w.heap.size) A n cap t.data) (c1:t.ok=true) (hz:InK .i8 z) :
  Calls Tryz.prog 47 #[.agg (tN t.h t.v t.c A n cap),.int .i64 p,.int .i8 z] w (RetT .i8 (padO t p z).1 (padO t p z).2 w):=by
 have HA:=zH ha
 have MA:=zH (fun w (h:Sl (tInt .i8) w (blo w.heap.size) A n cap t.data)=>padMay_any t A n cap p w ht h c1)
 have FR:=zH (Far.refl w)
 obtain ⟨w1,hw_w1,BT,k_w1⟩:=nB w (tN t.h t.v t.c A n cap) 27
 replace FR:=zH (FR.out.fut k_w1)
 clear k_w1
 obtain ⟨w2,hw_w2,BR,k_w2⟩:=nB w1 (tN 0 0 0 none 0 0) 27
 replace FR:=zH (FR.out.fut k_w2)
 replace BT:=zH (BT.out.fut k_w2)
 clear k_w2
 have l1:w.heap.size < w1.heap.size:=by rw [← hw_w1];simp
 have l2:w1.heap.size < w2.heap.size:=by rw [← hw_w2];simp
 have HA2:=zH ((Old.now HA.out).fut FR.out.out).all
 unfold padO
 by_cases h:p < 0 ∨ 4 < p
 ·rw [if_pos h]
  rw [if_pos h] at MA
  clear h ha c1 hz ht
  go_enter Tryz.func47,Tryz.ntmps47
  go_wp2_with (first|(refine lB 27 (.tmp 3) w.heap.size BT.out Tryz.underlying27 ?_)|(go_at_call 87;refine (MA.out _ HA2.out).mono ?_;rintro e w5 ⟨rfl,hb⟩;have l5:=hb.size;replace FR:=zH (FR.out.fut hb);replace BT:=zH (BT.out.fut hb);replace BR:=zH (BR.out.fut hb);clear hb hw_w1 hw_w2)|(refine sB 27 (.tmp 6) (.tmp 14) w1.heap.size (tN 0 0 0 none 0 0) BR.out ?_;intro w9 B9 g9))
  refine rC B9 Tryz.underlying27 ?_
  exact RetT.none (FR.out.away g9 (by omega)).out
 ·rw [if_neg h]
  rw [if_neg h] at MA
  obtain ⟨H,V,C,TK⟩:=tok_of c1
  have en:t.data.length=n:=ha.n_eq
  rw [en] at TK
  have hpn:(p.toNat:Int)=p:=by omega
  have RZ:=zH (fun w h'=>resized_any t H V C p.toNat A n cap z w h' TK (by omega) hz)
  rw [← TK.h,← TK.v,← TK.c,hpn] at RZ
  obtain ⟨Q,hQ⟩:∃ q,padQ t p.toNat z=q:=⟨_,rfl⟩
  rw [hQ] at RZ ⊢
  clear h ha c1 hz ht TK hpn hQ
  go_enter Tryz.func47,Tryz.ntmps47
  go_wp2_with (first|(refine lB 27 (.tmp 3) w.heap.size BT.out Tryz.underlying27 ?_)|(go_at_call 87;refine (MA.out _ HA2.out).mono ?_;rintro e w5 ⟨rfl,hb⟩;have l5:=hb.size;replace FR:=zH (FR.out.fut hb);replace BT:=zH (BT.out.fut hb);replace BR:=zH (BR.out.fut hb);clear hb hw_w1 hw_w2))
  refine (RZ.out _ ((Old.now HA.out).fut FR.out.out).all).mono ?_
  rintro e wm ⟨RA,rn,rc,rfl,rs,hb⟩
  have RS:=zH (show New w5 (tInt .i8) wm RA rn rc _ from ⟨rs⟩)
  have lbr:=BR.out.lt
  have lfr:=FR.out.size
  replace BR:=zH (BR.out.fut hb)
  replace FR:=zH (FR.out.fut hb)
  clear hb rs
  go_wp2_with (refine sB 27 (.tmp 6) (.tmp 20) w1.heap.size (tN Q.1.h Q.1.v Q.1.c RA rn rc) BR.out ?_;intro w9 B9 g9)
  refine rC B9 Tryz.underlying27 ?_
  exact ⟨RA,rn,rc,rfl,(RS.out.away g9 lbr).out.more (bin_more lfr (Nat.le_refl _)),(FR.out.away g9 (by omega)).out⟩
end Go.Proofs.YtjkmjpjknmghlaaGreat
