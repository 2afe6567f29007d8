/-
  Tensors in a row; tensor.Of of a tensor that is right; a value made out of those before (layers 5, 27: graph.values.more).
-/
import Derived.Test.YtjkmjpjknmghlaaGreatKA00
set_option linter.unusedVariables false
set_option linter.unusedSimpArgs false
namespace Go.Proofs.YtjkmjpjknmghlaaGreat
open Go.RowKit Go.ChangeShapes Go.WideShapes
set_option maxRecDepth 100000
set_option maxHeartbeats 4000000
theorem topen {w:World} {S:Nat → Prop} {cs:List Value} {t:Tensor} (h:tTensor.rep w S cs t) :
  ∃ A n cap,cs=[.int .i64 t.h,.int .i64 t.v,.int .i64 t.c,.slice A n cap]∧TensorIn t∧Sl (tInt .i8) w S A n cap t.data:=by
 obtain ⟨⟨⟨a,b,c⟩,l⟩,rfl,_,_,rfl,⟨_,_,rfl,⟨rfl,h1⟩,_,_,rfl,⟨rfl,h2⟩,rfl,h3⟩,hs⟩:=h
 obtain ⟨A,cap,rfl,hs'⟩:=tSlice_iff.1 hs
 exact ⟨A,_,cap,rfl,⟨h1,h2,h3⟩,hs'⟩
theorem tTensor_size:tTensor.size=4:=rfl
theorem Sl.tensor_at {w:World} {S:Nat → Prop} {A:Option Addr} {n cap:Nat} {l:List Tensor} (h:Sl tTensor w S A n cap l) (i:Nat) (hi:i < n) :
  ∃ t b off D m c,l[i]?=some t∧A=some ⟨b,off,none⟩∧S b∧b < w.heap.size∧TensorIn t∧Sl (tInt .i8) w S D m c t.data∧w.rangeAt b (off+i*4) [.int .i64 t.h,.int .i64 t.v,.int .i64 t.c,.slice D m c]:=by
 obtain ⟨t,b,off,xs,hx,hA,hS,hb,hr,hl,hc⟩:=h.cells i hi (by decide)
 obtain ⟨D,m,c,rfl,ht,h1⟩:=topen hr
 rw [tTensor_size] at hc
 exact ⟨t,b,off,D,m,c,hx,hA,hS,hb,ht,h1,fun j v hv=>by have:=hc j v hv;rwa [← Nat.add_assoc] at this⟩
theorem ei_vals:EI Tryz.prog 54 27 (.agg #[.int .i64 0,.int .i64 0,.int .i64 0,.slice none 0 0]) 4 48:=⟨Tryz.underlying54,by kernel_rfl,rfl,by decide⟩
theorem trep {w:World} {S:Nat → Prop} {t:Tensor} {A:Option Addr} {n c:Nat} (h:TensorIn t) (hs:Sl (tInt .i8) w S A n c t.data):tTensor.rep w S [.int .i64 t.h,.int .i64 t.v,.int .i64 t.c,.slice A n c] t :=
 ⟨((t.h,t.v,t.c),t.data),rfl,_,_,rfl,⟨_,_,rfl,⟨rfl,h.h⟩,_,_,rfl,⟨rfl,h.v⟩,rfl,h.c⟩,hs.rep⟩
theorem tensorOf_any (t:Tensor) (A:Option Addr) (n cap:Nat) (w:World) (hok:t.ok=true) (ha:Sl (tInt .i8) w (blo w.heap.size) A n cap t.data) (hn:n≤140737488351232) :
  Calls Tryz.prog 15 #[.agg #[.int .i64 t.h,.int .i64 t.v,.int .i64 t.c],.slice A n cap] w (RetT .i8 t 0 w):=by
 have ht:=ok_in hok
 have RA:=zH (fun w=>tensorRight_any t.h t.v t.c A n cap w ht.h ht.v ht.c (Nat.le_trans ha.cap_le ha.max_le))
 have c1':decide (0 < elems t.h t.v t.c∧elems t.h t.v t.c=n)=true:=by rw [← ha.n_eq];exact hok
 rw [c1'] at RA
 have HA:=zH (Old.now ha)
 have FR:=zH (Far.refl w)
 obtain ⟨w1,hw_w1,BA,k_w1⟩:=nB w #[.int .i64 t.h,.int .i64 t.v,.int .i64 t.c] 24
 replace FR:=zH (FR.out.fut k_w1)
 replace HA:=zH (HA.out.fut k_w1)
 clear k_w1
 obtain ⟨w2,hw_w2,BR,k_w2⟩:=nB w1 #[.int .i64 0,.int .i64 0,.int .i64 0,.slice none 0 0] 27
 replace FR:=zH (FR.out.fut k_w2)
 replace HA:=zH (HA.out.fut k_w2)
 replace BA:=zH (BA.out.fut k_w2)
 clear k_w2
 have l1:w.heap.size < w1.heap.size:=by rw [← hw_w1];simp
 have l2:w1.heap.size < w2.heap.size:=by rw [← hw_w2];simp
 clear ha hok ht c1'
 go_enter Tryz.func15,Tryz.ntmps15
 go_wp2_with (refine wpList_load_row rfl 24 (.tmp 2) rfl w.heap.size rfl _ _ (0,0) _ BA.out.heap Tryz.underlying24 rfl (by kernel_rfl) ?_)
 clear hw_w1 hw_w2
 refine (RA.out _).mono ?_
 rintro e w3 ⟨rfl,hb⟩
 replace FR:=zH (FR.out.fut hb)
 replace HA:=zH (HA.out.fut hb)
 replace BA:=zH (BA.out.fut hb)
 replace BR:=zH (BR.out.fut hb)
 clear hb
 go_wp2_with fail
 refine wp_region_held_drew (S:=fun w'=>Blk w' w.heap.size 24 #[.int .i64 t.h,.int .i64 t.v,.int .i64 t.c]∧Below w.heap.size w w') (by kernel_rfl) ?_ (fun hS=>?_)
 ·exact ⟨BA.out.drew,FR.out.out.drew⟩
 refine tkH 0 rfl (yieldsIf_load_blk (by rfl) 24 (.tmp 2) rfl w.heap.size 0 rfl _ _ #[.int .i64 t.h,.int .i64 t.v,.int .i64 t.c] _ (fun w hs=>hs.1) Tryz.underlying24 rfl (by kernel_rfl) rfl) hS ?_
 try simp only [pX]
 refine kH 1 rfl hS ?_
 try simp only [pX]
 refine rH 2 rfl (fun K hK=>?_)
 go_simp
 refine (clone8_any A n cap t.data _ (HA.out.draw.all) hn).mono ?_;rintro e w4 ⟨D,m,c,rfl,hs,hb⟩;have SD:=zH (New.of hs ((Far.refl w3).draw));have BR4:=zH (BR.out.drew.later hb);clear hs
 refine hK.out _ _ ?_ (fun hS=>?_)
 ·exact ⟨(by first|exact cell_later hb hS.1|exact Blk.later hS.1 hb),below_later hb hS.2⟩
 clear hK K
 try simp only [pX]
 refine kH 3 rfl hS ?_
 try simp only [pX]
 refine rH 4 rfl (fun K hK=>?_)
 (rw [if_pos (by rfl)];refine oper_store_blk 27 (.tmp 4) (.tmp 15) rfl w1.heap.size 0 #[.int .i64 t.h,.int .i64 t.v,.int .i64 t.c,.slice D m c] rfl rfl _ #[.int .i64 0,.int .i64 0,.int .i64 0,.slice none 0 0] #[.int .i64 t.h,.int .i64 t.v,.int .i64 t.c,.slice D m c] BR4.out (by simp) (by kernel_rfl) (by simp [Value.oneCell']) rfl ?_;intro w7 BR7 g7;have lq:=BR.out.lt;have SD7:=zH (SD.out.away g7 lq);have BA7:=hS.1.away g7 (by omega);refine hK.out _ _ ⟨BA7,hS.2.grown g7 hS.2.size (fun k h=>by have:=Option.some.inj h;omega)⟩ (fun hS=>?_))
 clear hK K
 try simp only [pX]
 refine kH 5 rfl hS ?_
 try simp only [pX]
 refine wpAnyH_done (by kernel_rfl) ?_ _
 have FZ:=hS.2
 go_wp2_with fail
 refine ret_cell_tmp rfl BR7 rfl Tryz.underlying27 (by kernel_rfl) rfl ⟨D,m,c,rfl,SD7.out.since FR.out,FZ⟩
theorem gmore_any (d:Node) (W:Option Addr) (nw cw:Nat) (B:Option Addr) (nb cb:Nat) (A:Option Addr) (n cap:Nat) (l:List Tensor) (w:World) (hd:NodeIn d) (hw:Sl (tInt .i8) w (blo w.heap.size) W nw cw d.w) (hb:Sl (tInt .i32) w (blo w.heap.size) B nb cb d.bias) (mw:nw≤2000∧nb≤200) (hs:Sl tTensor w (blo w.heap.size) A n cap l) (hth:thereV d n=true) :
  Calls Tryz.prog 16 #[.slice A n cap,.agg (nN d.kind d.a d.b d.k d.s d.p d.out d.za d.zb W nw cw B nb cb d.qm d.qs d.qz d.rm d.rs d.rz d.lo d.hi)] w (RetT .i8 (moreV d l).1 (moreV d l).2 w):=by
 have hm:n≤9223372036854775807:=Nat.le_trans hs.cap_le hs.max_le
 obtain ⟨p1,p2,p3,p4⟩:=there_bd hth
 obtain ⟨ia,hia⟩:∃ ia,d.a.toNat=ia:=⟨_,rfl⟩
 obtain ⟨ib,hib⟩:∃ ib,(secondV d).toNat=ib:=⟨_,rfl⟩
 obtain ⟨t,b0,off0,D,m,c,x1,rfl,_,_,k1,s1,q1⟩:=hs.tensor_at ia (by omega)
 obtain ⟨u,b0',off0',D',m',c',x2,e0,_,_,k2,s2,q2⟩:=hs.tensor_at ib (by omega)
 obtain ⟨rfl,rfl⟩:b0=b0'∧off0=off0':=by simpa using e0
 have MV:moreV d l=nodeQ d t u:=by
  unfold moreV
  rw [hia,hib,List.getD_eq_getElem?_getD,List.getD_eq_getElem?_getD,x1,x2];rfl
 rw [MV]
 have OF:=zH (fun w=>of_any d W nw cw B nb cb w hd.a hd.b)
 have RN:=zH (fun w hw hbi ha hbs=>runNode_any d W nw cw B nb cb t u D D' m c m' c' w k1 k2 hd hw hbi ha hbs mw)
 obtain ⟨⟨x,k⟩,hx⟩:∃ q,nodeQ d t u=q:=⟨_,rfl⟩
 rw [hx] at RN ⊢
 obtain ⟨sc,hsc⟩:∃ s,secondV d=s:=⟨_,rfl⟩
 rw [hsc] at p3 p4 OF hib
 have Q1:=zH q1
 have Q2:=zH q2
 have HW:=zH (Old.now hw)
 have HB:=zH (Old.now hb)
 have HS1:=zH (Old.now s1)
 have HS2:=zH (Old.now s2)
 have FR:=zH (Far.refl w)
 obtain ⟨w1,hw_w1,BN,k_w1⟩:=nB w (nN d.kind d.a d.b d.k d.s d.p d.out d.za d.zb W nw cw B nb cb d.qm d.qs d.qz d.rm d.rs d.rz d.lo d.hi) 44
 replace FR:=zH (FR.out.fut k_w1)
 clear k_w1
 obtain ⟨w2,hw_w2,BR,k_w2⟩:=nB w1 #[.int .i64 0,.int .i64 0,.int .i64 0,.slice none 0 0] 27
 replace FR:=zH (FR.out.fut k_w2)
 replace BN:=zH (BN.out.fut k_w2)
 clear k_w2
 have l1:w.heap.size < w1.heap.size:=by rw [← hw_w1];simp
 have l2:w1.heap.size < w2.heap.size:=by rw [← hw_w2];simp
 clear hw hb hs s1 s2 q1 q2 e0 x1 x2 MV hx hsc hth k1 k2
 go_enter Tryz.func16,Tryz.ntmps16
 go_wp2_with fail
 clear hw_w1 hw_w2
 refine wp_region_held_drew (S:=fun w'=>w'.cell? ⟨w.heap.size,1,none⟩=some (.int .i64 d.a)∧Blk w' w.heap.size 44 (nN d.kind d.a d.b d.k d.s d.p d.out d.za d.zb W nw cw B nb cb d.qm d.qs d.qz d.rm d.rs d.rz d.lo d.hi)∧Below w.heap.size w w') (by kernel_rfl) ?_ (fun hS=>?_)
 ·exact ⟨BN.out.drew.cell 1,BN.out.drew,FR.out.out.drew⟩
 refine tkH 0 rfl (yieldsIf_load_blk (by rfl) 44 (.tmp 3) rfl w.heap.size 0 rfl _ _ (nN d.kind d.a d.b d.k d.s d.p d.out d.za d.zb W nw cw B nb cb d.qm d.qs d.qz d.rm d.rs d.rz d.lo d.hi) _ (fun w hs=>hs.2.1) Tryz.underlying44 rfl (by kernel_rfl) rfl) hS ?_
 try simp only [pX]
 refine kH 1 rfl hS ?_
 try simp only [pX]
 refine kH 2 rfl hS ?_
 try simp only [pX]
 refine kH 3 rfl hS ?_
 try simp only [pX]
 refine kH 4 rfl hS ?_
 try simp only [pX]
 refine tkH 5 rfl (yieldsIf_load_mid (by rfl) 27 (.tmp 10) rfl b0 (off0+ia*4) (by rw [← hia];rfl) _ _ (fun w hs j v hv=>cell_later hs.2.2 (Q1.out j v hv)) Tryz.underlying27 rfl (by kernel_rfl)) hS ?_
 try simp only [pX]
 refine kH 6 rfl hS ?_
 try simp only [pX]
 refine tkH 7 rfl (yieldsIf_load_blk (by rfl) 44 (.tmp 3) rfl w.heap.size 0 rfl _ _ (nN d.kind d.a d.b d.k d.s d.p d.out d.za d.zb W nw cw B nb cb d.qm d.qs d.qz d.rm d.rs d.rz d.lo d.hi) _ (fun w hs=>hs.2.1) Tryz.underlying44 rfl (by kernel_rfl) rfl) hS ?_
 try simp only [pX]
 refine rH 8 rfl (fun K hK=>?_)
 go_simp
 refine (OF.out _).mono ?_;rintro e w5 ⟨rfl,hb⟩;have BR5:=zH (BR.out.drew.later hb)
 refine hK.out _ _ ?_ (fun hS=>?_)
 ·exact ⟨(by first|exact cell_later hb hS.1|exact Blk.later hS.1 hb),(by first|exact cell_later hb hS.2.1|exact Blk.later hS.2.1 hb),below_later hb hS.2.2⟩
 clear hK K
 try simp only [pX]
 refine kH 9 rfl hS ?_
 try simp only [pX]
 refine tkH 10 rfl (yieldsIf_load_mid (by rfl) 27 (.tmp 15) rfl b0 (off0+ib*4) (by rw [← hib];rfl) _ _ (fun w hs j v hv=>cell_later hs.2.2 (Q2.out j v hv)) Tryz.underlying27 rfl (by kernel_rfl)) hS ?_
 try simp only [pX]
 refine rH 11 rfl (fun K hK=>?_)
 go_simp
 refine (RN.out _ (HW.out.fut hS.2.2).all (HB.out.fut hS.2.2).all (HS1.out.fut hS.2.2).all (HS2.out.fut hS.2.2).all).mono ?_;rintro e w6 ⟨D3,m3,c3,rfl,hs3,hb⟩;have q5:=BR5.out.lt;have S3:=zH hs3;have BR6:=zH (BR5.out.later hb);clear hs3
 refine hK.out _ _ ?_ (fun hS=>?_)
 ·exact ⟨(by first|exact cell_later hb hS.1|exact Blk.later hS.1 hb),(by first|exact cell_later hb hS.2.1|exact Blk.later hS.2.1 hb),below_later hb hS.2.2⟩
 clear hK K
 try simp only [pX]
 refine kH 12 rfl hS ?_
 try simp only [pX]
 refine kH 13 rfl hS ?_
 try simp only [pX]
 refine rH 14 rfl (fun K hK=>?_)
 (rw [if_pos (by rfl)];refine oper_store_blk 27 (.tmp 4) (.tmp 18) rfl w1.heap.size 0 #[.int .i64 x.h,.int .i64 x.v,.int .i64 x.c,.slice D3 m3 c3] rfl rfl _ #[.int .i64 0,.int .i64 0,.int .i64 0,.slice none 0 0] #[.int .i64 x.h,.int .i64 x.v,.int .i64 x.c,.slice D3 m3 c3] BR6.out (by simp) (by kernel_rfl) (by simp [Value.oneCell']) rfl ?_;intro w7 BR7 g7;have S7:=zH (S3.out.keep fun b hb=>g7.block b hb.2 (fun e=>by have:=Option.some.inj e;have:=hb.1;omega));have z7:=g7.size;have BN7:=hS.2.1.away g7 (by omega);refine hK.out _ _ ⟨BN7.cell 1,BN7,hS.2.2.grown g7 hS.2.2.size (fun k h=>by have:=Option.some.inj h;omega)⟩ (fun hS=>?_))
 clear hK K
 try simp only [pX]
 refine kH 15 rfl hS ?_
 try simp only [pX]
 refine wpAnyH_done (by kernel_rfl) ?_ _
 have FZ:=hS.2.2
 go_wp2_with fail
 refine ret_cell_tmp rfl BR7 rfl Tryz.underlying27 (by kernel_rfl) rfl ⟨D3,m3,c3,rfl,S7.out.more fun b hb=>⟨by have:=hb.1;omega,by have:=hb.2;omega⟩,FZ⟩
end Go.Proofs.YtjkmjpjknmghlaaGreat
