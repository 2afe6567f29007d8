/-
  Tensors in a row; tensor.Of of a tensor that is right; a value made out of those before (layers 5, 27: graph.values.more).
  All values of a block's nodes (layer 27: graph.Values), and the last one (graph.Eval).
  A node that nobody takes, ahead of the others (layer 27: the law GraphIdle), as plain lists.
  The value that goes out (layer 27: graph.Eval).
  A tensor of a row under way: its numbers lie where the row's elements may lie, not in the row's own block (for the document's Values).
  What a node makes (layer 26): the document's Node.
  The document's values of a block's nodes (layer 27).
  All values are made, and the last goes out (the walk of the law GraphValues).
  THE STATEMENT GraphValues: for every input the law returns true, and each argument reads behind the call as it did before.
  Conditions: none but the given row's own.
-/
import Derived.Test.YtjkmjpjknmghlaaGreatJ47
import Derived.Test.YtjkmjpjknmghlaaGreatJ48
import Derived.Test.YtjkmjpjknmghlaaGreatRows
set_option linter.unusedVariables false
set_option linter.unusedSimpArgs false
namespace Go.Proofs.YtjkmjpjknmghlaaGreat
open Go.RowKit Go.ChangeShapes Go.WideShapes
set_option maxRecDepth 100000
set_option maxHeartbeats 4000000
theorem topen {w:World} {S:Nat → Prop} {cs:List Value} {t:Tensor} (h:tTensor.rep w S cs t) :
  ∃ A n cap,cs=[.int .i64 t.h,.int .i64 t.v,.int .i64 t.c,.slice A n cap]∧TensorIn t∧Sl (tInt .i8) w S A n cap t.data:=by
 obtain ⟨⟨⟨a,b,c⟩,l⟩,rfl,_,_,rfl,⟨_,_,rfl,⟨rfl,h1⟩,_,_,rfl,⟨rfl,h2⟩,rfl,h3⟩,hs⟩:=h
 obtain ⟨A,cap,rfl,hs'⟩:=tSlice_iff.1 hs
 exact ⟨A,_,cap,rfl,⟨h1,h2,h3⟩,hs'⟩
theorem tTensor_size:tTensor.size=4:=rfl
theorem Sl.tensor_at {w:World} {S:Nat → Prop} {A:Option Addr} {n cap:Nat} {l:List Tensor} (h:Sl tTensor w S A n cap l) (i:Nat) (hi:i < n) :
  ∃ t b off D m c,l[i]?=some t∧A=some ⟨b,off,none⟩∧S b∧b < w.heap.size∧TensorIn t∧Sl (tInt .i8) w S D m c t.data∧w.rangeAt b (off+i*4) [.int .i64 t.h,.int .i64 t.v,.int .i64 t.c,.slice D m c]:=by
 obtain ⟨t,b,off,xs,hx,hA,hS,hb,hr,hl,hc⟩:=h.cells i hi (by decide)
 obtain ⟨D,m,c,rfl,ht,h1⟩:=topen hr
 rw [tTensor_size] at hc
 exact ⟨t,b,off,D,m,c,hx,hA,hS,hb,ht,h1,fun j v hv=>by have:=hc j v hv;rwa [← Nat.add_assoc] at this⟩
theorem ei_tens:EI Tryz.prog 30 27 (.agg (tN 0 0 0 none 0 0)) 4 48:=⟨Tryz.underlying30,by kernel_rfl,rfl,by decide⟩
theorem ei_vals:EI Tryz.prog 54 27 (.agg (tN 0 0 0 none 0 0)) 4 48:=⟨Tryz.underlying54,by kernel_rfl,rfl,by decide⟩
theorem trep {w:World} {S:Nat → Prop} {t:Tensor} {A:Option Addr} {n c:Nat} (h:TensorIn t) (hs:Sl (tInt .i8) w S A n c t.data):tTensor.rep w S [.int .i64 t.h,.int .i64 t.v,.int .i64 t.c,.slice A n c] t :=
 ⟨((t.h,t.v,t.c),t.data),rfl,_,_,rfl,⟨_,_,rfl,⟨rfl,h.h⟩,_,_,rfl,⟨rfl,h.v⟩,rfl,h.c⟩,hs.rep⟩
theorem tensorOf_any (t:Tensor) (A:Option Addr) (n cap:Nat) (w:World) (hok:t.ok=true) (ha:Sl (tInt .i8) w (blo w.heap.size) A n cap t.data) (hn:n≤140737488351232) :
  Calls Tryz.prog 15 #[.agg (sN t.h t.v t.c),.slice A n cap] w (RetT .i8 t 0 w):=by
 have ht:=ok_in hok
 have RA:=zH (fun w=>tensorRight_any t.h t.v t.c A n cap w ht.h ht.v ht.c (Nat.le_trans ha.cap_le ha.max_le))
 have c1':decide (0 < elems t.h t.v t.c∧elems t.h t.v t.c=n)=true:=by rw [← ha.n_eq];exact hok
 rw [c1'] at RA
 have HA:=zH (Old.now ha)
 have FR:=zH (Far.refl w)
 obtain ⟨w1,hw_w1,BA,k_w1⟩:=nB w (sN t.h t.v t.c) 24
 replace FR:=zH (FR.out.fut k_w1)
 replace HA:=zH (HA.out.fut k_w1)
 clear k_w1
 obtain ⟨w2,hw_w2,BR,k_w2⟩:=nB w1 (tN 0 0 0 none 0 0) 27
 replace FR:=zH (FR.out.fut k_w2)
 replace HA:=zH (HA.out.fut k_w2)
 replace BA:=zH (BA.out.fut k_w2)
 clear k_w2
 have l1:w.heap.size < w1.heap.size:=by rw [← hw_w1];simp
 have l2:w1.heap.size < w2.heap.size:=by rw [← hw_w2];simp
 clear ha hok ht c1'
 go_enter Tryz.func15,Tryz.ntmps15
 go_wp2_with (refine lB 24 (.tmp 2) w.heap.size BA.out Tryz.underlying24 ?_)
 clear hw_w1 hw_w2
 refine (RA.out _).mono ?_
 rintro e w3 ⟨rfl,hb⟩
 replace FR:=zH (FR.out.fut hb)
 replace HA:=zH (HA.out.fut hb)
 replace BA:=zH (BA.out.fut hb)
 replace BR:=zH (BR.out.fut hb)
 clear hb
 go_wp2_with fail
 refine wp_region_held_drew (S:=fun w'=>Blk w' w.heap.size 24 (sN t.h t.v t.c)∧Below w.heap.size w w') (by kernel_rfl) ?_ (fun hS=>?_)
 ·exact ⟨BA.out.drew,FR.out.out.drew⟩
 refine tkH 0 rfl (yieldsIf_load_blk (by rfl) 24 (.tmp 2) rfl w.heap.size 0 rfl _ _ (sN t.h t.v t.c) _ (fun w hs=>hs.1) Tryz.underlying24 rfl (by kernel_rfl) rfl) hS ?_
 try simp only [pX]
 refine kH 1 rfl hS ?_
 try simp only [pX]
 refine rH 2 rfl (fun K hK=>?_)
 go_simp
 refine (clone8_any A n cap t.data _ (HA.out.draw.all) hn).mono ?_;rintro e w4 ⟨D,m,c,rfl,hs,hb⟩;have SD:=zH (New.of hs ((Far.refl w3).draw));have BR4:=zH (BR.out.drew.later hb);clear hs
 refine hK.out _ _ ?_ (fun hS=>?_)
 ·exact ⟨(by first|exact cell_later hb hS.1|exact Blk.later hS.1 hb),below_later hb hS.2⟩
 clear hK K
 try simp only [pX]
 refine kH 3 rfl hS ?_
 try simp only [pX]
 refine rH 4 rfl (fun K hK=>?_)
 (rw [if_pos (by rfl)];refine oper_store_blk 27 (.tmp 4) (.tmp 15) rfl w1.heap.size 0 (tN t.h t.v t.c D m c) rfl rfl _ (tN 0 0 0 none 0 0) (tN t.h t.v t.c D m c) BR4.out (by simp) (by kernel_rfl) (by simp [Value.oneCell']) rfl ?_;intro w7 BR7 g7;have lq:=BR.out.lt;have SD7:=zH (SD.out.away g7 lq);have BA7:=hS.1.away g7 (by omega);refine hK.out _ _ ⟨BA7,hS.2.grown g7 hS.2.size (fun k h=>by have:=Option.some.inj h;omega)⟩ (fun hS=>?_))
 clear hK K
 try simp only [pX]
 refine kH 5 rfl hS ?_
 try simp only [pX]
 refine wpAnyH_done (by kernel_rfl) ?_ _
 have FZ:=hS.2
 go_wp2_with fail
 refine rC BR7 Tryz.underlying27 ?_;exact ⟨D,m,c,rfl,SD7.out.since FR.out,FZ⟩
theorem gmore_any (d:Node) (W:Option Addr) (nw cw:Nat) (B:Option Addr) (nb cb:Nat) (A:Option Addr) (n cap:Nat) (l:List Tensor) (w:World) (hd:NodeIn d) (hw:Sl (tInt .i8) w (blo w.heap.size) W nw cw d.w) (hb:Sl (tInt .i32) w (blo w.heap.size) B nb cb d.bias) (mw:nw≤2000∧nb≤200) (hs:Sl tTensor w (blo w.heap.size) A n cap l) (hth:thereV d n=true) :
  Calls Tryz.prog 16 #[.slice A n cap,.agg (nN d.kind d.a d.b d.k d.s d.p d.out d.za d.zb W nw cw B nb cb d.qm d.qs d.qz d.rm d.rs d.rz d.lo d.hi)] w (RetT .i8 (moreV d l).1 (moreV d l).2 w):=by
 have hm:n≤9223372036854775807:=Nat.le_trans hs.cap_le hs.max_le
 obtain ⟨p1,p2,p3,p4⟩:=there_bd hth
 obtain ⟨ia,hia⟩:∃ ia,d.a.toNat=ia:=⟨_,rfl⟩
 obtain ⟨ib,hib⟩:∃ ib,(secondV d).toNat=ib:=⟨_,rfl⟩
 obtain ⟨t,b0,off0,D,m,c,x1,rfl,_,_,k1,s1,q1⟩:=hs.tensor_at ia (by omega)
 obtain ⟨u,b0',off0',D',m',c',x2,e0,_,_,k2,s2,q2⟩:=hs.tensor_at ib (by omega)
 obtain ⟨rfl,rfl⟩:b0=b0'∧off0=off0':=by simpa using e0
 have MV:moreV d l=nodeQ d t u:=by
  unfold moreV
  rw [hia,hib,List.getD_eq_getElem?_getD,List.getD_eq_getElem?_getD,x1,x2];rfl
 rw [MV]
 have OF:=zH (fun w=>of_any d W nw cw B nb cb w hd.a hd.b)
 have RN:=zH (fun w hw hbi ha hbs=>runNode_any d W nw cw B nb cb t u D D' m c m' c' w k1 k2 hd hw hbi ha hbs mw)
 obtain ⟨⟨x,k⟩,hx⟩:∃ q,nodeQ d t u=q:=⟨_,rfl⟩
 rw [hx] at RN ⊢
 obtain ⟨sc,hsc⟩:∃ s,secondV d=s:=⟨_,rfl⟩
 rw [hsc] at p3 p4 OF hib
 have Q1:=zH q1
 have Q2:=zH q2
 have HW:=zH (Old.now hw)
 have HB:=zH (Old.now hb)
 have HS1:=zH (Old.now s1)
 have HS2:=zH (Old.now s2)
 have FR:=zH (Far.refl w)
 obtain ⟨w1,hw_w1,BN,k_w1⟩:=nB w (nN d.kind d.a d.b d.k d.s d.p d.out d.za d.zb W nw cw B nb cb d.qm d.qs d.qz d.rm d.rs d.rz d.lo d.hi) 44
 replace FR:=zH (FR.out.fut k_w1)
 clear k_w1
 obtain ⟨w2,hw_w2,BR,k_w2⟩:=nB w1 (tN 0 0 0 none 0 0) 27
 replace FR:=zH (FR.out.fut k_w2)
 replace BN:=zH (BN.out.fut k_w2)
 clear k_w2
 have l1:w.heap.size < w1.heap.size:=by rw [← hw_w1];simp
 have l2:w1.heap.size < w2.heap.size:=by rw [← hw_w2];simp
 clear hw hb hs s1 s2 q1 q2 e0 x1 x2 MV hx hsc hth k1 k2
 go_enter Tryz.func16,Tryz.ntmps16
 go_wp2_with fail
 clear hw_w1 hw_w2
 refine wp_region_held_drew (S:=fun w'=>w'.cell? ⟨w.heap.size,1,none⟩=some (.int .i64 d.a)∧Blk w' w.heap.size 44 (nN d.kind d.a d.b d.k d.s d.p d.out d.za d.zb W nw cw B nb cb d.qm d.qs d.qz d.rm d.rs d.rz d.lo d.hi)∧Below w.heap.size w w') (by kernel_rfl) ?_ (fun hS=>?_)
 ·exact ⟨BN.out.drew.cell 1,BN.out.drew,FR.out.out.drew⟩
 refine tkH 0 rfl (yieldsIf_load_blk (by rfl) 44 (.tmp 3) rfl w.heap.size 0 rfl _ _ (nN d.kind d.a d.b d.k d.s d.p d.out d.za d.zb W nw cw B nb cb d.qm d.qs d.qz d.rm d.rs d.rz d.lo d.hi) _ (fun w hs=>hs.2.1) Tryz.underlying44 rfl (by kernel_rfl) rfl) hS ?_
 try simp only [pX]
 refine kH 1 rfl hS ?_
 try simp only [pX]
 refine kH 2 rfl hS ?_
 try simp only [pX]
 refine kH 3 rfl hS ?_
 try simp only [pX]
 refine kH 4 rfl hS ?_
 try simp only [pX]
 refine tkH 5 rfl (yieldsIf_load_mid (by rfl) 27 (.tmp 10) rfl b0 (off0+ia*4) (by rw [← hia];rfl) _ _ (fun w hs j v hv=>cell_later hs.2.2 (Q1.out j v hv)) Tryz.underlying27 rfl (by kernel_rfl)) hS ?_
 try simp only [pX]
 refine kH 6 rfl hS ?_
 try simp only [pX]
 refine tkH 7 rfl (yieldsIf_load_blk (by rfl) 44 (.tmp 3) rfl w.heap.size 0 rfl _ _ (nN d.kind d.a d.b d.k d.s d.p d.out d.za d.zb W nw cw B nb cb d.qm d.qs d.qz d.rm d.rs d.rz d.lo d.hi) _ (fun w hs=>hs.2.1) Tryz.underlying44 rfl (by kernel_rfl) rfl) hS ?_
 try simp only [pX]
 refine rH 8 rfl (fun K hK=>?_)
 go_simp
 refine (OF.out _).mono ?_;rintro e w5 ⟨rfl,hb⟩;have BR5:=zH (BR.out.drew.later hb)
 refine hK.out _ _ ?_ (fun hS=>?_)
 ·exact ⟨(by first|exact cell_later hb hS.1|exact Blk.later hS.1 hb),(by first|exact cell_later hb hS.2.1|exact Blk.later hS.2.1 hb),below_later hb hS.2.2⟩
 clear hK K
 try simp only [pX]
 refine kH 9 rfl hS ?_
 try simp only [pX]
 refine tkH 10 rfl (yieldsIf_load_mid (by rfl) 27 (.tmp 15) rfl b0 (off0+ib*4) (by rw [← hib];rfl) _ _ (fun w hs j v hv=>cell_later hs.2.2 (Q2.out j v hv)) Tryz.underlying27 rfl (by kernel_rfl)) hS ?_
 try simp only [pX]
 refine rH 11 rfl (fun K hK=>?_)
 go_simp
 refine (RN.out _ (HW.out.fut hS.2.2).all (HB.out.fut hS.2.2).all (HS1.out.fut hS.2.2).all (HS2.out.fut hS.2.2).all).mono ?_;rintro e w6 ⟨D3,m3,c3,rfl,hs3,hb⟩;have q5:=BR5.out.lt;have S3:=zH hs3;have BR6:=zH (BR5.out.later hb);clear hs3
 refine hK.out _ _ ?_ (fun hS=>?_)
 ·exact ⟨(by first|exact cell_later hb hS.1|exact Blk.later hS.1 hb),(by first|exact cell_later hb hS.2.1|exact Blk.later hS.2.1 hb),below_later hb hS.2.2⟩
 clear hK K
 try simp only [pX]
 refine kH 12 rfl hS ?_
 try simp only [pX]
 refine kH 13 rfl hS ?_
 try simp only [pX]
 refine rH 14 rfl (fun K hK=>?_)
 (rw [if_pos (by rfl)];refine oper_store_blk 27 (.tmp 4) (.tmp 18) rfl w1.heap.size 0 (tN x.h x.v x.c D3 m3 c3) rfl rfl _ (tN 0 0 0 none 0 0) (tN x.h x.v x.c D3 m3 c3) BR6.out (by simp) (by kernel_rfl) (by simp [Value.oneCell']) rfl ?_;intro w7 BR7 g7;have S7:=zH (S3.out.keep fun b hb=>g7.block b hb.2 (fun e=>by have:=Option.some.inj e;have:=hb.1;omega));have z7:=g7.size;have BN7:=hS.2.1.away g7 (by omega);refine hK.out _ _ ⟨BN7.cell 1,BN7,hS.2.2.grown g7 hS.2.2.size (fun k h=>by have:=Option.some.inj h;omega)⟩ (fun hS=>?_))
 clear hK K
 try simp only [pX]
 refine kH 15 rfl hS ?_
 try simp only [pX]
 refine wpAnyH_done (by kernel_rfl) ?_ _
 have FZ:=hS.2.2
 go_wp2_with fail
 refine rC BR7 Tryz.underlying27 ?_;exact ⟨D3,m3,c3,rfl,S7.out.more fun b hb=>⟨by have:=hb.1;omega,by have:=hb.2;omega⟩,FZ⟩
set_option maxHeartbeats 16000000
def RetVals (x:List Tensor × Int × Int) (w:World) (e:Ending) (w':World):Prop :=
 ∃ A m cap,e=.returned (.tuple #[.slice A m cap,.int .i64 x.2.1,.int .i64 x.2.2])∧Sl tTensor w' (bin w.heap.size w'.heap.size) A m cap x.1∧Below w.heap.size w w'
theorem RetVals.none {i e:Int} {w w':World} (hb:Below w.heap.size w w'):RetVals ([],i,e) w (.returned (.tuple #[.slice none 0 0,.int .i64 i,.int .i64 e])) w' :=
 ⟨Option.none,0,0,rfl,Sl.nil _ _ _,hb⟩
theorem Own.wide {α:Type} {t:Ty α} {w:World} {S S':Nat → Prop} {base:Nat} {E:TypeId} {v:Value} {n:Nat} {l:List α} (h:Own t w S base E v n l) (hk:∀ b,S b → S' b):Own t w S' base E v n l :=
 let ⟨vs,h1,h2⟩:=h.out;⟨vs,h1,h2.more hk⟩
theorem values_any (A:Option Addr) (n cap:Nat) (l:List Node) (x:Tensor) (D:Option Addr) (m cm:Nat) (w:World) (hs:Sl tNode w (blo w.heap.size) A n cap l) (hx:TensorIn x) (hd:Sl (tInt .i8) w (blo w.heap.size) D m cm x.data) (h300:m≤300) (hf:∀ d ∈ l,d.w.length≤1000∧d.bias.length≤100) :
  Calls Tryz.prog 7 #[.slice A n cap,.agg (tN x.h x.v x.c D m cm)] w (RetVals (valuesV l x) w):=by
 have hn:=hs.n_eq
 obtain ⟨r,hr⟩:∃ r,valuesV l x=r:=⟨_,rfl⟩
 rw [hr]
 unfold valuesV at hr
 rw [hn] at hr
 have VV:=zH hr.symm
 have RA:=zH (fun w=>tensorRight_any x.h x.v x.c D m cm w hx.h hx.v hx.c (Nat.le_trans hd.cap_le hd.max_le))
 have c1':decide (0 < elems x.h x.v x.c∧elems x.h x.v x.c=m)=x.ok:=by unfold Tensor.ok;rw [hd.n_eq]
 rw [c1'] at RA
 have SP:=zH (fun w hs=>shapes_any A n cap l x.h x.v x.c w hs hx.h hx.v hx.c hf)
 have TH:=zH (shapes_there (l:=l) (s:=(x.h,x.v,x.c)))
 have TO:=zH (fun w hok ha=>tensorOf_any x D m cm w hok ha (by omega))
 obtain ⟨⟨sh,at_,code⟩,hsh⟩:∃ s,shapesV l (x.h,x.v,x.c)=s:=⟨_,rfl⟩
 rw [hsh] at SP TH VV
 simp only at TH VV
 have H:=zH hs
 have HO:=zH (Old.now hs)
 have HD:=zH (Old.now hd)
 have HX:=zH hx
 have HF:=zH hf
 have hmax:n≤9223372036854775807:=Nat.le_trans hs.cap_le hs.max_le
 clear hr hs hd hf hx hsh c1' hn
 have FR:=zH (Far.refl w)
 obtain ⟨w1,hw_w1,BA,k_w1⟩:=nB w (tN x.h x.v x.c D m cm) 27
 replace FR:=zH (FR.out.fut k_w1)
 clear k_w1
 have l1:w.heap.size < w1.heap.size:=by rw [← hw_w1];simp
 obtain ⟨ok,hok⟩:∃ b,x.ok=b:=⟨_,rfl⟩
 rw [hok] at RA VV TO
 have OK:=zH hok
 clear hok
 cases ok
 case false =>
  have R:=zH (show r=([],-1,5) by rw [VV.out,if_pos rfl])
  clear VV
  go_enter Tryz.func7,Tryz.ntmps7
  go_wp2_with (refine lB 27 (.tmp 3) w.heap.size BA.out Tryz.underlying27 ?_)
  clear hw_w1
  refine (RA.out _).mono ?_
  rintro e w2 ⟨rfl,hb⟩
  replace FR:=zH (FR.out.fut hb)
  replace BA:=zH (BA.out.fut hb)
  clear hb
  go_wp2_with fail
  go_ret3
  rw [R.out]
  exact RetVals.none FR.out.out
 rw [if_neg (by decide)] at VV
 by_cases c2:code=0
 rotate_left
 ·have t2:(code != 0)=true:=by simpa using c2
  have R:=zH (show r=([],at_,code) by rw [VV.out,if_pos c2])
  clear c2 VV
  go_enter Tryz.func7,Tryz.ntmps7
  go_wp2_with (refine lB 27 (.tmp 3) w.heap.size BA.out Tryz.underlying27 ?_)
  clear hw_w1
  refine (RA.out _).mono ?_
  rintro e w2 ⟨rfl,hb⟩
  replace FR:=zH (FR.out.fut hb)
  replace BA:=zH (BA.out.fut hb)
  clear hb
  go_wp2_with (refine wpList_load_blk rfl 24 (.tmp 23) rfl w.heap.size 0 rfl _ (tN x.h x.v x.c D m cm) (sN x.h x.v x.c) _ BA.out Tryz.underlying24 rfl (by kernel_rfl) rfl ?_)
  refine (SP.out _ (HO.out.fut FR.out.out).all).mono ?_
  rintro e w3 ⟨B1,m1,c1,rfl,-,hb⟩
  replace FR:=zH (FR.out.fut hb)
  replace BA:=zH (BA.out.fut hb)
  clear hb
  simp only
  go_wp2_with fail
  go_ret3
  rw [R.out]
  exact RetVals.none FR.out.out
 subst c2
 obtain ⟨hn8,hn0,hth⟩:=TH.out rfl
 have t2:((0:Int) != 0)=false:=rfl
 have THR:=zH hth
 have V2:=zH (show r=endV27 n (runV l x n) by rw [VV.out,if_neg (by decide)])
 rw [show l.length=n from H.out.n_eq] at hn8 hn0
 clear VV TH hth
 go_enter Tryz.func7,Tryz.ntmps7
 go_wp2_with (refine lB 27 (.tmp 3) w.heap.size BA.out Tryz.underlying27 ?_)
 clear hw_w1
 refine (RA.out _).mono ?_
 rintro e w2 ⟨rfl,hb⟩
 replace FR:=zH (FR.out.fut hb)
 replace BA:=zH (BA.out.fut hb)
 clear hb
 go_wp2_with (refine wpList_load_blk rfl 24 (.tmp 23) rfl w.heap.size 0 rfl _ (tN x.h x.v x.c D m cm) (sN x.h x.v x.c) _ BA.out Tryz.underlying24 rfl (by kernel_rfl) rfl ?_)
 refine (SP.out _ (HO.out.fut FR.out.out).all).mono ?_
 rintro e w3 ⟨B1,m1,c1,rfl,-,hb⟩
 replace FR:=zH (FR.out.fut hb)
 replace BA:=zH (BA.out.fut hb)
 clear hb
 simp only
 have a3:=BA.out.cell 3
 simp only [gX] at a3
 clear RA SP
 go_wp2_with (refine wpList_load_blk rfl 24 (.tmp 34) rfl w.heap.size 0 rfl _ (tN x.h x.v x.c D m cm) (sN x.h x.v x.c) _ BA.out Tryz.underlying24 rfl (by kernel_rfl) rfl ?_)
 refine (TO.out _ (by trivial) (HD.out.fut FR.out.out).all).mono ?_
 rintro e w4 ⟨D4,m4,c4,rfl,s4,hb⟩
 have S4:=zH (New.of s4 FR.out)
 clear s4 a3 TO
 replace FR:=zH (FR.out.fut hb)
 replace BA:=zH (BA.out.fut hb)
 clear hb
 obtain ⟨w5,hw_w5,BX,k_w5⟩:=nB w4 (tN x.h x.v x.c D4 m4 c4) 27
 replace FR:=zH (FR.out.fut k_w5)
 replace BA:=zH (BA.out.fut k_w5)
 replace S4:=zH (S4.out.fut k_w5)
 clear k_w5
 go_wp2_with (first
  | (refine wpList_load_blk rfl 27 (.tmp 10) rfl w4.heap.size 0 rfl _ _ (tN x.h x.v x.c D4 m4 c4) _ BX.out Tryz.underlying27 rfl (by kernel_rfl) rfl ?_)
  | (refine wpList_lit1 rfl (.tmp 41) rfl ei_vals (tN x.h x.v x.c D4 m4 c4) rfl rfl (by decide) ?_))
 have z5:=FR.out.size
 go_loopw [12,45] (fun u i wr=>∃ (k:Nat) (out:List Tensor) (S:Nat → Prop),k≤n∧i=.int .i64 k∧runV l x k=.on out∧Own tTensor wr S w.heap.size 27 u (k+1) out∧(∀ b,S b → bin w.heap.size wr.heap.size b∧some b ≠ u.ownBlock)∧Below w.heap.size w wr) (fun _ i _=>n - (intOf i).toNat)
 case atStart =>
  refine ⟨0,[x],bin w.heap.size w5.heap.size,Nat.zero_le _,rfl,rfl,Own.one z5 (trep HX.out ?_),fun b hb=>⟨⟨hb.1,by have:=hb.2;simp;omega⟩,by simp [Value.ownBlock];have:=hb.2;omega⟩,FR.out.out.alloc z5 _⟩
  exact S4.out.out.keep fun b hb=>by rw [heap_alloc_get,if_neg (by have:=hb.2;omega)]
 case round =>
  clear FR BA BX z5 S4 hw_w5
  obtain ⟨k,out,S,hk,rfl,hrun,hown,hSS,hb⟩:=hrel
  have HB:=zH hb
  have ON:=zH hown
  have HR:=zH hrun
  have SS:=zH hSS
  obtain ⟨A1,c1,rfl,sl⟩:=hown.sl (S':=bin w.heap.size wr.heap.size) (by decide) (fun b h1 h2=>⟨h1,h2⟩) (fun b h=>(hSS b h).1)
  have SL:=zH sl
  clear hb hown hrun sl hSS
  by_cases hlt:k < n
  ·have p1:(k:Int) < (n:Int):=by omega
   obtain ⟨d,b0,off,W,nw,cw,B,nb,cb,hd,rfl,_,_,hin,hw8,hw32,hrg⟩:=(H.out.below HB.out (fun _ h=>h)).node_at k hlt
   have hsz:=HF.out d (List.mem_of_getElem? hd)
   have hnx:=runV_next HR.out hd
   have q8:=hw8.n_eq
   have q32:=hw32.n_eq
   have TK:=zH (THR.out k d hd)
   have RG:=zH hrg
   have HIN:=zH hin
   have HW:=zH (hw8.more (blo_more HB.out.size))
   have HW32:=zH (hw32.more (blo_more HB.out.size))
   have NG:=zH (moreV_ok (d:=d) (l:=out))
   obtain ⟨⟨y,ye⟩,hy⟩:∃ q,moreV d out=q:=⟨_,rfl⟩
   rw [hy] at hnx NG
   simp only at hnx NG
   have NX:=zH hnx
   have HY:=zH hy
   clear hd hin hw8 hw32 hrg hnx hy
   have zr:=HB.out.size
   go_wp2_with (first
    | (refine wpList_load_mid rfl 44 (.tmp 48) rfl b0 (off+k*19) rfl _ _ RG.out Tryz.underlying44 rfl (by kernel_rfl) ?_)
    | (refine sB 44 (.tmp 15) (.tmp 49) wr.heap.size (nN d.kind d.a d.b d.k d.s d.p d.out d.za d.zb W nw cw B nb cb d.qm d.qs d.qz d.rm d.rs d.rz d.lo d.hi) (Blk.now _ _ _ _ rfl) ?_;intro w7 B7 g7;have G7:=zH (show Below wr.heap.size wr w7 from ((Below.refl _ _).alloc (Nat.le_refl _) _).grown g7 (by simp) (fun k h=>by have:=Option.some.inj h;omega));have BD:=zH B7;clear B7 g7)
    | (refine lB 44 (.tmp 15) wr.heap.size BD.out Tryz.underlying44 ?_))
   have z7:=G7.out.size
   refine (gmore_any d W nw cw B nb cb A1 (k+1) c1 out w7 HIN.out (HW.out.later G7.out (Nat.le_refl _)) (HW32.out.later G7.out (Nat.le_refl _)) (by omega) ((SL.out.more bin_blo).later G7.out (Nat.le_refl _)) TK.out).mono ?_
   rw [HY.out]
   rintro e w8 ⟨D8,m8,c8,rfl,s8,hb⟩
   have S8:=zH (New.of s8 (Far.mk (below_later G7.out HB.out)))
   have G8:=zH (below_later hb G7.out)
   have O8:=zH ((ON.out.below G7.out (Nat.le_refl _) (fun b h=>(SS.out b h).1.2)).below hb (Nat.le_refl _) (fun b h=>Nat.lt_of_lt_of_le (SS.out b h).1.2 z7))
   have OL:=zH ON.out.lt
   have z8:=hb.size
   have y8:=s8
   have Y8:=zH (show ∀ b,bin w7.heap.size w8.heap.size b → wr.heap.size≤b from fun b h=>by have:=h.1;omega)
   have S9:=zH y8
   clear hb HY s8 y8
   obtain ⟨w9,hw_w9,BX,k_w9⟩:=nB w8 (tN y.h y.v y.c D8 m8 c8) 27
   replace S8:=zH (S8.out.fut k_w9)
   clear k_w9
   have k9:Below w8.heap.size w8 w9:=by rw [← hw_w9];exact (Below.refl _ _).alloc (Nat.le_refl _) _
   have z9:=k9.size
   have F9:=zH (below_later k9 (below_later G8.out HB.out))
   have O9:=zH (O8.out.below k9 (Nat.le_refl _) (fun b h=>Nat.lt_of_lt_of_le (SS.out b h).1.2 (by omega)))
   have T9:=zH (S9.out.below k9 (fun b h=>h.2))
   by_cases hye:ye=0
   ·subst hye
    have t4:((0:Int) != 0)=false:=rfl
    have YI:=zH (ok_in (NG.out rfl))
    rw [if_neg (by decide)] at NX
    clear NG
    go_wp2_with (first
     | (refine wpList_load_blk rfl 27 (.tmp 16) rfl w8.heap.size 0 rfl _ _ (tN y.h y.v y.c D8 m8 c8) _ BX.out Tryz.underlying27 rfl (by kernel_rfl) rfl ?_)
     | (refine wpList_lit1 rfl (.tmp 62) rfl ei_vals (tN y.h y.v y.c D8 m8 c8) rfl rfl (by decide) ?_)
     | (at_builtin;refine wpList_push (W:=w9) (cs:=(tN y.h y.v y.c D8 m8 c8)) (E:=27) (t:=tTensor) (S:=fun b=>S b ∨ bin w7.heap.size w8.heap.size b) (base:=w.heap.size) rfl (.tmp 61) (.tmp 63) rfl ei_vals rfl (O9.out.wide fun b h=>.inl h) 1 rfl y (trep YI.out (T9.out.more fun b h=>.inr h)) (by unfold maxLen;omega) (by omega) F9.out.size (fun b h=>(by rcases h with h|h;exact ⟨Nat.lt_of_lt_of_le (SS.out b h).1.2 (by omega),(SS.out b h).2⟩;exact ⟨Nat.lt_of_lt_of_le h.2 z9,fun e=>absurd (OL.out b e.symm).2 (Nat.not_lt.2 (Y8.out b h))⟩)) ?_;intro v' wz ownz gz atz))
    have bz:=F9.out.grown gz F9.out.size (fun j hj=>(OL.out j hj).1)
    refine ⟨⟨k+1,out ++ [y],_,by omega,by go_num,NX.out,ownz,fun b h=>?_,bz⟩,by simp [intOf];omega⟩
    have q:(w.heap.size≤b∧b < w9.heap.size)∧some b ≠ (Value.slice A1 (k+1) c1).ownBlock:=by
     rcases h with h|h
     ·exact ⟨⟨(SS.out b h).1.1,Nat.lt_of_lt_of_le (SS.out b h).1.2 (by omega)⟩,(SS.out b h).2⟩
     ·have:=Y8.out b h
      exact ⟨⟨by have:=HB.out.size;omega,Nat.lt_of_lt_of_le h.2 z9⟩,fun e=>absurd (OL.out b e.symm).2 (by omega)⟩
    refine ⟨⟨q.1.1,Nat.lt_of_lt_of_le q.1.2 gz.size⟩,fun e=>?_⟩
    rcases atz with a|a <;> rw [a] at e
    ·exact q.2 e
    ·have:=Option.some.inj e;have:=q.1.2;omega
   ·have t4:(ye != 0)=true:=by simpa using hye
    rw [if_pos hye] at NX
    have R:=zH (show r=([],(k:Int),ye) by rw [V2.out,runV_bad NX.out n (by omega)];rfl)
    clear hye NG NX V2
    go_wp2_with fail
    go_ret3
    rw [R.out]
    exact RetVals.none F9.out
  ·obtain rfl:k=n:=by omega
   have R:=zH (show r=(out,(k:Int),0) by rw [V2.out,HR.out];rfl)
   clear hlt hk V2
   go_wp2_with fail
   go_ret3
   rw [R.out]
   exact ⟨A1,_,c1,rfl,SL.out,HB.out⟩
def evalV (l:List Node) (x:Tensor):Tensor × Int × Int :=
 if (valuesV l x).2.2=0 then ((valuesV l x).1.getD ((valuesV l x).1.length - 1) noTensor,(valuesV l x).2.1,0) else (noTensor,(valuesV l x).2.1,(valuesV l x).2.2)
theorem runV_bad0 {l:List Node} {x:Tensor} {i:Nat}:∀ m,runV l x m=.bad i 0 → False
 | 0,h=>by cases (show RunV.on [x]=.bad i 0 from h)
 | m+1,h=>by
  have h:(match runV l x m with|.on out=>if (moreV (l.getD m noNode) out).2 ≠ 0 then RunV.bad m (moreV (l.getD m noNode) out).2 else .on (out ++ [(moreV (l.getD m noNode) out).1])|.bad i e=>.bad i e)=.bad i 0:=h
  cases hr:runV l x m with
  | bad j e=>rw [hr] at h;injection h with h1 h2;subst h1 h2;exact runV_bad0 m hr
  | on o =>
   rw [hr] at h
   simp only at h
   split at h
   ·rename_i q
    injection h with h1 h2
    exact q h2
   ·cases h
theorem values_ok {l:List Node} {x:Tensor} (h:(valuesV l x).2.2=0):x.ok=true∧(shapesV l (x.h,x.v,x.c)).2.2=0∧∃ out,runV l x l.length=.on out∧valuesV l x=(out,(l.length:Int),0):=by
 unfold valuesV at h ⊢
 by_cases c1:x.ok=false
 ·rw [if_pos c1] at h;cases h
 rw [if_neg c1] at h ⊢
 by_cases c2:¬ (shapesV l (x.h,x.v,x.c)).2.2=0
 ·rw [if_pos c2] at h;exact absurd h c2
 rw [if_neg c2] at h ⊢
 refine ⟨by simpa using c1,Decidable.not_not.1 c2,?_⟩
 cases hr:runV l x l.length with
 | bad i e=>rw [hr] at h;have h:e=0:=h;subst h;exact (runV_bad0 _ hr).elim
 | on o=>exact ⟨o,rfl,rfl⟩
section
variable {P:Program} {fn:Func} {R:Ending → World → Prop} {a:Act} {w:World} {p u v:Nat} {ty:TypeId} {g:Nat} {e:TypeId} {cs:Array Value} {fs:Array Field}
theorem ret_cell_tmp3 (h:fn.results=#[.cell p ty,.tmp u,.tmp v]) (hb:Blk w g e cs) (hp:a.tmps.getD p undef=.pointer (some ⟨g,0,none⟩)) (hu:P.underlying ty=some (.struct fs)) (hi:(P.info? ty).map (·.size)=some cs.size) (hd:a.defers=[])
  (hR:R (.returned (.tuple #[.agg cs,a.tmps.getD u undef,a.tmps.getD v undef])) w):bodyPost P fn R .ret a w:=by
 refine bodyPost_ret (v:=.tuple #[.agg cs,a.tmps.getD u undef,a.tmps.getD v undef]) ?_ hd hR
 have hp':a.tmps[p]?.getD undef=.pointer (some ⟨g,0,none⟩):=by simpa using hp
 simp [results,h,Sem.run_bind,hp',run_asAddr_ptr,run_loadVar_row w g e ty cs (0,0) (.struct fs) hb.heap hu rfl hi,Result.andThen]
end
def RetEv (x:Tensor × Int × Int) (w:World) (e:Ending) (w':World):Prop :=
 ∃ A n cap,e=.returned (.tuple #[.agg (tN x.1.h x.1.v x.1.c A n cap),.int .i64 x.2.1,.int .i64 x.2.2])∧Sl (tInt .i8) w' (bin w.heap.size w'.heap.size) A n cap x.1.data∧Below w.heap.size w w'
theorem runV_pos {l:List Node} {x:Tensor} {k:Nat} {out:List Tensor} (h:runV l x k=.on out):0 < out.length:=by
 cases k with
 | zero=>have h:RunV.on [x]=.on out:=h;injection h with h;rw [← h];simp
 | succ k =>
  have h:(match runV l x k with|.on out=>if (moreV (l.getD k noNode) out).2 ≠ 0 then RunV.bad k (moreV (l.getD k noNode) out).2 else .on (out ++ [(moreV (l.getD k noNode) out).1])|.bad i e=>.bad i e)=.on out:=h
  split at h
  ·split at h
   ·cases h
   ·injection h with h;rw [← h];simp
  ·cases h
theorem eval_any (A:Option Addr) (n cap:Nat) (l:List Node) (x:Tensor) (D:Option Addr) (m cm:Nat) (w:World) (hs:Sl tNode w (blo w.heap.size) A n cap l) (hx:TensorIn x) (hd:Sl (tInt .i8) w (blo w.heap.size) D m cm x.data) (h300:m≤300) (hf:∀ d ∈ l,d.w.length≤1000∧d.bias.length≤100) :
  Calls Tryz.prog 9 #[.slice A n cap,.agg (tN x.h x.v x.c D m cm)] w (RetEv (evalV l x) w):=by
 have VA:=zH (fun w hs hd=>values_any A n cap l x D m cm w hs hx hd h300 hf)
 have VO:=zH (values_ok (l:=l) (x:=x))
 obtain ⟨r,hr⟩:∃ r,evalV l x=r:=⟨_,rfl⟩
 rw [hr]
 unfold evalV at hr
 obtain ⟨⟨vl,at_,code⟩,hv⟩:∃ q,valuesV l x=q:=⟨_,rfl⟩
 have VP:=zH (show code=0 → 0 < vl.length from fun h=>by
  rw [hv] at VO
  obtain ⟨_,_,out,h1,h2⟩:=VO.out h
  injection h2 with h2 _
  rw [h2];exact runV_pos h1)
 rw [hv] at hr VA
 simp only at hr
 have VV:=zH hr.symm
 have HS:=zH (Old.now hs)
 have HD:=zH (Old.now hd)
 clear hr hs hd hf hx hv VO
 have FR:=zH (Far.refl w)
 obtain ⟨w1,hw_w1,BA,k_w1⟩:=nB w (tN x.h x.v x.c D m cm) 27
 replace FR:=zH (FR.out.fut k_w1)
 clear k_w1
 obtain ⟨w2,hw_w2,BR,k_w2⟩:=nB w1 (tN 0 0 0 none 0 0) 27
 replace FR:=zH (FR.out.fut k_w2)
 replace BA:=zH (BA.out.fut k_w2)
 clear k_w2
 have l1:w.heap.size < w1.heap.size:=by rw [← hw_w1];simp
 have l2:w1.heap.size < w2.heap.size:=by rw [← hw_w2];simp
 go_enter Tryz.func9,Tryz.ntmps9
 go_wp2_with (refine lB 27 (.tmp 3) w.heap.size BA.out Tryz.underlying27 ?_)
 clear hw_w1 hw_w2
 refine (VA.out _ (HS.out.fut FR.out.out).all (HD.out.fut FR.out.out).all).mono ?_
 rintro e w3 ⟨B1,m1,c1,rfl,s1,hb⟩
 simp only at s1 ⊢
 have q3:=hb.size
 have S1:=zH s1
 clear s1 VA
 replace FR:=zH (FR.out.fut hb)
 replace BA:=zH (BA.out.fut hb)
 replace BR:=zH (BR.out.fut hb)
 clear hb
 by_cases c0:code=0
 rotate_left
 ·have t4:(code != 0)=true:=by simpa using c0
  have R:=zH (show r=(noTensor,at_,code) by rw [VV.out,if_neg c0])
  clear c0 VV VP
  go_wp2_with (refine sB 27 (.tmp 4) (.tmp 19) w1.heap.size (tN 0 0 0 none 0 0) BR.out ?_;intro w7 BR7 g7)
  refine ret_cell_tmp3 rfl BR7 rfl Tryz.underlying27 (by kernel_rfl) rfl ?_
  rw [R.out]
  exact ⟨none,0,0,rfl,Sl.nil _ _ _,(FR.out.away g7 (by omega)).out⟩
 ·subst c0
  have t4:((0:Int) != 0)=false:=rfl
  have hp:=VP.out rfl
  have R:=zH (show r=(vl.getD (vl.length - 1) noTensor,at_,0) by rw [VV.out,if_pos rfl])
  have hm1:=S1.out.n_eq
  have hmx:m1≤9223372036854775807:=Nat.le_trans S1.out.cap_le S1.out.max_le
  obtain ⟨k,rfl⟩:∃ k,m1=k+1:=⟨m1 - 1,by omega⟩
  obtain ⟨t,b,off,D2,m2,c2,x1,rfl,hbS,_,ti,s2,q2⟩:=S1.out.tensor_at k (by omega)
  have R2:=zH (show r=(t,at_,0) by rw [R.out,hm1,show k+1 - 1=k from rfl,List.getD_eq_getElem?_getD,x1];rfl)
  have S2:=zH s2
  have Q2:=zH q2
  have e1:((k+1:Nat):Int) - 1=(k:Int):=by omega
  have e2:(k:Int)+1 - 1=(k:Int):=by omega
  clear VV VP hp R hm1 x1 s2 q2 ti S1
  go_wp2_with (first
   | (refine wpList_load_mid rfl 27 (.tmp 26) rfl b (off+k*4) rfl _ _ Q2.out Tryz.underlying27 rfl (by kernel_rfl) ?_)
   | (refine sB 27 (.tmp 4) (.tmp 27) w1.heap.size (tN t.h t.v t.c D2 m2 c2) BR.out ?_;intro w7 BR7 g7))
  refine ret_cell_tmp3 rfl BR7 rfl Tryz.underlying27 (by kernel_rfl) rfl ?_
  rw [R2.out]
  exact ⟨D2,m2,c2,rfl,(S2.out.keep fun j hj=>g7.block j hj.2 (fun e=>by have:=Option.some.inj e;have:=hj.1;omega)).more fun j hj=>⟨by have:=hj.1;omega,Nat.lt_of_lt_of_le hj.2 g7.size⟩,(FR.out.away g7 (by omega)).out⟩
theorem Own.tensor_at {w:World} {S:Nat → Prop} {base:Nat} {E:TypeId} {A:Option Addr} {n cap:Nat} {l:List Tensor} (h:Own tTensor w S base E (.slice A n cap) n l) (i:Nat) (hi:i < n) :
  ∃ t g D m c,l[i]?=some t∧A=some ⟨g,0,none⟩∧g < w.heap.size∧base≤g∧TensorIn t∧Sl (tInt .i8) w S D m c t.data∧w.rangeAt g (i*4) [.int .i64 t.h,.int .i64 t.v,.int .i64 t.c,.slice D m c]:=by
 obtain ⟨vs,h1,h2⟩:=h.out
 have hlen:=h.length (by decide)
 have hx:l[i]?=some (l[i]'(by omega)):=List.getElem?_eq_getElem (by omega)
 obtain ⟨xs,h3,h4⟩:=h2.at_ i _ hx
 obtain ⟨D,m,c,rfl,ht,hs⟩:=topen h3
 rcases h1.2 with ⟨e,e2⟩|⟨g,k,cur,e,hb,hh,-⟩
 ·exfalso;injection e with _ e3;omega
 ·injection e with e e3 e4
  subst e
  have h7:=h.lt g rfl
  refine ⟨_,g,D,m,c,hx,rfl,h7.2,hb,ht,hs,fun j v hv=>?_⟩
  have hj:j < 4:=(List.getElem?_eq_some_iff.1 hv).1
  have h5:=h4 j v hv
  rw [tTensor_size] at h5
  have h6:=h1.cellAt (i*4+j) (by rw [tTensor_size];omega)
  rw [h6];exact h5
def RetP (S:Nat → Prop) (k:IntKind) (x:Tensor) (code:Int) (w:World) (e:Ending) (w':World):Prop :=
 ∃ A n cap,e=.returned (.tuple #[.agg (tN x.h x.v x.c A n cap),.int .i64 code])∧Sl (tInt k) w' (fun b=>S b ∨ bin w.heap.size w'.heap.size b) A n cap x.data∧Below w.heap.size w w'
theorem RetP.none {S:Nat → Prop} {k:IntKind} {code:Int} {w w':World} (hb:Below w.heap.size w w'):RetP S k noTensor code w (.returned (.tuple #[.agg (tN 0 0 0 none 0 0),.int .i64 code])) w' :=
 ⟨Option.none,0,0,rfl,Sl.nil _ _ _,hb⟩
theorem poolU_true:poolU true=maxU:=rfl
theorem poolU_false:poolU false=meanV:=rfl
theorem rrunNode_sub (SS:Nat → Prop) (d:Node) (W:Option Addr) (nw cw:Nat) (B:Option Addr) (nb cb:Nat) (a b:Tensor) (A A':Option Addr) (n cap n' cap':Nat) (w:World) (ht:TensorIn a) (hu:TensorIn b) (hd:NodeIn d)
  (hw:Sl (tInt .i8) w (blo w.heap.size) W nw cw d.w) (hbi:Sl (tInt .i32) w (blo w.heap.size) B nb cb d.bias) (ha:Sl (tInt .i8) w (blo w.heap.size) A n cap a.data) (hbs:Sl (tInt .i8) w (blo w.heap.size) A' n' cap' b.data) (mw:nw≤2000∧nb≤200) (hSa:Sl (tInt .i8) w SS A n cap a.data) (hSb:∀ b,SS b → b < w.heap.size) :
  Calls Tryz.prog 19 #[.agg (nN d.kind d.a d.b d.k d.s d.p d.out d.za d.zb W nw cw B nb cb d.qm d.qs d.qz d.rm d.rs d.rz d.lo d.hi),.agg (tN a.h a.v a.c A n cap),.agg (tN b.h b.v b.c A' n' cap')] w (RetP SS .i8 (nodeQ d a b).1 (nodeQ d a b).2 w):=by
 have HSS:=zH (And.intro hSa hSb)
 have HW:=zH hw
 have HB:=zH hbi
 have HA:=zH ha
 have HB2:=zH hbs
 have CK:=zH (fun w hw hb=>rcheck_any d W nw cw B nb cb w hw hb (by omega) (by omega))
 have c1':decide (0 < elems a.h a.v a.c∧elems a.h a.v a.c=n)=a.ok:=by unfold Tensor.ok;rw [HA.out.n_eq]
 have RA:=zH (fun w=>rtensorRight_any a.h a.v a.c A n cap w ht.h ht.v ht.c (Nat.le_trans ha.cap_le ha.max_le))
 rw [c1'] at RA
 have en:a.data.length=n:=ha.n_eq
 have NQ:=zH (show nodeQ d a b=if ¬ checkV d=0 then (noTensor,checkV d) else if a.ok=false then (noTensor,5) else if d.kind=4 then poolQ maxU a d else if d.kind=5 then poolQ meanV a d else if d.kind=6 then joinQ a b d else if d.kind=7 then actQ a d else if d.kind=8 then padO a d.p d.za else if d.kind=9 then (⟨1,1,n,a.data⟩,0) else sumQ a d by unfold nodeQ;rw [en])
 obtain ⟨x,hx⟩:∃ x,nodeQ d a b=x:=⟨_,rfl⟩
 rw [hx] at NQ ⊢
 have FR:=zH (Far.refl w)
 obtain ⟨w1,hw_w1,BN,k_w1⟩:=nB w (nN d.kind d.a d.b d.k d.s d.p d.out d.za d.zb W nw cw B nb cb d.qm d.qs d.qz d.rm d.rs d.rz d.lo d.hi) 44
 replace FR:=zH (FR.out.fut k_w1)
 clear k_w1
 obtain ⟨w2,hw_w2,BA,k_w2⟩:=nB w1 (tN a.h a.v a.c A n cap) 27
 replace FR:=zH (FR.out.fut k_w2)
 replace BN:=zH (BN.out.fut k_w2)
 clear k_w2
 obtain ⟨w3,hw_w3,BB,k_w3⟩:=nB w2 (tN b.h b.v b.c A' n' cap') 27
 replace FR:=zH (FR.out.fut k_w3)
 replace BN:=zH (BN.out.fut k_w3)
 replace BA:=zH (BA.out.fut k_w3)
 clear k_w3
 obtain ⟨w4,hw_w4,BR,k_w4⟩:=nB w3 (tN 0 0 0 none 0 0) 27
 replace FR:=zH (FR.out.fut k_w4)
 replace BN:=zH (BN.out.fut k_w4)
 replace BA:=zH (BA.out.fut k_w4)
 replace BB:=zH (BB.out.fut k_w4)
 clear k_w4
 have l1:w.heap.size < w1.heap.size:=by rw [← hw_w1];simp
 have l2:w1.heap.size < w2.heap.size:=by rw [← hw_w2];simp
 have l3:w2.heap.size < w3.heap.size:=by rw [← hw_w3];simp
 have l4:w3.heap.size < w4.heap.size:=by rw [← hw_w4];simp
 have HM:=zH (And.intro ht (And.intro hu (And.intro hd mw)))
 have mxa:n≤9223372036854775807:=Nat.le_trans ha.cap_le ha.max_le
 have hok0:=zH (show a.ok=true → a.ok=true from id)
 clear c1' en hx ht hu hd hw hbi ha hbs mw hSa hSb
 obtain ⟨ck,hck⟩:∃ k,checkV d=k:=⟨_,rfl⟩
 rw [hck] at CK NQ
 clear hck
 by_cases q1:¬ ck=0
 ·rw [if_pos q1] at NQ
  rw [NQ.out]
  have hk2:(ck != 0)=true:=by rw [bne_iff_ne];exact q1
  clear q1 NQ
  go_enter Tryz.func19,Tryz.ntmps19
  go_wp2_with (first|(refine lB 44 (.tmp 3) w.heap.size BN.out Tryz.underlying44 ?_)|(go_at_call 30;refine (CK.out _ ((Old.now HW.out).fut FR.out.out).all ((Old.now HB.out).fut FR.out.out).all).mono ?_;rintro e w5 ⟨rfl,hb⟩;have l5:=hb.size;replace FR:=zH (FR.out.fut hb);replace BN:=zH (BN.out.fut hb);replace BA:=zH (BA.out.fut hb);replace BB:=zH (BB.out.fut hb);replace BR:=zH (BR.out.fut hb);clear hb hw_w1 hw_w2 hw_w3 hw_w4)|(refine sB 27 (.tmp 6) (.tmp 16) w3.heap.size (tN 0 0 0 none 0 0) BR.out ?_;intro w9 B9 g9))
  refine rC B9 Tryz.underlying27 ?_
  exact RetP.none (FR.out.away g9 (by omega)).out
 rw [if_neg q1] at NQ
 rw [Decidable.not_not] at q1
 subst q1
 by_cases q2:a.ok=false
 ·rw [if_pos q2] at NQ
  rw [q2] at RA
  rw [NQ.out]
  clear q2 NQ
  go_enter Tryz.func19,Tryz.ntmps19
  go_wp2_with (first|(refine lB 44 (.tmp 3) w.heap.size BN.out Tryz.underlying44 ?_)|(go_at_call 30;refine (CK.out _ ((Old.now HW.out).fut FR.out.out).all ((Old.now HB.out).fut FR.out.out).all).mono ?_;rintro e w5 ⟨rfl,hb⟩;have l5:=hb.size;replace FR:=zH (FR.out.fut hb);replace BN:=zH (BN.out.fut hb);replace BA:=zH (BA.out.fut hb);replace BB:=zH (BB.out.fut hb);replace BR:=zH (BR.out.fut hb);clear hb hw_w1 hw_w2 hw_w3 hw_w4)|(refine lB 27 (.tmp 4) w1.heap.size BA.out Tryz.underlying27 ?_)|(go_at_call 17;refine (RA.out _).mono ?_;rintro e w6 ⟨rfl,hb⟩;have l6:=hb.size;replace FR:=zH (FR.out.fut hb);replace BN:=zH (BN.out.fut hb);replace BA:=zH (BA.out.fut hb);replace BB:=zH (BB.out.fut hb);replace BR:=zH (BR.out.fut hb);clear hb)|(refine sB 27 (.tmp 6) (.tmp 21) w3.heap.size (tN 0 0 0 none 0 0) BR.out ?_;intro w9 B9 g9))
  refine rC B9 Tryz.underlying27 ?_
  exact RetP.none (FR.out.away g9 (by omega)).out
 rw [if_neg q2] at NQ
 rw [Bool.not_eq_false] at q2
 rw [q2] at RA
 have C1:=zH q2
 by_cases k4:d.kind=4
 ·rw [if_pos k4] at NQ
  have S:=zH (show ∀ w,Sl (tInt .i8) w (blo w.heap.size) A n cap a.data → Calls Tryz.prog 33 #[.agg (tN a.h a.v a.c A n cap),.agg (nN d.kind d.a d.b d.k d.s d.p d.out d.za d.zb W nw cw B nb cb d.qm d.qs d.qz d.rm d.rs d.rz d.lo d.hi),.bool true] w (RetT .i8 (poolQ maxU a d).1 (poolQ maxU a d).2 w) from fun w ha=>by have q:=rpool_any true a A n cap d W nw cw B nb cb w ha C1.out;rw [poolU_true] at q;exact q)
  rw [← NQ.out] at S
  have KE:=zH k4
  clear k4  NQ q2
  go_enter Tryz.func19,Tryz.ntmps19
  go_wp2_with (first|(refine lB 44 (.tmp 3) w.heap.size BN.out Tryz.underlying44 ?_)|(go_at_call 30;refine (CK.out _ ((Old.now HW.out).fut FR.out.out).all ((Old.now HB.out).fut FR.out.out).all).mono ?_;rintro e w5 ⟨rfl,hb⟩;have l5:=hb.size;replace FR:=zH (FR.out.fut hb);replace BN:=zH (BN.out.fut hb);replace BA:=zH (BA.out.fut hb);replace BB:=zH (BB.out.fut hb);replace BR:=zH (BR.out.fut hb);clear hb hw_w1 hw_w2 hw_w3 hw_w4)|(refine lB 27 (.tmp 4) w1.heap.size BA.out Tryz.underlying27 ?_)|(go_at_call 17;refine (RA.out _).mono ?_;rintro e w6 ⟨rfl,hb⟩;have l6:=hb.size;replace FR:=zH (FR.out.fut hb);replace BN:=zH (BN.out.fut hb);replace BA:=zH (BA.out.fut hb);replace BB:=zH (BB.out.fut hb);replace BR:=zH (BR.out.fut hb);clear hb;have c0:=BN.out.cell 0;simp only [gX] at c0;rw [KE.out] at c0))
  refine (S.out _ ((Old.now HA.out).fut FR.out.out).all).mono ?_
  rintro e wm ⟨RA,rn,rc,rfl,rs,hb⟩
  have RS:=zH (show New w6 (tInt .i8) wm RA rn rc x.1.data from ⟨rs⟩)
  have lbr:=BR.out.lt
  have lfr:=FR.out.size
  replace BR:=zH (BR.out.fut hb)
  replace FR:=zH (FR.out.fut hb)
  clear hb rs c0
  go_wp2_with (refine sB 27 (.tmp 6) (.tmp 29) w3.heap.size (tN x.1.h x.1.v x.1.c RA rn rc) BR.out ?_;intro w9 B9 g9)
  refine rC B9 Tryz.underlying27 ?_
  exact ⟨RA,rn,rc,rfl,(RS.out.away g9 lbr).out.more fun b h=>.inr ⟨by have:=h.1;omega,h.2⟩,(FR.out.away g9 (by omega)).out⟩
 rw [if_neg k4] at NQ
 have t4:(d.kind == 4)=false:=by simpa using k4
 by_cases k5:d.kind=5
 ·rw [if_pos k5] at NQ
  have S:=zH (show ∀ w,Sl (tInt .i8) w (blo w.heap.size) A n cap a.data → Calls Tryz.prog 33 #[.agg (tN a.h a.v a.c A n cap),.agg (nN d.kind d.a d.b d.k d.s d.p d.out d.za d.zb W nw cw B nb cb d.qm d.qs d.qz d.rm d.rs d.rz d.lo d.hi),.bool false] w (RetT .i8 (poolQ meanV a d).1 (poolQ meanV a d).2 w) from fun w ha=>by have q:=rpool_any false a A n cap d W nw cw B nb cb w ha C1.out;rw [poolU_false] at q;exact q)
  rw [← NQ.out] at S
  have KE:=zH k5
  clear k5  k4 t4 NQ q2
  go_enter Tryz.func19,Tryz.ntmps19
  go_wp2_with (first|(refine lB 44 (.tmp 3) w.heap.size BN.out Tryz.underlying44 ?_)|(go_at_call 30;refine (CK.out _ ((Old.now HW.out).fut FR.out.out).all ((Old.now HB.out).fut FR.out.out).all).mono ?_;rintro e w5 ⟨rfl,hb⟩;have l5:=hb.size;replace FR:=zH (FR.out.fut hb);replace BN:=zH (BN.out.fut hb);replace BA:=zH (BA.out.fut hb);replace BB:=zH (BB.out.fut hb);replace BR:=zH (BR.out.fut hb);clear hb hw_w1 hw_w2 hw_w3 hw_w4)|(refine lB 27 (.tmp 4) w1.heap.size BA.out Tryz.underlying27 ?_)|(go_at_call 17;refine (RA.out _).mono ?_;rintro e w6 ⟨rfl,hb⟩;have l6:=hb.size;replace FR:=zH (FR.out.fut hb);replace BN:=zH (BN.out.fut hb);replace BA:=zH (BA.out.fut hb);replace BB:=zH (BB.out.fut hb);replace BR:=zH (BR.out.fut hb);clear hb;have c0:=BN.out.cell 0;simp only [gX] at c0;rw [KE.out] at c0))
  refine (S.out _ ((Old.now HA.out).fut FR.out.out).all).mono ?_
  rintro e wm ⟨RA,rn,rc,rfl,rs,hb⟩
  have RS:=zH (show New w6 (tInt .i8) wm RA rn rc x.1.data from ⟨rs⟩)
  have lbr:=BR.out.lt
  have lfr:=FR.out.size
  replace BR:=zH (BR.out.fut hb)
  replace FR:=zH (FR.out.fut hb)
  clear hb rs c0
  go_wp2_with (refine sB 27 (.tmp 6) (.tmp 36) w3.heap.size (tN x.1.h x.1.v x.1.c RA rn rc) BR.out ?_;intro w9 B9 g9)
  refine rC B9 Tryz.underlying27 ?_
  exact ⟨RA,rn,rc,rfl,(RS.out.away g9 lbr).out.more fun b h=>.inr ⟨by have:=h.1;omega,h.2⟩,(FR.out.away g9 (by omega)).out⟩
 rw [if_neg k5] at NQ
 have t5:(d.kind == 5)=false:=by simpa using k5
 by_cases k6:d.kind=6
 ·rw [if_pos k6] at NQ
  have S:=zH (fun w ha hbs=>rjoinOf_any a b A A' n cap n' cap' d W nw cw B nb cb w HM.out.1 HM.out.2.1 HM.out.2.2.1 ha hbs C1.out)
  rw [← NQ.out] at S
  have KE:=zH k6
  clear k6  k4 t4 k5 t5 NQ q2
  go_enter Tryz.func19,Tryz.ntmps19
  go_wp2_with (first|(refine lB 44 (.tmp 3) w.heap.size BN.out Tryz.underlying44 ?_)|(go_at_call 30;refine (CK.out _ ((Old.now HW.out).fut FR.out.out).all ((Old.now HB.out).fut FR.out.out).all).mono ?_;rintro e w5 ⟨rfl,hb⟩;have l5:=hb.size;replace FR:=zH (FR.out.fut hb);replace BN:=zH (BN.out.fut hb);replace BA:=zH (BA.out.fut hb);replace BB:=zH (BB.out.fut hb);replace BR:=zH (BR.out.fut hb);clear hb hw_w1 hw_w2 hw_w3 hw_w4)|(refine lB 27 (.tmp 4) w1.heap.size BA.out Tryz.underlying27 ?_)|(go_at_call 17;refine (RA.out _).mono ?_;rintro e w6 ⟨rfl,hb⟩;have l6:=hb.size;replace FR:=zH (FR.out.fut hb);replace BN:=zH (BN.out.fut hb);replace BA:=zH (BA.out.fut hb);replace BB:=zH (BB.out.fut hb);replace BR:=zH (BR.out.fut hb);clear hb;have c0:=BN.out.cell 0;simp only [gX] at c0;rw [KE.out] at c0)|(refine lB 27 (.tmp 5) w2.heap.size BB.out Tryz.underlying27 ?_))
  refine (S.out _ ((Old.now HA.out).fut FR.out.out).all ((Old.now HB2.out).fut FR.out.out).all).mono ?_
  rintro e wm ⟨RA,rn,rc,rfl,rs,hb⟩
  have RS:=zH (show New w6 (tInt .i8) wm RA rn rc x.1.data from ⟨rs⟩)
  have lbr:=BR.out.lt
  have lfr:=FR.out.size
  replace BR:=zH (BR.out.fut hb)
  replace FR:=zH (FR.out.fut hb)
  clear hb rs c0
  go_wp2_with (refine sB 27 (.tmp 6) (.tmp 44) w3.heap.size (tN x.1.h x.1.v x.1.c RA rn rc) BR.out ?_;intro w9 B9 g9)
  refine rC B9 Tryz.underlying27 ?_
  exact ⟨RA,rn,rc,rfl,(RS.out.away g9 lbr).out.more fun b h=>.inr ⟨by have:=h.1;omega,h.2⟩,(FR.out.away g9 (by omega)).out⟩
 rw [if_neg k6] at NQ
 have t6:(d.kind == 6)=false:=by simpa using k6
 by_cases k7:d.kind=7
 ·rw [if_pos k7] at NQ
  have S:=zH (fun w ha=>ractOf_any a A n cap d W nw cw B nb cb w HM.out.1 HM.out.2.2.1 ha C1.out)
  rw [← NQ.out] at S
  have KE:=zH k7
  clear k7  k4 t4 k5 t5 k6 t6 NQ q2
  go_enter Tryz.func19,Tryz.ntmps19
  go_wp2_with (first|(refine lB 44 (.tmp 3) w.heap.size BN.out Tryz.underlying44 ?_)|(go_at_call 30;refine (CK.out _ ((Old.now HW.out).fut FR.out.out).all ((Old.now HB.out).fut FR.out.out).all).mono ?_;rintro e w5 ⟨rfl,hb⟩;have l5:=hb.size;replace FR:=zH (FR.out.fut hb);replace BN:=zH (BN.out.fut hb);replace BA:=zH (BA.out.fut hb);replace BB:=zH (BB.out.fut hb);replace BR:=zH (BR.out.fut hb);clear hb hw_w1 hw_w2 hw_w3 hw_w4)|(refine lB 27 (.tmp 4) w1.heap.size BA.out Tryz.underlying27 ?_)|(go_at_call 17;refine (RA.out _).mono ?_;rintro e w6 ⟨rfl,hb⟩;have l6:=hb.size;replace FR:=zH (FR.out.fut hb);replace BN:=zH (BN.out.fut hb);replace BA:=zH (BA.out.fut hb);replace BB:=zH (BB.out.fut hb);replace BR:=zH (BR.out.fut hb);clear hb;have c0:=BN.out.cell 0;simp only [gX] at c0;rw [KE.out] at c0))
  refine (S.out _ ((Old.now HA.out).fut FR.out.out).all).mono ?_
  rintro e wm ⟨RA,rn,rc,rfl,rs,hb⟩
  have RS:=zH (show New w6 (tInt .i8) wm RA rn rc x.1.data from ⟨rs⟩)
  have lbr:=BR.out.lt
  have lfr:=FR.out.size
  replace BR:=zH (BR.out.fut hb)
  replace FR:=zH (FR.out.fut hb)
  clear hb rs c0
  go_wp2_with (refine sB 27 (.tmp 6) (.tmp 51) w3.heap.size (tN x.1.h x.1.v x.1.c RA rn rc) BR.out ?_;intro w9 B9 g9)
  refine rC B9 Tryz.underlying27 ?_
  exact ⟨RA,rn,rc,rfl,(RS.out.away g9 lbr).out.more fun b h=>.inr ⟨by have:=h.1;omega,h.2⟩,(FR.out.away g9 (by omega)).out⟩
 rw [if_neg k7] at NQ
 have t7:(d.kind == 7)=false:=by simpa using k7
 by_cases k8:d.kind=8
 ·rw [if_pos k8] at NQ
  have KE:=zH k8
  have MA:=zH (fun w ha=>rpadMay_any a A n cap d.p w HM.out.1 ha C1.out)
  unfold padO at NQ
  by_cases hp:d.p < 0 ∨ 4 < d.p
  ·rw [if_pos hp] at MA NQ
   rw [NQ.out]
   clear k8  k4 t4 k5 t5 k6 t6 k7 t7 NQ q2 hp
   go_enter Tryz.func19,Tryz.ntmps19
   go_wp2_with (first|(refine lB 44 (.tmp 3) w.heap.size BN.out Tryz.underlying44 ?_)|(go_at_call 30;refine (CK.out _ ((Old.now HW.out).fut FR.out.out).all ((Old.now HB.out).fut FR.out.out).all).mono ?_;rintro e w5 ⟨rfl,hb⟩;have l5:=hb.size;replace FR:=zH (FR.out.fut hb);replace BN:=zH (BN.out.fut hb);replace BA:=zH (BA.out.fut hb);replace BB:=zH (BB.out.fut hb);replace BR:=zH (BR.out.fut hb);clear hb hw_w1 hw_w2 hw_w3 hw_w4)|(refine lB 27 (.tmp 4) w1.heap.size BA.out Tryz.underlying27 ?_)|(go_at_call 17;refine (RA.out _).mono ?_;rintro e w6 ⟨rfl,hb⟩;have l6:=hb.size;replace FR:=zH (FR.out.fut hb);replace BN:=zH (BN.out.fut hb);replace BA:=zH (BA.out.fut hb);replace BB:=zH (BB.out.fut hb);replace BR:=zH (BR.out.fut hb);clear hb;have c0:=BN.out.cell 0;simp only [gX] at c0;rw [KE.out] at c0;have c5:=BN.out.cell 5;have c7:=BN.out.cell 7;simp only [gX] at c5 c7)|(go_at_call 36;refine (MA.out _ ((Old.now HA.out).fut FR.out.out).all).mono ?_;rintro e w7 ⟨rfl,hb⟩;have l7:=hb.size;replace FR:=zH (FR.out.fut hb);replace BN:=zH (BN.out.fut hb);replace BA:=zH (BA.out.fut hb);replace BB:=zH (BB.out.fut hb);replace BR:=zH (BR.out.fut hb);clear hb c0 c5 c7;have c5:=BN.out.cell 5;have c7:=BN.out.cell 7;simp only [gX] at c5 c7)|(refine sB 27 (.tmp 6) (.tmp 61) w3.heap.size (tN 0 0 0 none 0 0) BR.out ?_;intro w9 B9 g9))
   refine rC B9 Tryz.underlying27 ?_
   exact RetP.none (FR.out.away g9 (by omega)).out
  ·rw [if_neg hp] at MA NQ
   obtain ⟨H,V,C,TK⟩:=tok_of C1.out
   have en:a.data.length=n:=HA.out.n_eq
   rw [en] at TK
   have hpn:(d.p.toNat:Int)=d.p:=by omega
   have S:=zH (fun w ha=>rresize_any a H V C d.p.toNat A n cap d.za w ha TK (by omega) HM.out.2.2.1.za)
   rw [← TK.h,← TK.v,← TK.c,hpn,← NQ.out] at S
   clear k8  k4 t4 k5 t5 k6 t6 k7 t7 NQ q2 hp TK hpn en
   go_enter Tryz.func19,Tryz.ntmps19
   go_wp2_with (first|(refine lB 44 (.tmp 3) w.heap.size BN.out Tryz.underlying44 ?_)|(go_at_call 30;refine (CK.out _ ((Old.now HW.out).fut FR.out.out).all ((Old.now HB.out).fut FR.out.out).all).mono ?_;rintro e w5 ⟨rfl,hb⟩;have l5:=hb.size;replace FR:=zH (FR.out.fut hb);replace BN:=zH (BN.out.fut hb);replace BA:=zH (BA.out.fut hb);replace BB:=zH (BB.out.fut hb);replace BR:=zH (BR.out.fut hb);clear hb hw_w1 hw_w2 hw_w3 hw_w4)|(refine lB 27 (.tmp 4) w1.heap.size BA.out Tryz.underlying27 ?_)|(go_at_call 17;refine (RA.out _).mono ?_;rintro e w6 ⟨rfl,hb⟩;have l6:=hb.size;replace FR:=zH (FR.out.fut hb);replace BN:=zH (BN.out.fut hb);replace BA:=zH (BA.out.fut hb);replace BB:=zH (BB.out.fut hb);replace BR:=zH (BR.out.fut hb);clear hb;have c0:=BN.out.cell 0;simp only [gX] at c0;rw [KE.out] at c0;have c5:=BN.out.cell 5;have c7:=BN.out.cell 7;simp only [gX] at c5 c7)|(go_at_call 36;refine (MA.out _ ((Old.now HA.out).fut FR.out.out).all).mono ?_;rintro e w7 ⟨rfl,hb⟩;have l7:=hb.size;replace FR:=zH (FR.out.fut hb);replace BN:=zH (BN.out.fut hb);replace BA:=zH (BA.out.fut hb);replace BB:=zH (BB.out.fut hb);replace BR:=zH (BR.out.fut hb);clear hb c0 c5 c7;have c5:=BN.out.cell 5;have c7:=BN.out.cell 7;simp only [gX] at c5 c7))
   refine (S.out _ ((Old.now HA.out).fut FR.out.out).all).mono ?_
   rintro e wm ⟨RA,rn,rc,rfl,rs,hb⟩
   have RS:=zH (show New w7 (tInt .i8) wm RA rn rc x.1.data from ⟨rs⟩)
   have lbr:=BR.out.lt
   have lfr:=FR.out.size
   replace BR:=zH (BR.out.fut hb)
   replace FR:=zH (FR.out.fut hb)
   clear hb rs c5 c7
   go_wp2_with (refine sB 27 (.tmp 6) (.tmp 69) w3.heap.size (tN x.1.h x.1.v x.1.c RA rn rc) BR.out ?_;intro w9 B9 g9)
   refine rC B9 Tryz.underlying27 ?_
   exact ⟨RA,rn,rc,rfl,(RS.out.away g9 lbr).out.more fun b h=>.inr ⟨by have:=h.1;omega,h.2⟩,(FR.out.away g9 (by omega)).out⟩
 rw [if_neg k8] at NQ
 have t8:(d.kind == 8)=false:=by simpa using k8
 by_cases k9:d.kind=9
 ·rw [if_pos k9] at NQ
  have KE:=zH k9
  rw [NQ.out]
  clear k9  k4 t4 k5 t5 k6 t6 k7 t7 k8 t8 NQ q2
  go_enter Tryz.func19,Tryz.ntmps19
  go_wp2_with (first|(refine lB 44 (.tmp 3) w.heap.size BN.out Tryz.underlying44 ?_)|(go_at_call 30;refine (CK.out _ ((Old.now HW.out).fut FR.out.out).all ((Old.now HB.out).fut FR.out.out).all).mono ?_;rintro e w5 ⟨rfl,hb⟩;have l5:=hb.size;replace FR:=zH (FR.out.fut hb);replace BN:=zH (BN.out.fut hb);replace BA:=zH (BA.out.fut hb);replace BB:=zH (BB.out.fut hb);replace BR:=zH (BR.out.fut hb);clear hb hw_w1 hw_w2 hw_w3 hw_w4)|(refine lB 27 (.tmp 4) w1.heap.size BA.out Tryz.underlying27 ?_)|(go_at_call 17;refine (RA.out _).mono ?_;rintro e w6 ⟨rfl,hb⟩;have l6:=hb.size;replace FR:=zH (FR.out.fut hb);replace BN:=zH (BN.out.fut hb);replace BA:=zH (BA.out.fut hb);replace BB:=zH (BB.out.fut hb);replace BR:=zH (BR.out.fut hb);clear hb;have c0:=BN.out.cell 0;simp only [gX] at c0;rw [KE.out] at c0;have a3:=BA.out.cell 3;simp only [gX] at a3)|(refine sB 27 (.tmp 6) (.tmp 79) w3.heap.size (tN 1 1 n A n cap) BR.out ?_;intro w9 B9 g9))
  refine rC B9 Tryz.underlying27 ?_
  have FE:=FR.out.away g9 (by omega)
  exact ⟨A,n,cap,rfl,(HSS.out.1.keep fun b h=>FE.out.block b (HSS.out.2 b h)).more fun b h=>.inl h,FE.out⟩
 rw [if_neg k9] at NQ
 have t9:(d.kind == 9)=false:=by simpa using k9
 have SM:=zH (fun w ha hw hb=>rrunSum_any a A n cap d W nw cw B nb cb w HM.out.1 HM.out.2.2.1 ha hw hb HM.out.2.2.2)
 have SN:=zH (sum_nat a d)
 unfold sumQ at NQ
 obtain ⟨⟨y,k⟩,hy⟩:∃ q,sumOf a d=q:=⟨_,rfl⟩
 rw [hy] at SM SN NQ
 have HX:=zH (show (if k=0 then putQ y d else (noTensor,k))=x from NQ.out.symm)
 clear k4 k5 k6 k7 k8 k9 NQ q2 hy
 go_enter Tryz.func19,Tryz.ntmps19
 go_wp2_with (first|(refine lB 44 (.tmp 3) w.heap.size BN.out Tryz.underlying44 ?_)|(go_at_call 30;refine (CK.out _ ((Old.now HW.out).fut FR.out.out).all ((Old.now HB.out).fut FR.out.out).all).mono ?_;rintro e w5 ⟨rfl,hb⟩;have l5:=hb.size;replace FR:=zH (FR.out.fut hb);replace BN:=zH (BN.out.fut hb);replace BA:=zH (BA.out.fut hb);replace BB:=zH (BB.out.fut hb);replace BR:=zH (BR.out.fut hb);clear hb hw_w1 hw_w2 hw_w3 hw_w4)|(refine lB 27 (.tmp 4) w1.heap.size BA.out Tryz.underlying27 ?_)|(go_at_call 17;refine (RA.out _).mono ?_;rintro e w6 ⟨rfl,hb⟩;have l6:=hb.size;replace FR:=zH (FR.out.fut hb);replace BN:=zH (BN.out.fut hb);replace BA:=zH (BA.out.fut hb);replace BB:=zH (BB.out.fut hb);replace BR:=zH (BR.out.fut hb);clear hb;have c0:=BN.out.cell 0;simp only [gX] at c0))
 refine (SM.out _ ((Old.now HA.out).fut FR.out.out).all ((Old.now HW.out).fut FR.out.out).all ((Old.now HB.out).fut FR.out.out).all).mono ?_
 rintro e w7 ⟨RA,rn,rc,rfl,rs,hb⟩
 have RS:=zH (show New w6 (tInt .i32) w7 RA rn rc y.data from ⟨rs⟩)
 have ern:=rs.n_eq
 have l7:=hb.size
 clear rs c0
 replace FR:=zH (FR.out.fut hb)
 replace BN:=zH (BN.out.fut hb)
 replace BA:=zH (BA.out.fut hb)
 replace BR:=zH (BR.out.fut hb)
 clear hb
 obtain ⟨w8,hw_w8,BX,k_w8⟩:=nB w7 (tN y.h y.v y.c RA rn rc) 78
 replace FR:=zH (FR.out.fut k_w8)
 replace BN:=zH (BN.out.fut k_w8)
 replace BA:=zH (BA.out.fut k_w8)
 replace BR:=zH (BR.out.fut k_w8)
 replace RS:=zH (RS.out.fut k_w8)
 clear k_w8
 have l8:w7.heap.size < w8.heap.size:=by rw [← hw_w8];simp
 by_cases k0:k=0
 ·subst k0
  have hx:=HX.out
  rw [if_pos rfl] at hx
  obtain ⟨e1,e2,e3,e4⟩:=SN.out rfl
  simp only [ern] at e1 e2 e3
  have AP:=zH (fun w ha=>ractPut_any y RA rn rc d W nw cw B nb cb w e4 HM.out.2.2.1 ha e1 e2 e3)
  rw [hx] at AP
  clear e1 e2 e3 e4 hx SN ern
  go_wp2_with (first|(refine lB 78 (.tmp 10) w7.heap.size BX.out Tryz.underlying78 ?_)|(refine lB 44 (.tmp 3) w.heap.size BN.out Tryz.underlying44 ?_))
  refine (AP.out _ RS.out.old).mono ?_
  rintro e wm ⟨RA,rn,rc,rfl,rs,hb⟩
  have RS:=zH (show New w8 (tInt .i8) wm RA rn rc x.1.data from ⟨rs⟩)
  have lbr:=BR.out.lt
  replace BR:=zH (BR.out.fut hb)
  replace FR:=zH (FR.out.fut hb)
  clear hb rs hw_w8
  go_wp2_with (refine sB 27 (.tmp 6) (.tmp 93) w3.heap.size (tN x.1.h x.1.v x.1.c RA rn rc) BR.out ?_;intro w9 B9 g9)
  refine rC B9 Tryz.underlying27 ?_
  exact ⟨RA,rn,rc,rfl,(RS.out.away g9 lbr).out.more fun b h=>.inr ⟨by have:=h.1;omega,h.2⟩,(FR.out.away g9 (by omega)).out⟩
 ·have hx:=HX.out
  rw [if_neg k0] at hx
  subst hx
  have hk2:(k != 0)=true:=by rw [bne_iff_ne];exact k0
  clear k0 SN ern
  go_wp2_with (refine sB 27 (.tmp 6) (.tmp 88) w3.heap.size (tN 0 0 0 none 0 0) BR.out ?_;intro w9 B9 g9)
  refine rC B9 Tryz.underlying27 ?_
  exact RetP.none (FR.out.away g9 (by omega)).out
def RetValO (x:List Tensor × Int × Int) (w:World) (e:Ending) (w':World):Prop :=
 ∃ A m cap,e=.returned (.tuple #[.slice A m cap,.int .i64 x.2.1,.int .i64 x.2.2])∧Sl tTensor w' (blo w'.heap.size) A m cap x.1∧Below w.heap.size w w'
theorem RetValO.none {i e:Int} {w w':World} (hb:Below w.heap.size w w'):RetValO ([],i,e) w (.returned (.tuple #[.slice none 0 0,.int .i64 i,.int .i64 e])) w' :=
 ⟨Option.none,0,0,rfl,Sl.nil _ _ _,hb⟩
theorem rvalues_any (A:Option Addr) (n cap:Nat) (l:List Node) (x:Tensor) (D:Option Addr) (m cm:Nat) (w:World) (hs:Sl tNode w (blo w.heap.size) A n cap l) (hx:TensorIn x) (hd:Sl (tInt .i8) w (blo w.heap.size) D m cm x.data) (h300:m≤300) (hf:∀ d ∈ l,d.w.length≤1000∧d.bias.length≤100) :
  Calls Tryz.prog 8 #[.slice A n cap,.agg (tN x.h x.v x.c D m cm)] w (RetValO (valuesV l x) w):=by
 have hn:=hs.n_eq
 obtain ⟨r,hr⟩:∃ r,valuesV l x=r:=⟨_,rfl⟩
 rw [hr]
 unfold valuesV at hr
 rw [hn] at hr
 have VV:=zH hr.symm
 have RA:=zH (fun w=>rtensorRight_any x.h x.v x.c D m cm w hx.h hx.v hx.c (Nat.le_trans hd.cap_le hd.max_le))
 have c1':decide (0 < elems x.h x.v x.c∧elems x.h x.v x.c=m)=x.ok:=by unfold Tensor.ok;rw [hd.n_eq]
 rw [c1'] at RA
 have SP:=zH (fun w hs=>rshapes_any A n cap l x.h x.v x.c w hs hx.h hx.v hx.c hf)
 have TH:=zH (shapes_there (l:=l) (s:=(x.h,x.v,x.c)))
 obtain ⟨⟨sh,at_,code⟩,hsh⟩:∃ s,shapesV l (x.h,x.v,x.c)=s:=⟨_,rfl⟩
 rw [hsh] at SP TH VV
 simp only at TH VV
 have H:=zH hs
 have HO:=zH (Old.now hs)
 have HD:=zH (Old.now hd)
 have HX:=zH hx
 have HF:=zH hf
 have hmax:n≤9223372036854775807:=Nat.le_trans hs.cap_le hs.max_le
 clear hr hs hd hf hx hsh c1' hn
 have FR:=zH (Far.refl w)
 obtain ⟨w1,hw_w1,BA,k_w1⟩:=nB w (tN x.h x.v x.c D m cm) 27
 replace FR:=zH (FR.out.fut k_w1)
 clear k_w1
 have l1:w.heap.size < w1.heap.size:=by rw [← hw_w1];simp
 obtain ⟨ok,hok⟩:∃ b,x.ok=b:=⟨_,rfl⟩
 rw [hok] at RA VV
 have OK:=zH hok
 clear hok
 cases ok
 case false =>
  have R:=zH (show r=([],-1,5) by rw [VV.out,if_pos rfl])
  clear VV
  go_enter Tryz.func8,Tryz.ntmps8
  go_wp2_with (refine lB 27 (.tmp 3) w.heap.size BA.out Tryz.underlying27 ?_)
  clear hw_w1
  refine (RA.out _).mono ?_
  rintro e w2 ⟨rfl,hb⟩
  replace FR:=zH (FR.out.fut hb)
  replace BA:=zH (BA.out.fut hb)
  clear hb
  go_wp2_with fail
  go_ret3
  rw [R.out]
  exact RetValO.none FR.out.out
 rw [if_neg (by decide)] at VV
 by_cases c2:code=0
 rotate_left
 ·have t2:(code != 0)=true:=by simpa using c2
  have R:=zH (show r=([],at_,code) by rw [VV.out,if_pos c2])
  clear c2 VV
  go_enter Tryz.func8,Tryz.ntmps8
  go_wp2_with (refine lB 27 (.tmp 3) w.heap.size BA.out Tryz.underlying27 ?_)
  clear hw_w1
  refine (RA.out _).mono ?_
  rintro e w2 ⟨rfl,hb⟩
  replace FR:=zH (FR.out.fut hb)
  replace BA:=zH (BA.out.fut hb)
  clear hb
  go_wp2_with (refine wpList_load_blk rfl 24 (.tmp 19) rfl w.heap.size 0 rfl _ (tN x.h x.v x.c D m cm) (sN x.h x.v x.c) _ BA.out Tryz.underlying24 rfl (by kernel_rfl) rfl ?_)
  refine (SP.out _ (HO.out.fut FR.out.out).all).mono ?_
  rintro e w3 ⟨B1,m1,c1,rfl,-,hb⟩
  replace FR:=zH (FR.out.fut hb)
  replace BA:=zH (BA.out.fut hb)
  clear hb
  simp only
  go_wp2_with fail
  go_ret3
  rw [R.out]
  exact RetValO.none FR.out.out
 subst c2
 obtain ⟨hn8,hn0,hth⟩:=TH.out rfl
 have t2:((0:Int) != 0)=false:=rfl
 have THR:=zH hth
 have V2:=zH (show r=endV27 n (runV l x n) by rw [VV.out,if_neg (by decide)])
 rw [show l.length=n from H.out.n_eq] at hn8 hn0
 clear VV TH hth
 go_enter Tryz.func8,Tryz.ntmps8
 go_wp2_with (refine lB 27 (.tmp 3) w.heap.size BA.out Tryz.underlying27 ?_)
 clear hw_w1
 refine (RA.out _).mono ?_
 rintro e w2 ⟨rfl,hb⟩
 replace FR:=zH (FR.out.fut hb)
 replace BA:=zH (BA.out.fut hb)
 clear hb
 go_wp2_with (refine wpList_load_blk rfl 24 (.tmp 19) rfl w.heap.size 0 rfl _ (tN x.h x.v x.c D m cm) (sN x.h x.v x.c) _ BA.out Tryz.underlying24 rfl (by kernel_rfl) rfl ?_)
 refine (SP.out _ (HO.out.fut FR.out.out).all).mono ?_
 rintro e w3 ⟨B1,m1,c1,rfl,-,hb⟩
 replace FR:=zH (FR.out.fut hb)
 replace BA:=zH (BA.out.fut hb)
 clear hb
 simp only
 clear RA SP
 go_wp2_with (first
  | (refine lB 27 (.tmp 3) w.heap.size BA.out Tryz.underlying27 ?_)
  | (refine wpList_lit1 rfl (.tmp 29) rfl ei_tens (tN x.h x.v x.c D m cm) rfl rfl (by decide) ?_))
 have z3:=FR.out.size
 go_loopw [10,11] (fun u i wr=>∃ (k:Nat) (out:List Tensor) (S:Nat → Prop),k≤n∧i=.int .i64 k∧runV l x k=.on out∧Own tTensor wr S w.heap.size 27 u (k+1) out∧(∀ b,S b → b < wr.heap.size∧some b ≠ u.ownBlock)∧Below w.heap.size w wr) (fun _ i _=>n - (intOf i).toNat)
 case atStart =>
  refine ⟨0,[x],blo w.heap.size,Nat.zero_le _,rfl,rfl,Own.one z3 (trep HX.out ?_),fun b hb=>⟨by have h:b < w.heap.size:=hb;simp;omega,by have h:b < w.heap.size:=hb;simp [Value.ownBlock];omega⟩,FR.out.out.alloc z3 _⟩
  exact (HD.out.fut FR.out.out).out.keep fun b hb=>by rw [heap_alloc_get,if_neg (by have h:b < w.heap.size:=hb;omega)]
 case round =>
  clear FR BA z3
  obtain ⟨k,out,S,hk,rfl,hrun,hown,hSS,hb⟩:=hrel
  have HB:=zH hb
  have ON:=zH hown
  have HR:=zH hrun
  have SSa:=zH (fun b h=>(hSS b h).1)
  have SSb:=zH (fun b h=>(hSS b h).2)
  obtain ⟨A1,c1,rfl,sl⟩:=hown.sl (S':=fun b=>S b ∨ bin w.heap.size wr.heap.size b) (by decide) (fun b h1 h2=>.inr ⟨h1,h2⟩) (fun b h=>.inl h)
  have OSL:=zH (show ∃ vs,RowsOf tTensor wr S vs out from let ⟨vs,_,h⟩:=hown.out;⟨vs,h⟩)
  have SL:=zH sl
  clear hb hown hrun sl hSS
  by_cases hlt:k < n
  ·have p1:(k:Int) < (n:Int):=by omega
   obtain ⟨d,b0,off,W,nw,cw,B,nb,cb,hd,rfl,_,_,hin,hw8,hw32,hrg⟩:=(H.out.below HB.out (fun _ h=>h)).node_at k hlt
   have hsz:=HF.out d (List.mem_of_getElem? hd)
   have hnx:=runV_next HR.out hd
   have q8:=hw8.n_eq
   have q32:=hw32.n_eq
   obtain ⟨p2,p3,p4,p5⟩:=there_bd (THR.out k d hd)
   obtain ⟨ia,hia⟩:∃ ia,d.a.toNat=ia:=⟨_,rfl⟩
   obtain ⟨ib,hib⟩:∃ ib,(secondV d).toNat=ib:=⟨_,rfl⟩
   obtain ⟨t,b2,Dt,mt,ct,x1,rfl,hg1,hg2,ti,s1,q1⟩:=ON.out.tensor_at ia (by omega)
   obtain ⟨t2',b2',Du,mu,cu,x2,e0,_,_,ui,s2,q2⟩:=ON.out.tensor_at ib (by omega)
   obtain rfl:b2=b2':=by simpa using e0
   have MV:moreV d out=nodeQ d t t2':=by
    unfold moreV
    rw [hia,hib,List.getD_eq_getElem?_getD,List.getD_eq_getElem?_getD,x1,x2];rfl
   have zr:=HB.out.size
   have SC:=zH (fun w=>second_any d W nw cw B nb cb w)
   have RN:=zH (fun w' (hb:Below wr.heap.size wr w')=>rrunNode_sub S d W nw cw B nb cb t t2' Dt Du mt ct mu cu w' ti ui hin ((hw8.more (blo_more zr)).later hb (Nat.le_refl _)) ((hw32.more (blo_more zr)).later hb (Nat.le_refl _)) ((s1.more (S':=blo wr.heap.size) fun b h=>SSa.out b h).later hb (Nat.le_refl _)) ((s2.more (S':=blo wr.heap.size) fun b h=>SSa.out b h).later hb (Nat.le_refl _)) (by omega) (s1.below hb fun b h=>SSa.out b h) (fun b h=>Nat.lt_of_lt_of_le (SSa.out b h) hb.size))
   have NG:=zH (moreV_ok (d:=d) (l:=out))
   obtain ⟨⟨y,ye⟩,hy⟩:∃ q,nodeQ d t t2'=q:=⟨_,rfl⟩
   rw [MV,hy] at hnx NG
   rw [hy] at RN
   simp only at hnx NG
   obtain ⟨sc,hsc⟩:∃ s,secondV d=s:=⟨_,rfl⟩
   rw [hsc] at p4 p5 SC hib
   have p3':d.a < (k:Int)+1:=by omega
   have p5':sc < (k:Int)+1:=by omega
   have NX:=zH hnx
   have RG:=zH hrg
   have Q1:=zH q1
   have Q2:=zH q2
   have cA:wr.cell? ⟨b0,off+k*19+1,none⟩=some (.int .i64 d.a):=hrg 1 _ rfl
   clear hd hin hw8 hw32 hrg hnx hy MV x1 x2 ti ui s1 s2 q1 q2 e0 hsc OSL
   go_wp2_with fail
   go_cut [12,13] (fun b c wx=>∃ K D8 m8 c8,b=.pointer (some ⟨K,0,none⟩)∧c=.int .i64 ye∧Blk wx K 27 (tN y.h y.v y.c D8 m8 c8)∧Sl (tInt .i8) wx (fun b=>S b ∨ bin wr.heap.size wx.heap.size b) D8 m8 c8 y.data∧Below wr.heap.size wr wx)
   case first =>
     refine wp_region_held_drew (S:=fun w'=>w'.cell? ⟨b0,off+k*19+1,none⟩=some (.int .i64 d.a)∧Below wr.heap.size wr w') (by kernel_rfl) ?_ (fun hS=>?_)
     ·exact ⟨cA,(Below.refl _ _).drew⟩
     refine kH 0 rfl hS ?_
     try simp only [pX]
     refine kH 1 rfl hS ?_
     try simp only [pX]
     refine kH 2 rfl hS ?_
     try simp only [pX]
     refine tkH 3 rfl (yieldsIf_load_mid (by rfl) 44 (.tmp 40) rfl b0 (off+k*19) rfl _ _ (fun w hs j v hv=>cell_later hs.2 (RG.out j v hv)) Tryz.underlying44 rfl (by kernel_rfl)) hS ?_
     try simp only [pX]
     refine kH 4 rfl hS ?_
     try simp only [pX]
     refine kH 5 rfl hS ?_
     try simp only [pX]
     refine kH 6 rfl hS ?_
     try simp only [pX]
     refine kH 7 rfl hS ?_
     try simp only [pX]
     refine kH 8 rfl hS ?_
     try simp only [pX]
     refine kH 9 rfl hS ?_
     try simp only [pX]
     refine kH 10 rfl hS ?_
     try simp only [pX]
     refine tkH 11 rfl (yieldsIf_load_mid (by rfl) 27 (.tmp 48) rfl b2 (ia*4) (by rw [← hia];first|rfl|simp) _ _ (fun w hs j v hv=>cell_later hs.2 (Q1.out j v hv)) Tryz.underlying27 rfl (by kernel_rfl)) hS ?_
     try simp only [pX]
     refine kH 12 rfl hS ?_
     try simp only [pX]
     refine kH 13 rfl hS ?_
     try simp only [pX]
     refine kH 14 rfl hS ?_
     try simp only [pX]
     refine kH 15 rfl hS ?_
     try simp only [pX]
     refine tkH 16 rfl (yieldsIf_load_mid (by rfl) 44 (.tmp 53) rfl b0 (off+k*19) rfl _ _ (fun w hs j v hv=>cell_later hs.2 (RG.out j v hv)) Tryz.underlying44 rfl (by kernel_rfl)) hS ?_
     try simp only [pX]
     refine wpAnyH_ready (rs:=[17,24]) (by kernel_rfl) (by simp) ?_
     refine AllReadyH.cons rfl (fun K hK=>?_) (AllReadyH.cons rfl (fun K hK=>?_) AllReadyH.nil)
     ·go_simp
      refine (SC.out _).mono ?_;rintro e wc1 ⟨rfl,hb⟩;refine hK.out _ _ ⟨cell_later hb hS.1,below_later hb hS.2⟩ (fun hS=>?_);clear hb
      clear hK K
      try simp only [pX]
      refine kH 18 rfl hS ?_
      try simp only [pX]
      refine tkH 19 rfl (yieldsIf_load_mid (by rfl) 27 (.tmp 56) rfl b2 (ib*4) (by rw [← hib];first|rfl|simp) _ _ (fun w hs j v hv=>cell_later hs.2 (Q2.out j v hv)) Tryz.underlying27 rfl (by kernel_rfl)) hS ?_
      try simp only [pX]
      refine wpAnyH_ready (rs:=[20,24]) (by kernel_rfl) (by simp) ?_
      refine AllReadyH.cons rfl (fun K hK=>?_) (AllReadyH.cons rfl (fun K hK=>?_) AllReadyH.nil)
      ·go_simp
       refine (RN.out _ hS.2).mono ?_;rintro e wc2 ⟨D8,m8,c8,rfl,s8,hb⟩;have hz8:=hS.2.size;have S8:=zH s8;have LO8:=zH (show ∀ b,bin wc1.heap.size wc2.heap.size b → wr.heap.size≤b from fun b h=>Nat.le_trans hz8 h.1);refine hK.out _ _ ⟨cell_later hb hS.1,below_later hb hS.2⟩ (fun hS=>?_);clear s8
       clear hK K
       try simp only [pX]
       refine kH 21 rfl hS ?_
       try simp only [pX]
       refine kH 22 rfl hS ?_
       try simp only [pX]
       refine kH 23 rfl hS ?_
       try simp only [pX]
       refine rH 24 rfl (fun K hK=>?_)
       go_simp
       have hb:Below wc2.heap.size wc2 (wc2.alloc (.cells (tN 0 0 0 none 0 0) 27)):=(Below.refl _ _).alloc (Nat.le_refl _) _
       have BZ:=zH (Blk.now wc2 wc2.heap.size 27 (tN 0 0 0 none 0 0) rfl)
       have BK:=zH (show wc2.heap.size < (wc2.alloc (.cells (tN 0 0 0 none 0 0) 27)).heap.size by simp)
       have hzk:=hS.2.size
       have LT8:=zH (show ∀ b,bin wc1.heap.size wc2.heap.size b → b < (wc2.alloc (.cells (tN 0 0 0 none 0 0) 27)).heap.size from fun b h=>by have:=h.2;simp;omega);have NE8:=zH (show ∀ b,bin wc1.heap.size wc2.heap.size b → ¬ b=wc2.heap.size from fun b h e=>by have:=h.2;omega)
       replace S8:=zH (S8.out.keep fun b h=>hb.block b (by rcases h with h|h;exact Nat.lt_of_lt_of_le (SSa.out b h) hzk;exact h.2))
       refine hK.out _ _ ⟨cell_later hb hS.1,below_later hb hS.2⟩ (fun hS=>?_)
       clear hK K hb
       try simp only [pX]
       refine rH 25 rfl (fun K hK=>?_)
       rw [if_pos (by rfl)];refine oper_store_blk 27 (.tmp 12) (.tmp 59) rfl wc2.heap.size 0 (tN y.h y.v y.c D8 m8 c8) rfl rfl _ (tN 0 0 0 none 0 0) (tN y.h y.v y.c D8 m8 c8) BZ.out (by simp) (by kernel_rfl) (by simp [Value.oneCell']) rfl ?_;intro wz BX gz
       have kz:Below wr.heap.size wr wz:=hS.2.grown gz hS.2.size (fun k h=>by have:=Option.some.inj h;omega)
       have SZ:=zH (S8.out.keep fun b h=>gz.block b (by rcases h with h|h;exact Nat.lt_of_lt_of_le (SSa.out b h) hS.2.size;exact LT8.out b h) (fun e=>by have:=Option.some.inj e;rcases h with h|h;have:=SSa.out b h;omega;exact absurd this (NE8.out b h)))
       refine hK.out _ _ ⟨cell_later kz cA,kz⟩ (fun hS=>?_)
       clear hK K
       try simp only [pX]
       refine kH 26 rfl hS ?_
       try simp only [pX]
       refine wpAnyH_done (by kernel_rfl) ?_ _
       go_wp2_with fail
       go_meet
       case rel=>exact ⟨_,D8,m8,c8,rfl,rfl,BX,SZ.out.more (fun b h=>by rcases h with h|h;exact .inl h;exact .inr ⟨LO8.out b h,Nat.lt_of_lt_of_le (LT8.out b h) gz.size⟩),kz⟩
      ·go_simp
       have hb:Below wc1.heap.size wc1 (wc1.alloc (.cells (tN 0 0 0 none 0 0) 27)):=(Below.refl _ _).alloc (Nat.le_refl _) _
       have BZ:=zH (Blk.now wc1 wc1.heap.size 27 (tN 0 0 0 none 0 0) rfl)
       have BK:=zH (show wc1.heap.size < (wc1.alloc (.cells (tN 0 0 0 none 0 0) 27)).heap.size by simp)
       have hzk:=hS.2.size
       refine hK.out _ _ ⟨cell_later hb hS.1,below_later hb hS.2⟩ (fun hS=>?_)
       clear hK K hb
       try simp only [pX]
       refine rH 20 rfl (fun K hK=>?_)
       go_simp
       refine (RN.out _ hS.2).mono ?_;rintro e wc2 ⟨D8,m8,c8,rfl,s8,hb⟩;have hz8:=hS.2.size;have hbz:=BZ.out.lt;replace BZ:=zH (BZ.out.later hb);have S8:=zH s8;have LO8:=zH (show ∀ b,bin (wc1.alloc (.cells (tN 0 0 0 none 0 0) 27)).heap.size wc2.heap.size b → wr.heap.size≤b from fun b h=>Nat.le_trans hz8 h.1);refine hK.out _ _ ⟨cell_later hb hS.1,below_later hb hS.2⟩ (fun hS=>?_);clear s8;have LT8:=zH (show ∀ b,bin (wc1.alloc (.cells (tN 0 0 0 none 0 0) 27)).heap.size wc2.heap.size b → b < wc2.heap.size from fun b h=>h.2);have NE8:=zH (show ∀ b,bin (wc1.alloc (.cells (tN 0 0 0 none 0 0) 27)).heap.size wc2.heap.size b → ¬ b=wc1.heap.size from fun b h e=>by have:=h.1;omega)
       clear hK K
       try simp only [pX]
       refine kH 21 rfl hS ?_
       try simp only [pX]
       refine kH 22 rfl hS ?_
       try simp only [pX]
       refine kH 23 rfl hS ?_
       try simp only [pX]
       refine rH 25 rfl (fun K hK=>?_)
       rw [if_pos (by rfl)];refine oper_store_blk 27 (.tmp 12) (.tmp 59) rfl wc1.heap.size 0 (tN y.h y.v y.c D8 m8 c8) rfl rfl _ (tN 0 0 0 none 0 0) (tN y.h y.v y.c D8 m8 c8) BZ.out (by simp) (by kernel_rfl) (by simp [Value.oneCell']) rfl ?_;intro wz BX gz
       have kz:Below wr.heap.size wr wz:=hS.2.grown gz hS.2.size (fun k h=>by have:=Option.some.inj h;omega)
       have SZ:=zH (S8.out.keep fun b h=>gz.block b (by rcases h with h|h;exact Nat.lt_of_lt_of_le (SSa.out b h) hS.2.size;exact LT8.out b h) (fun e=>by have:=Option.some.inj e;rcases h with h|h;have:=SSa.out b h;omega;exact absurd this (NE8.out b h)))
       refine hK.out _ _ ⟨cell_later kz cA,kz⟩ (fun hS=>?_)
       clear hK K
       try simp only [pX]
       refine kH 26 rfl hS ?_
       try simp only [pX]
       refine wpAnyH_done (by kernel_rfl) ?_ _
       go_wp2_with fail
       go_meet
       case rel=>exact ⟨_,D8,m8,c8,rfl,rfl,BX,SZ.out.more (fun b h=>by rcases h with h|h;exact .inl h;exact .inr ⟨LO8.out b h,Nat.lt_of_lt_of_le (LT8.out b h) gz.size⟩),kz⟩
     ·go_simp
      have hb:Below wr.drew.heap.size wr.drew (wr.drew.alloc (.cells (tN 0 0 0 none 0 0) 27)):=(Below.refl _ _).alloc (Nat.le_refl _) _
      have BZ:=zH (Blk.now wr.drew wr.drew.heap.size 27 (tN 0 0 0 none 0 0) rfl)
      have BK:=zH (show wr.drew.heap.size < (wr.drew.alloc (.cells (tN 0 0 0 none 0 0) 27)).heap.size by simp)
      have hzk:=hS.2.size
      refine hK.out _ _ ⟨cell_later hb hS.1,below_later hb hS.2⟩ (fun hS=>?_)
      clear hK K hb
      try simp only [pX]
      refine rH 17 rfl (fun K hK=>?_)
      go_simp
      refine (SC.out _).mono ?_;rintro e wc1 ⟨rfl,hb⟩;replace BZ:=zH (BZ.out.later hb);refine hK.out _ _ ⟨cell_later hb hS.1,below_later hb hS.2⟩ (fun hS=>?_);clear hb
      clear hK K
      try simp only [pX]
      refine kH 18 rfl hS ?_
      try simp only [pX]
      refine tkH 19 rfl (yieldsIf_load_mid (by rfl) 27 (.tmp 56) rfl b2 (ib*4) (by rw [← hib];first|rfl|simp) _ _ (fun w hs j v hv=>cell_later hs.2 (Q2.out j v hv)) Tryz.underlying27 rfl (by kernel_rfl)) hS ?_
      try simp only [pX]
      refine rH 20 rfl (fun K hK=>?_)
      go_simp
      refine (RN.out _ hS.2).mono ?_;rintro e wc2 ⟨D8,m8,c8,rfl,s8,hb⟩;have hz8:=hS.2.size;have hbz:=BZ.out.lt;replace BZ:=zH (BZ.out.later hb);have S8:=zH s8;have LO8:=zH (show ∀ b,bin wc1.heap.size wc2.heap.size b → wr.heap.size≤b from fun b h=>Nat.le_trans hz8 h.1);refine hK.out _ _ ⟨cell_later hb hS.1,below_later hb hS.2⟩ (fun hS=>?_);clear s8;have LT8:=zH (show ∀ b,bin wc1.heap.size wc2.heap.size b → b < wc2.heap.size from fun b h=>h.2);have NE8:=zH (show ∀ b,bin wc1.heap.size wc2.heap.size b → ¬ b=wr.drew.heap.size from fun b h e=>by have:=h.1;omega)
      clear hK K
      try simp only [pX]
      refine kH 21 rfl hS ?_
      try simp only [pX]
      refine kH 22 rfl hS ?_
      try simp only [pX]
      refine kH 23 rfl hS ?_
      try simp only [pX]
      refine rH 25 rfl (fun K hK=>?_)
      rw [if_pos (by rfl)];refine oper_store_blk 27 (.tmp 12) (.tmp 59) rfl wr.drew.heap.size 0 (tN y.h y.v y.c D8 m8 c8) rfl rfl _ (tN 0 0 0 none 0 0) (tN y.h y.v y.c D8 m8 c8) BZ.out (by simp) (by kernel_rfl) (by simp [Value.oneCell']) rfl ?_;intro wz BX gz
      have kz:Below wr.heap.size wr wz:=hS.2.grown gz hS.2.size (fun k h=>by have:=Option.some.inj h;omega)
      have SZ:=zH (S8.out.keep fun b h=>gz.block b (by rcases h with h|h;exact Nat.lt_of_lt_of_le (SSa.out b h) hS.2.size;exact LT8.out b h) (fun e=>by have:=Option.some.inj e;rcases h with h|h;have:=SSa.out b h;omega;exact absurd this (NE8.out b h)))
      refine hK.out _ _ ⟨cell_later kz cA,kz⟩ (fun hS=>?_)
      clear hK K
      try simp only [pX]
      refine kH 26 rfl hS ?_
      try simp only [pX]
      refine wpAnyH_done (by kernel_rfl) ?_ _
      go_wp2_with fail
      go_meet
      case rel=>exact ⟨_,D8,m8,c8,rfl,rfl,BX,SZ.out.more (fun b h=>by rcases h with h|h;exact .inl h;exact .inr ⟨LO8.out b h,Nat.lt_of_lt_of_le (LT8.out b h) gz.size⟩),kz⟩
   case rest =>
    obtain ⟨K,D8,m8,c8,rfl,rfl,hX,hs8,hG⟩:=hcut
    have BX:=zH hX
    have T9:=zH hs8
    have OL:=zH ON.out.lt
    have O9:=zH (ON.out.below hG (Nat.le_refl _) (fun b h=>SSa.out b h))
    have F9:=zH (below_later hG HB.out)
    have z9:=hG.size
    clear hX hs8 hG SC RN
    by_cases hye:ye=0
    ·subst hye
     have t4:((0:Int) != 0)=false:=rfl
     have YI:=zH (ok_in (NG.out rfl))
     rw [if_neg (by decide)] at NX
     clear NG
     go_wp2_with (first
      | (refine wpList_load_blk rfl 27 (.tmp 12) rfl K 0 rfl _ _ (tN y.h y.v y.c D8 m8 c8) _ BX.out Tryz.underlying27 rfl (by kernel_rfl) rfl ?_)
      | (refine wpList_lit1 rfl (.tmp 66) rfl ei_tens (tN y.h y.v y.c D8 m8 c8) rfl rfl (by decide) ?_)
      | (at_builtin;refine wpList_push (W:=wc) (cs:=(tN y.h y.v y.c D8 m8 c8)) (E:=27) (t:=tTensor) (S:=fun b=>S b ∨ bin wr.heap.size wc.heap.size b) (base:=w.heap.size) rfl (.tmp 65) (.tmp 67) rfl ei_tens rfl (O9.out.wide fun b h=>.inl h) 1 rfl y (trep YI.out T9.out) (by unfold maxLen;omega) (by omega) F9.out.size (fun b h=>(by rcases h with h|h;exact ⟨Nat.lt_of_lt_of_le (SSa.out b h) z9,SSb.out b h⟩;exact ⟨h.2,fun e=>absurd (OL.out b e.symm).2 (Nat.not_lt.2 h.1)⟩)) ?_;intro v' wz ownz gz atz))
     have bz:=F9.out.grown gz F9.out.size (fun j hj=>(OL.out j hj).1)
     refine ⟨⟨k+1,out ++ [y],_,by omega,by go_num,NX.out,ownz,fun b h=>?_,bz⟩,by simp [intOf];omega⟩
     have q:b < wc.heap.size∧some b ≠ (Value.slice (some ⟨b2,0,none⟩) (k+1) c1).ownBlock:=by
      rcases h with h|h
      ·exact ⟨Nat.lt_of_lt_of_le (SSa.out b h) z9,SSb.out b h⟩
      ·exact ⟨h.2,fun e=>absurd (OL.out b e.symm).2 (Nat.not_lt.2 h.1)⟩
     refine ⟨Nat.lt_of_lt_of_le q.1 gz.size,fun e=>?_⟩
     rcases atz with a|a <;> rw [a] at e
     ·exact q.2 e
     ·have:=Option.some.inj e;have:=q.1;omega
    ·have t4:(ye != 0)=true:=by simpa using hye
     rw [if_pos hye] at NX
     have R:=zH (show r=([],(k:Int),ye) by rw [V2.out,runV_bad NX.out n (by omega)];rfl)
     clear hye NG NX V2
     go_wp2_with fail
     go_ret3
     rw [R.out]
     exact RetValO.none F9.out
  ·obtain rfl:k=n:=by omega
   have R:=zH (show r=(out,(k:Int),0) by rw [V2.out,HR.out];rfl)
   clear hlt hk V2
   go_wp2_with fail
   go_ret3
   rw [R.out]
   exact ⟨A1,_,c1,rfl,SL.out.more (fun b h=>by rcases h with h|h;exact SSa.out b h;exact h.2),HB.out⟩
theorem graphValues_any (A:Option Addr) (n cap:Nat) (l:List Node) (x:Tensor) (D:Option Addr) (m cm:Nat) (w:World) (hs:Sl tNode w (blo w.heap.size) A n cap l) (hx:TensorIn x) (hd:Sl (tInt .i8) w (blo w.heap.size) D m cm x.data) :
  Calls Tryz.prog 3 #[.slice A n cap,.agg (tN x.h x.v x.c D m cm)] w fun e w'=>e=.returned (.bool true)∧Below w.heap.size w w':=by
 have FW:=zH (fun w hs=>few27_any A n cap l x.h x.v x.c D m cm w hs)
 have KN:=zH (fun w=>known27_any w)
 have VA:=zH (fun w hs hd h300 hf=>values_any A n cap l x D m cm w hs hx hd h300 hf)
 have RV:=zH (fun w hs hd h300 hf=>rvalues_any A n cap l x D m cm w hs hx hd h300 hf)
 have EV:=zH (fun w hs hd h300 hf=>eval_any A n cap l x D m cm w hs hx hd h300 hf)
 have VO:=zH (values_ok (l:=l) (x:=x))
 obtain ⟨y,hy⟩:∃ q,evalV l x=q:=⟨_,rfl⟩
 rw [hy] at EV
 unfold evalV at hy
 obtain ⟨⟨vl,at_,code⟩,hv⟩:∃ q,valuesV l x=q:=⟨_,rfl⟩
 have VP:=zH (show code=0 → 0 < vl.length from fun h=>by
  rw [hv] at VO
  obtain ⟨_,_,out,h1,h2⟩:=VO.out h
  injection h2 with h2 _
  rw [h2];exact runV_pos h1)
 rw [hv] at hy VA RV
 simp only at hy
 obtain ⟨y,a3,k3⟩:=y
 obtain ⟨rfl,rfl⟩:a3=at_∧k3=code:=by
  split at hy
  ·rename_i h;injection hy with h1 h2;injection h2 with h2 h3;exact ⟨h2.symm,by rw [← h3];exact h.symm⟩
  ·injection hy with h1 h2;injection h2 with h2 h3;exact ⟨h2.symm,h3.symm⟩
 have HY:=zH hy.symm
 have HX:=zH hx
 have HS:=zH (Old.now hs)
 have HD:=zH (Old.now hd)
 have FR:=zH (Far.refl w)
 obtain ⟨w1,hw_w1,BA,k_w1⟩:=nB w (tN x.h x.v x.c D m cm) 27
 replace FR:=zH (FR.out.fut k_w1)
 clear k_w1
 clear hs hd hx hv hy VO
 go_enter Tryz.func3,Tryz.ntmps3
 go_wp2_with (first|(refine lB 27 (.tmp 3) w.heap.size BA.out Tryz.underlying27 ?_)|(go_at_call 5;refine (FW.out _ (HS.out.fut FR.out.out).all).mono ?_;rintro e w2 ⟨bb,rfl,hbb,hb⟩;have FB:=zH hbb;replace FR:=zH (FR.out.fut hb);replace BA:=zH (BA.out.fut hb);clear hb hbb hw_w1;cases bb))
 ·refine (KN.out _).mono ?_
  rintro e w5 ⟨rfl,hb⟩
  have F5:=zH (FR.out.fut hb)
  clear hb
  go_wp2_with fail
  go_ret
  exact ⟨rfl,F5.out.out⟩
 obtain ⟨⟨h12,hf⟩,h300⟩:=FB.out (by trivial)
 have HF:=zH hf
 clear FB FW h12 hf
 go_wp2_with (refine lB 27 (.tmp 3) w.heap.size BA.out Tryz.underlying27 ?_)
 refine (VA.out _ (HS.out.fut FR.out.out).all (HD.out.fut FR.out.out).all h300 HF.out).mono ?_
 rintro e w3 ⟨A1,m1,c1,rfl,s1,hb⟩
 simp only at s1 ⊢
 have S1:=zH (s1.more (S':=blo w3.heap.size) (fun b h=>h.2))
 clear s1 VA
 replace FR:=zH (FR.out.fut hb)
 replace BA:=zH (BA.out.fut hb)
 clear hb
 go_wp2_with (refine lB 27 (.tmp 3) w.heap.size BA.out Tryz.underlying27 ?_)
 refine (RV.out _ (HS.out.fut FR.out.out).all (HD.out.fut FR.out.out).all h300 HF.out).mono ?_
 rintro e w4 ⟨A2,m2,c2,rfl,s2,hb⟩
 simp only at s2 ⊢
 have S2:=zH s2
 replace S1:=zH (S1.out.later hb (Nat.le_refl _))
 have N1:=S1.out.n_eq
 obtain rfl:m2=m1:=s2.n_eq.symm.trans N1
 have M1:m2≤9223372036854775807:=Nat.le_trans S1.out.cap_le S1.out.max_le
 clear s2 RV
 replace FR:=zH (FR.out.fut hb)
 replace BA:=zH (BA.out.fut hb)
 clear hb
 go_wp2_with (refine lB 27 (.tmp 3) w.heap.size BA.out Tryz.underlying27 ?_)
 refine (EV.out _ (HS.out.fut FR.out.out).all (HD.out.fut FR.out.out).all h300 HF.out).mono ?_
 rintro e w5 ⟨D3,m3,c3,rfl,s3,hb⟩
 simp only at s3 ⊢
 have S3:=zH (s3.more (S':=blo w5.heap.size) (fun b h=>h.2))
 replace S1:=zH (S1.out.later hb (Nat.le_refl _))
 replace S2:=zH (S2.out.later hb (Nat.le_refl _))
 clear s3 EV HS HD HF BA
 replace FR:=zH (FR.out.fut hb)
 clear hb
 obtain ⟨w6,hw_w6⟩:∃ nw_,w5.alloc (.cells (tN y.h y.v y.c D3 m3 c3) 27)=nw_:=⟨_,rfl⟩
 have k6:Below w5.heap.size w5 w6:=by rw [← hw_w6];exact (Below.refl _ _).alloc (Nat.le_refl _) _
 have BY:=zH (show Blk w6 w5.heap.size 27 (tN y.h y.v y.c D3 m3 c3) by rw [← hw_w6];exact Blk.now _ _ _ _ rfl)
 replace S1:=zH (S1.out.later k6 (Nat.le_refl _))
 replace S2:=zH (S2.out.later k6 (Nat.le_refl _))
 replace S3:=zH (S3.out.later k6 (Nat.le_refl _))
 replace FR:=zH (FR.out.fut k6)
 clear k6
 go_wp2_with fail
 clear hw_w6
 go_loopw [14] (fun i wr=>∃ k:Nat,k≤m2∧i=.int .i64 k∧Below w6.heap.size w6 wr) (fun i _=>m2 - (intOf i).toNat)
 case atStart=>exact ⟨0,Nat.zero_le _,rfl,Below.refl _ _⟩
 case round =>
  obtain ⟨k,hk,rfl,hb⟩:=hrel
  replace S1:=zH (S1.out.later hb (Nat.le_refl _))
  replace S2:=zH (S2.out.later hb (Nat.le_refl _))
  replace S3:=zH (S3.out.later hb (Nat.le_refl _))
  replace FR:=zH (FR.out.fut hb)
  replace BY:=zH (BY.out.fut hb)
  have HB:=zH hb
  clear hb
  by_cases hlt:k < m2
  ·have p1:(k:Int) < (m2:Int):=by omega
   obtain ⟨t,b1,o1,D1,n1,e1,x1,rfl,_,_,_,t1,r1⟩:=S1.out.tensor_at k hlt
   obtain ⟨t',b2,o2,D2,n2,e2,x2,rfl,_,_,_,t2,r2⟩:=S2.out.tensor_at k hlt
   obtain rfl:t'=t:=by rw [x1] at x2;exact (Option.some.inj x2).symm
   have R1:=zH (fun x:Ext wr=>fun j v hv=>ext_cell (r1 j v hv) x)
   have R2:=zH (fun x:Ext wr=>fun j v hv=>ext_cell (r2 j v hv) x)
   have E1:=zH (fun x:Ext wr=>calls_ext x (same05_eq t' D1 D2 n1 e1 n2 e2 x.1 (t1.later x.2 (Nat.le_refl _)) (t2.later x.2 (Nat.le_refl _))))
   clear x1 x2 t1 t2 r1 r2
   go_upto_region 11 with fail
   (try simp only [Act.put])
   refine wp_region_ext wr (by kernel_rfl) (by kernel_rfl) (Below.refl _ _) ?_
   go_big_quiet_step (first|exact E1.out _)
   go_big_quiet_step (first|exact E1.out _)
   go_big_quiet_step (first|exact E1.out _)
   refine wpQuiet_load_mid (by kernel_rfl) 27 (.tmp 74) rfl b1 (o1+k*4) rfl _ _ (by rintro _ ⟨x,rfl⟩;exact R1.out x) Tryz.underlying27 rfl (by kernel_rfl) ?_
   simp only [pX]
   go_big_quiet_step (first|exact E1.out _)
   go_big_quiet_step (first|exact E1.out _)
   go_big_quiet_step (first|exact E1.out _)
   refine wpQuiet_load_mid (by kernel_rfl) 27 (.tmp 78) rfl b2 (o2+k*4) rfl _ _ (by rintro _ ⟨x,rfl⟩;exact R2.out x) Tryz.underlying27 rfl (by kernel_rfl) ?_
   simp only [pX]
   go_big_quiet_step (first|exact E1.out _)
   go_big_quiet_step (first|exact E1.out _)
   refine wpQuiet_nil ?_
   rintro _ ⟨⟨wa,hba⟩,rfl⟩
   have GA:=zH (below_call HB.out hba HB.out.size)
   clear hba HB R1 R2 E1
   go_wp2_with fail
   exact ⟨⟨k+1,by omega,by go_num,GA.out⟩,by simp [intOf];omega⟩
  ·obtain rfl:k=m2:=by omega
   clear HB
   by_cases ck:k3=0
   rotate_left
   ·have t4:(k3 != 0)=true:=by simpa using ck
    have hz:=HY.out
    rw [if_neg ck] at hz
    injection hz with hz
    subst hz
    simp only [noTensor] at BY S3 ⊢
    clear ck HY VP S1 S2
    go_wp2_with (first|(refine wpList_load_blk rfl 27 (.tmp 11) rfl w5.heap.size 0 rfl _ _ (tN 0 0 0 D3 m3 c3) _ BY.out Tryz.underlying27 rfl (by kernel_rfl) rfl ?_)|(go_at_call 10;refine (same05_eq ⟨0,0,0,[]⟩ D3 none m3 c3 0 0 _ S3.out (Sl.nil _ _ _)).mono ?_;rintro e w7 ⟨rfl,hb⟩;replace FR:=zH (FR.out.fut hb);clear hb)|(go_at_call 6;refine (KN.out _).mono ?_;rintro e w8 ⟨rfl,hb⟩;replace FR:=zH (FR.out.fut hb);clear hb))
    go_ret
    exact ⟨rfl,FR.out.out⟩
   subst ck
   have t4:((0:Int) != 0)=false:=rfl
   have hp:=VP.out rfl
   obtain ⟨j,rfl⟩:∃ j,k=j+1:=⟨k - 1,by omega⟩
   have hz:=HY.out
   rw [if_pos rfl] at hz
   injection hz with hz
   obtain ⟨t,b2,o2,D2,n2,e2,x2,rfl,_,_,_,t2,r2⟩:=S2.out.tensor_at j (by omega)
   have hyt:y=t:=by rw [hz,N1,show j+1 - 1=j from rfl,List.getD_eq_getElem?_getD,x2];rfl
   subst hyt
   have R2:=zH (fun x:Ext wr=>fun j v hv=>ext_cell (r2 j v hv) x)
   have R1:=zH (fun x:Ext wr=>range_blk (off:=0) (vs:=[.int .i64 y.h,.int .i64 y.v,.int .i64 y.c,.slice D3 m3 c3]) (BY.out.ext x) rfl)
   have E1:=zH (fun x:Ext wr=>calls_ext x (same05_eq y D3 D2 m3 c3 n2 e2 x.1 (S3.out.later x.2 (Nat.le_refl _)) (t2.later x.2 (Nat.le_refl _))))
   have E2:=zH (fun x:Ext wr=>calls_ext x (KN.out x.1))
   have g1:((j+1:Nat):Int) - 1=(j:Int):=by omega
   have g2:(j:Int)+1 - 1=(j:Int):=by omega
   have g3:IntKind.i64.wrap (((j+1:Nat):Int) - 1)=(j:Int):=by rw [g1];exact IntWalk.i64_in _ (by omega)
   have p2:(j:Int) < ((j+1:Nat):Int):=by omega
   clear VP hp HY hz x2 t2 r2 S1 S2 S3
   go_upto_region 15 with fail
   (try simp only [Act.put])
   refine wp_region_ext wr (by kernel_rfl) (by kernel_rfl) (Below.refl _ _) ?_
   refine wpQuiet_load_mid (by kernel_rfl) 27 (.tmp 11) rfl w5.heap.size (0) rfl _ _ (by rintro _ ⟨x,rfl⟩;exact R1.out x) Tryz.underlying27 rfl (by kernel_rfl) ?_
   simp only [pX]
   go_big_quiet_step (first|exact E1.out _|exact E2.out _)
   go_big_quiet_step (first|exact E1.out _|exact E2.out _)
   go_big_quiet_step (first|exact E1.out _|exact E2.out _)
   go_big_quiet_step (first|exact E1.out _|exact E2.out _)
   go_big_quiet_step (first|exact E1.out _|exact E2.out _)
   refine wpQuiet_load_mid (by kernel_rfl) 27 (.tmp 95) rfl b2 (o2+j*4) rfl _ _ (by rintro _ ⟨x,rfl⟩;exact R2.out x) Tryz.underlying27 rfl (by kernel_rfl) ?_
   simp only [pX]
   go_big_quiet_step (first|exact E1.out _|exact E2.out _)
   go_big_quiet_step (first|exact E1.out _|exact E2.out _)
   go_big_quiet_step (first|exact E1.out _|exact E2.out _)
   go_big_quiet_step (first|exact E1.out _|exact E2.out _)
   go_big_quiet_step (first|exact E1.out _|exact E2.out _)
   refine wpQuiet_nil ?_
   rintro _ ⟨⟨wa,hba⟩,rfl⟩
   have F9:=FR.out.fut hba
   clear hba
   go_wp2_with fail
   go_ret
   exact ⟨rfl,F9.out⟩
theorem graphValues_walk (A:Option Addr) (n cap:Nat) (l:List Node) {W:World} (hs:Sl tNode W (blo W.heap.size) A n cap l) (cs:Array Value) (x:Tensor) (hx:tTensor.rep W (blo W.heap.size) cs.toList x) (w:World) (e:W=w) :
  Calls Tryz.prog 3 #[.slice A n cap,.agg cs] w fun e w'=>e=.returned (.bool true)∧Below w.heap.size w w':=by
 subst e
 obtain ⟨D,m,cm,e1,k1,k2⟩:=topen hx
 obtain ⟨cs⟩:=cs
 simp only at e1
 subst e1
 exact graphValues_any A n cap l x D m cm _ hs k1 k2
end Go.Proofs.YtjkmjpjknmghlaaGreat
namespace Go.Proofs.YtjkmjpjknmghlaaGreat
open Go.RowKit Go.ChangeShapes Go.WideShapes Go.Deep Go.ChangeAt
set_option maxRecDepth 100000 in
theorem graphValues_lifted (os:Os) (started:os.Started) (H:Type) (enc:TypeId × Value → H) :
  ReturnsInHanded {} Tryz.checked os 3 .any (Rows.graphValuesSpec.pre6 enc Tryz.prog Tryz.f3 Rows.graphValuesRow.domain false) (Rows.graphValuesSpec.post enc Tryz.prog Tryz.f3 false true false false):=by
 refine law_lift (C:=Tryz.checked) (T:=4) (by kernel_rfl) started (by kernel_rfl) Tryz.func3
  (ChangeSpec.witness6 (enc:=enc) (C:=Tryz.checked) false ⟨#[],#[.slice none 0 0,.agg (tN 0 0 0 none 0 0)],[]⟩ 8 (by kernel_rfl) (by kernel_rfl) (by kernel_rfl) (by kernel_rfl))
  (by kernel_rfl) (by kernel_rfl) rfl Tryz.underlying4 rfl ?_ ?_
 ·intro ds hlen
  match ds,hlen with
  | [d0,d1],_=>exact ⟨rfl,rfl,rfl⟩
 ·intro W base args ds p hval hA
  rw [Tryz.params3] at hA hval
  obtain ⟨v0,vs0,d0,ds0,p0,q0,hargs,rfl,rfl,h0,r0⟩:=trodAll_cons hA
  obtain ⟨v1,vs1,d1,ds1,p1,q1,rfl,rfl,rfl,h1,r1⟩:=trodAll_cons r0
  obtain ⟨rfl,rfl,rfl⟩:=trodAll_nil r1
  obtain rfl:args=#[v0,v1]:=by cases args;simp_all
  obtain ⟨A0,n0,cap0,l0,rfl,k0⟩:=arg_slice (t:=tNode) Tryz.underlying22 opens_nodes (hval 0 22 v0 rfl rfl) h0
  obtain ⟨cs1,y1,rfl,k1⟩:=arg_struct (t:=tTensor) Tryz.underlying27 opens_tensor (hval 1 27 v1 rfl rfl) h1
  exact graphValues_walk A0 n0 cap0 l0 k0 cs1 y1 k1 W rfl
theorem graphValues_holds:Rows.GraphValuesSaid :=
 OpenClaim.holds_of_wide 3 Tryz.f3 rfl rfl rfl rfl rfl rfl rfl ⟨rfl,rfl,rfl,rfl,rfl⟩ rfl rfl rfl rfl rfl (by kernel_rfl) Tryz.func3 (by kernel_rfl)
  (of_decide_eq_true (by kernel_rfl)) (by unfold Func.isWrapper;rw [if_neg (of_decide_eq_false (by kernel_rfl))];exact ⟨rfl,rfl⟩)
  (fun os started H enc _=>graphValues_lifted os started H enc)
#print axioms graphValues_holds
end Go.Proofs.YtjkmjpjknmghlaaGreat
