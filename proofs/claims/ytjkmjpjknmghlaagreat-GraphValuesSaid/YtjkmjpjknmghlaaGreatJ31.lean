/-
  The table of a function of numbers (layer 21): act.Table.
  Numbers by a table (layer 21): act.By, act.Of.
  Numbers by a function (layer 21): act.Of, the document's Of, of a tensor that is right.
  Numbers by a function (layer 21): the document's Of, of a tensor that is right.
-/
import Derived.Test.YtjkmjpjknmghlaaGreatJ24
import Derived.Deep.DeepCutAuto
import Derived.Deep.CutBlock
set_option linter.unusedVariables false
set_option linter.unusedSimpArgs false
namespace Go.Proofs.YtjkmjpjknmghlaaGreat
open Go.RowKit Go.ChangeShapes Go.WideShapes Fx
set_option maxRecDepth 100000
set_option maxHeartbeats 8000000
theorem ret_arr_tmp {P:Program} {fn:Func} {R:Ending → World → Prop} {a:Act} {w:World} {g:Nat} {e ty el:TypeId} {n:Nat} {cs:Array Value} {p u:Tmp} (h:fn.results=#[.cell p ty,.tmp u]) (hb:Blk w g e cs) (hp:a.tmps.getD p undef=.pointer (some ⟨g,0,none⟩)) (hu:P.underlying ty=some (.array n el)) (hi:(P.info? ty).map (·.size)=some cs.size) (hd:a.defers=[])
  (hR:R (.returned (.tuple #[.agg cs,a.tmps.getD u undef])) w):bodyPost P fn R .ret a w:=by
 refine bodyPost_ret (v:=.tuple #[.agg cs,a.tmps.getD u undef]) ?_ hd hR
 rw [results_cell_tmp h,hp,run_asAddr_ptr,Result.andThen_ok,run_loadVar_row w g e ty cs (0,0) (.array n el) hb.heap hu rfl hi,Result.andThen_ok]
def tabC (f:Nat → Int) (k:Nat):Array Value:=(Array.range 256).map fun i=>.int .i8 (if i < k then f i else 0)
theorem tabC_size (f:Nat → Int) (k:Nat):(tabC f k).size=256:=by simp [tabC]
theorem tabC_at (f:Nat → Int) (k i:Nat) (h:i < 256):(tabC f k)[i]?=some (.int .i8 (if i < k then f i else 0)):=by
 unfold tabC
 rw [Array.getElem?_map,Array.getElem?_range,if_pos h];rfl
theorem tabC_zero (f:Nat → Int):Tryz.zeroCells116=tabC f 0:=by
 have e:tabC f 0=tabC (fun _=>0) 0:=by
  unfold tabC
  congr 1
 rw [e]
 show Tryz.zeroCells116=tabC (fun _=>0) 0
 kernel_rfl
theorem tabC_set (f:Nat → Int) (k:Nat) (h:k < 256):(tabC f (k+1)).toList=(tabC f k).toList.take k ++ [.int .i8 (f k)] ++ (tabC f k).toList.drop (k+1):=by
 apply List.ext_getElem?
 intro i
 rw [List.append_assoc]
 by_cases h1:i < k
 ·rw [List.getElem?_append_left (by simp [tabC_size];omega),List.getElem?_take,if_pos h1,Array.getElem?_toList,Array.getElem?_toList,tabC_at _ _ _ (by omega),tabC_at _ _ _ (by omega),if_pos (by omega),if_pos h1]
 ·rw [List.getElem?_append_right (by simp [tabC_size];omega)]
  simp only [List.length_take,Array.length_toList,tabC_size]
  rw [Nat.min_eq_left (by omega)]
  by_cases h2:i=k
  ·subst h2
   rw [Nat.sub_self,Array.getElem?_toList,tabC_at _ _ _ h,if_pos (by omega)]
   rfl
  ·obtain ⟨j,hj⟩:∃ j,i - k=j+1:=⟨i - k - 1,by omega⟩
   rw [hj]
   show _=([] ++ (tabC f k).toList.drop (k+1))[j]?
   rw [List.nil_append,List.getElem?_drop,Array.getElem?_toList,Array.getElem?_toList,show k+1+j=i by omega]
   by_cases h3:i < 256
   ·rw [tabC_at _ _ _ h3,tabC_at _ _ _ h3,if_neg (by omega),if_neg (by omega)]
   ·rw [Array.getElem?_eq_none (by rw [tabC_size];omega),Array.getElem?_eq_none (by rw [tabC_size];omega)]
theorem tabC_one (f:Nat → Int) (k:Nat):(tabC f k).all (·.oneCell')=true:=by
 unfold tabC
 rw [Array.all_eq_true]
 intro i hi
 simp [Value.oneCell']
def actF (d:Node) (i:Nat):Int:=oneV d ((i:Int) - 128)
theorem actTable_any (d:Node) (W:Option Addr) (nw cw:Nat) (B:Option Addr) (nb cb:Nat) (w:World) (hd:NodeIn d) :
  Calls Tryz.prog 85 #[.agg (nN d.kind d.a d.b d.k d.s d.p d.out d.za d.zb W nw cw B nb cb d.qm d.qs d.qz d.rm d.rs d.rz d.lo d.hi)] w fun e w'=>(∃ k:Nat,e=.returned (.tuple #[.agg (tabC (actF d) k),.int .i64 (if quantOk d.qm d.qs=true then 0 else 7)])∧(quantOk d.qm d.qs=true → k=256))∧Below w.heap.size w w':=by
 have QR:=zH (fun w=>fixRight_any d.qm d.qs d.qz w)
 have HD:=zH hd
 have FR:=zH (Far.refl w)
 obtain ⟨w1,hw_w1,BN,k_w1⟩:=nB w (nN d.kind d.a d.b d.k d.s d.p d.out d.za d.zb W nw cw B nb cb d.qm d.qs d.qz d.rm d.rs d.rz d.lo d.hi) 44
 replace FR:=zH (FR.out.fut k_w1)
 clear k_w1
 obtain ⟨w2,hw_w2⟩:∃ x,w1.alloc (.cells Tryz.zeroCells116 116)=x:=⟨_,rfl⟩
 have k2:Below w1.heap.size w1 w2:=by rw [← hw_w2];exact (Below.refl _ _).alloc (Nat.le_refl _) _
 have BR:=zH (show Blk w2 w1.heap.size 116 (tabC (actF d) 0) by rw [← hw_w2,tabC_zero (actF d)];exact Blk.now _ _ _ _ rfl)
 replace FR:=zH (FR.out.fut k2)
 replace BN:=zH (BN.out.fut k2)
 obtain ⟨w3,hw_w3⟩:∃ x,w2.alloc (.cells Tryz.zeroCells116 116)=x:=⟨_,rfl⟩
 have k3:Below w2.heap.size w2 w3:=by rw [← hw_w3];exact (Below.refl _ _).alloc (Nat.le_refl _) _
 have BT:=zH (show Blk w3 w2.heap.size 116 (tabC (actF d) 0) by rw [← hw_w3,tabC_zero (actF d)];exact Blk.now _ _ _ _ rfl)
 replace FR:=zH (FR.out.fut k3)
 replace BN:=zH (BN.out.fut k3)
 replace BR:=zH (BR.out.fut k3)
 have l1:w.heap.size < w1.heap.size:=by rw [← hw_w1];simp
 have l2:w1.heap.size < w2.heap.size:=by rw [← hw_w2];simp
 obtain ⟨q,hq⟩:∃ q,quantOk d.qm d.qs=q:=⟨_,rfl⟩
 rw [hq] at QR ⊢
 clear hd hq k2 k3
 cases q with
 | false =>
  go_enter Tryz.func85,Tryz.ntmps85
  go_wp2_with (first|(refine wpList_load_blk rfl 42 (.tmp 6) rfl w.heap.size 11 rfl _ (nN d.kind d.a d.b d.k d.s d.p d.out d.za d.zb W nw cw B nb cb d.qm d.qs d.qz d.rm d.rs d.rz d.lo d.hi) #[.int .i32 d.qm,.int .i64 d.qs,.int .i8 d.qz] _ BN.out Tryz.underlying42 rfl (by kernel_rfl) rfl ?_)|(go_at_call 73;refine (QR.out _).mono ?_;rintro e wb ⟨rfl,hb⟩;replace FR:=zH (FR.out.fut hb);replace BT:=zH (BT.out.fut hb);replace BR:=zH (BR.out.fut hb);clear hb)|(refine wpList_load_blk rfl 116 (.tmp 4) rfl w2.heap.size 0 rfl _ (tabC (actF d) 0) (tabC (actF d) 0) _ BT.out Tryz.underlying116 rfl (by rw [tabC_size];kernel_rfl) (by rw [List.drop_zero,List.take_of_length_le (by simp)]) ?_)|(refine wpList_store_all rfl 116 (.tmp 2) (.tmp 10) rfl w1.heap.size (tabC (actF d) 0) rfl rfl _ (tabC (actF d) 0) BR.out (by simp [tabC_size]) (by rw [tabC_size];kernel_rfl) (tabC_one _ _) ?_;intro w9 B9 g9))
  refine ret_arr_tmp rfl B9 rfl Tryz.underlying116 (by rw [tabC_size];kernel_rfl) rfl ?_
  exact ⟨⟨0,rfl⟩,(FR.out.away g9 (by omega)).out⟩
 | true =>
  go_enter Tryz.func85,Tryz.ntmps85
  go_wp2_with (first|(refine wpList_load_blk rfl 42 (.tmp 6) rfl w.heap.size 11 rfl _ (nN d.kind d.a d.b d.k d.s d.p d.out d.za d.zb W nw cw B nb cb d.qm d.qs d.qz d.rm d.rs d.rz d.lo d.hi) #[.int .i32 d.qm,.int .i64 d.qs,.int .i8 d.qz] _ BN.out Tryz.underlying42 rfl (by kernel_rfl) rfl ?_)|(go_at_call 73;refine (QR.out _).mono ?_;rintro e wb ⟨rfl,hb⟩;replace FR:=zH (FR.out.fut hb);replace BN:=zH (BN.out.fut hb);replace BT:=zH (BT.out.fut hb);replace BR:=zH (BR.out.fut hb);clear hb))
  clear hw_w1 hw_w2 hw_w3
  go_loopw [11] (fun ii wr=>∃ k:Nat,k≤256∧ii=.int .i64 k∧Far w wr∧Blk wr w.heap.size 44 (nN d.kind d.a d.b d.k d.s d.p d.out d.za d.zb W nw cw B nb cb d.qm d.qs d.qz d.rm d.rs d.rz d.lo d.hi)∧Blk wr w1.heap.size 116 (tabC (actF d) 0)∧Blk wr w2.heap.size 116 (tabC (actF d) k)) (fun ii _=>256 - (intOf ii).toNat)
  case atStart=>exact ⟨0,Nat.zero_le _,rfl,FR.out,BN.out,BR.out,BT.out⟩
  case round =>
   obtain ⟨k,hk,rfl,hf,hbn,hbr,hbt⟩:=hrel
   clear FR BN BR BT
   have FR:=zH hf
   have BN:=zH hbn
   have BR:=zH hbr
   have BT:=zH hbt
   clear hf hbn hbr hbt
   by_cases hlt:k < 256
   ·have p1:(k:Int) < 256:=by omega
    have ew:IntKind.i8.wrap ((k:Int) - 128)=(k:Int) - 128:=by have:=w8_eq ((k:Int) - 128);unfold w8 at this;rw [this];omega
    have OV:=zH (fun w=>actOne_any ((k:Int) - 128) d W nw cw B nb cb w (by rw [inK_i8];omega) HD.out)
    have SF:=zH (show oneV d ((k:Int) - 128)=actF d k from rfl)
    rw [SF.out] at OV
    have TS:=zH (tabC_set (actF d) k hlt)
    obtain ⟨v,hv⟩:∃ v,actF d k=v:=⟨_,rfl⟩
    rw [hv] at OV TS
    clear hv
    go_wp2_with (first|(refine lB 44 (.tmp 1) w.heap.size BN.out Tryz.underlying44 ?_)|(go_at_call 116;refine (OV.out _).mono ?_;rintro e wb ⟨rfl,hb⟩;replace FR:=zH (FR.out.fut hb);replace BN:=zH (BN.out.fut hb);replace BT:=zH (BT.out.fut hb);replace BR:=zH (BR.out.fut hb);clear hb)|(refine wpList_store_one rfl 39 (.tmp 20) (.tmp 19) rfl w2.heap.size k (.int .i8 v) rfl rfl rfl rfl _ (tabC (actF d) k) (tabC (actF d) (k+1)) BT.out (by rw [tabC_size];exact hlt) (by kernel_rfl) TS.out ?_;intro w9 B9 g9))
    exact ⟨⟨k+1,by omega,by go_num,FR.out.away g9 (by omega),BN.out.away g9 (.inl (by omega)),BR.out.away g9 (.inl (by omega)),B9⟩,by simp [intOf];omega⟩
   ·obtain rfl:k=256:=by omega
    go_wp2_with (first|(refine wpList_load_blk rfl 116 (.tmp 4) rfl w2.heap.size 0 rfl _ (tabC (actF d) 256) (tabC (actF d) 256) _ BT.out Tryz.underlying116 rfl (by rw [tabC_size];kernel_rfl) (by rw [List.drop_zero,List.take_of_length_le (by simp)]) ?_)|(refine wpList_store_all rfl 116 (.tmp 2) (.tmp 22) rfl w1.heap.size (tabC (actF d) 256) rfl rfl _ (tabC (actF d) 0) BR.out (by simp [tabC_size]) (by rw [tabC_size];kernel_rfl) (tabC_one _ _) ?_;intro w9 B9 g9))
    refine ret_arr_tmp rfl B9 rfl Tryz.underlying116 (by rw [tabC_size];kernel_rfl) rfl ?_
    exact ⟨rfl,(FR.out.away g9 (by omega)).out⟩
end Go.Proofs.YtjkmjpjknmghlaaGreat
namespace Go.Proofs.YtjkmjpjknmghlaaGreat
open Go.RowKit Go.ChangeShapes Go.WideShapes Fx
set_option maxRecDepth 100000
set_option maxHeartbeats 8000000
theorem actBy_any (t:Tensor) (A:Option Addr) (n cap:Nat) (F:Nat → Int) (w:World) (ht:TensorIn t) (ha:Sl (tInt .i8) w (blo w.heap.size) A n cap t.data) (c1:t.ok=true) (hF:∀ i,InK .i8 (F i)) :
  Calls Tryz.prog 86 #[.agg (tN t.h t.v t.c A n cap),.agg (tabC F 256)] w (RetT .i8 ⟨t.h,t.v,t.c,(List.range n).map fun i=>F (t.data.getD i 0+128).toNat⟩ 0 w):=by
 have HA:=zH ha
 have HF:=zH hF
 have HT:=zH ht
 obtain ⟨H,V,C,TK⟩:=tok_of c1
 have hn2:n≤1024:=by have:=TK.n_le;rw [ha.n_eq] at this;exact this
 have c1':decide (0 < elems t.h t.v t.c∧elems t.h t.v t.c=n)=true:=by rw [← HA.out.n_eq];simpa [Tensor.ok] using c1
 have RI:=zH (fun w=>tensorRight_any t.h t.v t.c A n cap w ht.h ht.v ht.c (Nat.le_trans ha.cap_le ha.max_le))
 rw [c1'] at RI
 have mx:n≤9223372036854775807:=by omega
 have FR:=zH (Far.refl w)
 obtain ⟨w1,hw_w1,BA,k_w1⟩:=nB w (tN t.h t.v t.c A n cap) 27
 replace FR:=zH (FR.out.fut k_w1)
 clear k_w1
 obtain ⟨w2,hw_w2⟩:∃ x,w1.alloc (.cells (tabC F 256) 116)=x:=⟨_,rfl⟩
 have k2:Below w1.heap.size w1 w2:=by rw [← hw_w2];exact (Below.refl _ _).alloc (Nat.le_refl _) _
 have BT:=zH (show Blk w2 w1.heap.size 116 (tabC F 256) by rw [← hw_w2];exact Blk.now _ _ _ _ rfl)
 replace FR:=zH (FR.out.fut k2)
 replace BA:=zH (BA.out.fut k2)
 obtain ⟨w3,hw_w3,BR,k_w3⟩:=nB w2 (tN 0 0 0 none 0 0) 27
 replace FR:=zH (FR.out.fut k_w3)
 replace BA:=zH (BA.out.fut k_w3)
 replace BT:=zH (BT.out.fut k_w3)
 clear k_w3
 have l1:w.heap.size < w1.heap.size:=by rw [← hw_w1];simp
 have l2:w1.heap.size < w2.heap.size:=by rw [← hw_w2];simp
 have l3:w2.heap.size < w3.heap.size:=by rw [← hw_w3];simp
 clear ht ha c1 c1' TK hF k2
 go_enter Tryz.func86,Tryz.ntmps86
 go_wp2_with (first|(refine lB 27 (.tmp 2) w.heap.size BA.out Tryz.underlying27 ?_)|(go_at_call 13;refine (RI.out _).mono ?_;rintro e w4 ⟨rfl,hb⟩;have l4:=hb.size;replace FR:=zH (FR.out.fut hb);replace BA:=zH (BA.out.fut hb);replace BT:=zH (BT.out.fut hb);replace BR:=zH (BR.out.fut hb);clear hb hw_w1 hw_w2 hw_w3))
 go_cut [6] (fun b wx=>∃ g q,b=.pointer (some ⟨g,0,none⟩)∧Blk wx g 27 (tN t.h t.v t.c (some ⟨q,0,none⟩) (n) (n))∧Own (tInt .i8) wx (fun _=>False) w4.heap.size 39 (.slice (some ⟨q,0,none⟩) (n) (n)) (n) (List.replicate (n) 0)∧q ≠ g∧w4.heap.size≤g∧Below w4.heap.size w4 wx)
 case first =>
  refine wp_region_held_drew (S:=fun w'=>w'.cell? ⟨w.heap.size,3,none⟩=some (.slice A n cap)∧Blk w' (w.heap.size) 27 (tN t.h t.v t.c A n cap)∧Below w4.heap.size w4 w') (by kernel_rfl) ?_ (fun hS=>?_)
  ·exact ⟨BA.out.drew.cell 3,BA.out.drew,(Below.refl _ _).drew⟩
  refine kH 0 rfl hS ?_
  try simp only [pX]
  refine tkH 1 rfl (yieldsIf_load_blk (by rfl) 24 (.tmp 13) rfl w.heap.size 0 rfl _ (tN t.h t.v t.c A n cap) (sN t.h t.v t.c) _ (fun w hs=>hs.2.1) Tryz.underlying24 rfl (by kernel_rfl) rfl) hS ?_
  try simp only [pX]
  refine kH 2 rfl hS ?_
  try simp only [pX]
  refine kH 3 rfl hS ?_
  try simp only [pX]
  refine kH 4 rfl hS ?_
  try simp only [pX]
  refine wpAnyH_ready (rs:=[5,7]) (by kernel_rfl) (by simp) ?_
  refine AllReadyH.cons rfl (fun K hK=>?_) (AllReadyH.cons rfl (fun K hK=>?_) AllReadyH.nil)
  ·rw [if_pos (by rfl)]
   have zq:w4.heap.size≤w4.drew.heap.size:=hS.2.2.size
   refine oper_make (k:=.i8) (base:=w4.heap.size) (n:=n) (.tmp 17) (.tmp 17) rfl ei_b8 .i64 .i64 rfl rfl (by omega) (by unfold maxLen;omega) zq (by decide) ?_
   intro wm own gm
   have OW:=zH (show Own (tInt .i8) wm (fun _=>False) w4.heap.size 39 (.slice (some ⟨w4.heap.size,0,none⟩) (n) (n)) (n) (List.replicate (n) 0) by first|exact own|simpa [World.size_alloc] using own)
   refine hK.out _ _ ⟨cell_grown gm hS.1 (by simp),Blk.grown0 hS.2.1 gm,hS.2.2.grown gm zq (by simp)⟩ (fun hS=>?_)
   clear hK K own gm
   try simp only [pX]
   refine kH 6 rfl hS ?_
   try simp only [pX]
   refine rH 7 rfl (fun K hK=>?_)
   go_simp
   have zg:w4.heap.size≤wm.heap.size:=hS.2.2.size
   have hb:Below wm.heap.size wm (wm.alloc (.cells (tN 0 0 0 none 0 0) 27)):=(Below.refl _ _).alloc (Nat.le_refl _) _
   have BZ:=zH (Blk.now wm wm.heap.size 27 (tN 0 0 0 none 0 0) rfl)
   have ltq:w4.heap.size < wm.heap.size:=(OW.out.lt _ rfl).2
   replace OW:=zH (OW.out.below hb (Nat.le_refl _) (fun _ h=>h.elim))
   refine hK.out _ _ ?_ (fun hS=>?_)
   ·exact ⟨cell_later hb hS.1,Blk.later hS.2.1 hb,below_later hb hS.2.2⟩
   clear hK K
   try simp only [pX]
   refine rH 8 rfl (fun K hK=>?_)
   rw [if_pos (by rfl)]
   refine oper_store_blk 27 (.tmp 6) (.tmp 19) rfl wm.heap.size 0 (tN t.h t.v t.c (some ⟨w4.heap.size,0,none⟩) (n) (n)) rfl rfl _ (tN 0 0 0 none 0 0) (tN t.h t.v t.c (some ⟨w4.heap.size,0,none⟩) (n) (n)) BZ.out (by simp) (by kernel_rfl) (by simp [Value.oneCell']) rfl ?_
   intro wc BX gc
   have hne:w4.heap.size ≠ wm.heap.size:=by have:=ltq;simp only [World.size_drew] at *;omega
   replace OW:=zH (OW.out.flat gc (.inr (by first|(simp [Value.ownBlock];done)|(simp [Value.ownBlock];exact hne))) (fun _ h=>h))
   refine hK.out _ _ ⟨cell_grown gc hS.1 (by intro e;have:=Option.some.inj e;have:=(show w.heap.size < w4.heap.size by omega);have:=zg;simp only [World.size_drew] at *;omega),hS.2.1.away gc (by have:=(show w.heap.size < w4.heap.size by omega);have:=zg;simp only [World.size_drew] at *;omega),hS.2.2.grown gc hS.2.2.size (fun k h=>by have:=Option.some.inj h;have:=zg;simp only [World.size_drew] at *;omega)⟩ (fun hS=>?_)
   clear hK K
   try simp only [pX]
   refine wpAnyH_done (by kernel_rfl) ?_ _
   have FZ:=hS.2.2
   go_wp2_with fail
   go_meet
   case rel=>exact ⟨_,_,rfl,BX,OW.out,hne,zg,FZ⟩
  ·go_simp
   have zg:w4.heap.size≤w4.heap.size:=hS.2.2.size
   have hb:Below w4.drew.heap.size w4.drew (w4.drew.alloc (.cells (tN 0 0 0 none 0 0) 27)):=(Below.refl _ _).alloc (Nat.le_refl _) _
   have BZ:=zH (Blk.now w4.drew w4.heap.size 27 (tN 0 0 0 none 0 0) rfl)
   refine hK.out _ _ ?_ (fun hS=>?_)
   ·exact ⟨cell_later hb hS.1,Blk.later hS.2.1 hb,below_later hb hS.2.2⟩
   clear hK K
   try simp only [pX]
   refine rH 5 rfl (fun K hK=>?_)
   rw [if_pos (by rfl)]
   have zq:w4.heap.size≤(w4.drew.alloc (.cells (tN 0 0 0 none 0 0) 27)).heap.size:=hS.2.2.size
   refine oper_make (k:=.i8) (base:=w4.heap.size) (n:=n) (.tmp 17) (.tmp 17) rfl ei_b8 .i64 .i64 rfl rfl (by omega) (by unfold maxLen;omega) zq (by decide) ?_
   intro wm own gm
   have OW:=zH (show Own (tInt .i8) wm (fun _=>False) w4.heap.size 39 (.slice (some ⟨(w4.heap.size+1),0,none⟩) (n) (n)) (n) (List.replicate (n) 0) by first|exact own|simpa [World.size_alloc] using own)
   replace BZ:=zH (BZ.out.grown0 gm)
   refine hK.out _ _ ⟨cell_grown gm hS.1 (by simp),Blk.grown0 hS.2.1 gm,hS.2.2.grown gm zq (by simp)⟩ (fun hS=>?_)
   clear hK K own gm
   try simp only [pX]
   refine kH 6 rfl hS ?_
   try simp only [pX]
   refine rH 8 rfl (fun K hK=>?_)
   rw [if_pos (by rfl)]
   refine oper_store_blk 27 (.tmp 6) (.tmp 19) rfl w4.heap.size 0 #[.int .i64 t.h,.int .i64 t.v,.int .i64 t.c,.slice (some ⟨(w4.heap.size+1),0,none⟩) (n) (n)] rfl rfl _ (tN 0 0 0 none 0 0) #[.int .i64 t.h,.int .i64 t.v,.int .i64 t.c,.slice (some ⟨(w4.heap.size+1),0,none⟩) (n) (n)] BZ.out (by simp) (by kernel_rfl) (by simp [Value.oneCell']) rfl ?_
   intro wc BX gc
   have hne:(w4.heap.size+1) ≠ w4.heap.size:=by omega
   replace OW:=zH (OW.out.flat gc (.inr (by first|(simp [Value.ownBlock];done)|(simp [Value.ownBlock];exact hne))) (fun _ h=>h))
   refine hK.out _ _ ⟨cell_grown gc hS.1 (by intro e;have:=Option.some.inj e;have:=(show w.heap.size < w4.heap.size by omega);have:=zg;simp only [World.size_drew] at *;omega),hS.2.1.away gc (by have:=(show w.heap.size < w4.heap.size by omega);have:=zg;simp only [World.size_drew] at *;omega),hS.2.2.grown gc hS.2.2.size (fun k h=>by have:=Option.some.inj h;have:=zg;simp only [World.size_drew] at *;omega)⟩ (fun hS=>?_)
   clear hK K
   try simp only [pX]
   refine wpAnyH_done (by kernel_rfl) ?_ _
   have FZ:=hS.2.2
   go_wp2_with fail
   go_meet
   case rel=>exact ⟨_,_,rfl,BX,OW.out,hne,zg,FZ⟩
 case rest =>
  obtain ⟨g,q,rfl,bg,own,hqg,zg,b4⟩:=hcut
  obtain ⟨w5,rfl⟩:∃ x,x=wc:=⟨_,rfl⟩
  have BG:=zH bg
  have lq:w4.heap.size≤q:=(own.lt _ rfl).1
  replace FR:=zH (FR.out.fut b4)
  replace BA:=zH (BA.out.fut b4)
  replace BT:=zH (BT.out.fut b4)
  replace BR:=zH (BR.out.fut b4)
  clear b4
  rw [← filling_zero 0 (fun i=>F (t.data.getD i 0+128).toNat) n] at own
  have ON:=zH own
  have NQ:=zH (show q ≠ g∧w4.heap.size≤q∧w4.heap.size≤g∧w2.heap.size < w4.heap.size∧w1.heap.size < w2.heap.size∧w.heap.size < w1.heap.size by refine ⟨hqg,?_,?_,?_,?_,?_⟩ <;> omega)
  have a3:=BA.out.cell 3
  clear bg own hqg zg lq
  go_wp2_with fail
  clear a3
  go_loopw [23] (fun ii wr=>∃ k:Nat,k≤n∧ii=.int .i64 k∧Far w wr∧Blk wr w.heap.size 27 (tN t.h t.v t.c A n cap)∧Blk wr w1.heap.size 116 (tabC F 256)∧Blk wr w2.heap.size 27 (tN 0 0 0 none 0 0)∧Blk wr g 27 (tN t.h t.v t.c (some ⟨q,0,none⟩) n n)∧Own (tInt .i8) wr (fun _=>False) w4.heap.size 39 (.slice (some ⟨q,0,none⟩) n n) n (filling 0 (fun i=>F (t.data.getD i 0+128).toNat) n k)) (fun ii _=>n - (intOf ii).toNat)
  case atStart=>exact ⟨0,Nat.zero_le _,rfl,FR.out,BA.out,BT.out,BR.out,BG.out,ON.out⟩
  case round =>
   obtain ⟨k,hk,rfl,f0,f1,f2,f3,f4,f5⟩:=hrel
   clear FR BA BT BR BG ON
   have FR:=zH f0
   have BA:=zH f1
   have BT:=zH f2
   have BR:=zH f3
   have BG:=zH f4
   have ON:=zH f5
   clear f0 f1 f2 f3 f4 f5
   by_cases hlt:k < n
   ·have p1:(k:Int) < (n:Int):=by omega
    obtain ⟨b,o,rfl,-,-,cx,ix⟩:=((Old.now HA.out).fut FR.out.out).all.int_at k hlt
    have FS:=zH (filling_set 0 (fun i=>F (t.data.getD i 0+128).toNat) n k hlt)
    obtain ⟨x,hx⟩:∃ x,t.data.getD k 0=x:=⟨_,rfl⟩
    rw [hx] at cx ix
    have FE:=zH (show F (t.data.getD k 0+128).toNat=F (x+128).toNat by rw [hx])
    rw [inK_i8] at ix
    obtain ⟨x1,x2⟩:=ix
    obtain ⟨y,hy⟩:∃ y:Nat,x+128=y:=⟨(x+128).toNat,by omega⟩
    have hyl:y < 256:=by omega
    rw [hy,Int.toNat_natCast] at FE
    obtain ⟨v,hv⟩:∃ v,F y=v:=⟨_,rfl⟩
    have RE:=zH (show InK .i8 v by rw [← hv];exact HF.out y)
    have tb:=BT.out.cell y
    rw [tabC_at F 256 y hyl,if_pos hyl,hv] at tb
    rw [hv] at FE
    obtain ⟨x0,u0,-,-,c5,c6,c7,-⟩:=ON.out.cell rfl k hlt
    have bg3:=BG.out.cell 3
    have e1:IntKind.i64.wrap x=x:=IntWalk.i64_in _ (by omega)
    have e2:IntKind.i64.wrap (x+128)=(y:Int):=(IntWalk.i64_in _ (by omega)).trans hy
    have e3:IntKind.i64.wrap (y:Int)=(y:Int):=IntWalk.i64_in _ (by omega)
    have hyi:(y:Int) < 256:=by omega
    clear hx hv
    go_wp2_with fail
    go_still_tail 8,(by kernel_rfl)
    change wpList _ _ _ _ _ wr.drew
    have kd:Below wr.heap.size wr wr.drew:=(Below.refl _ _).drew
    replace ON:=zH (ON.out.below kd (Nat.le_refl _) (fun _ h=>h.elim))
    replace FR:=zH (FR.out.fut kd)
    replace BA:=zH (BA.out.fut kd)
    replace BT:=zH (BT.out.fut kd)
    replace BR:=zH (BR.out.fut kd)
    replace BG:=zH (BG.out.fut kd)
    clear kd cx tb bg3 c5 c6 c7
    generalize wr.drew=wy at *
    obtain ⟨x9,u9,-,-,c5,c6,c7,-⟩:=ON.out.cell rfl k hlt
    go_wp2_with fail
    obtain ⟨o3,g3⟩:=ON.out.set1 rfl k (.int .i8 v) v ⟨rfl,RE.out⟩ (fun _ h=>h.elim)
    have fs:=FS.out
    rw [FE.out] at fs
    rw [fs] at o3
    obtain ⟨n1,n2,n3,n4,n5,n6⟩:=NQ.out
    exact ⟨⟨k+1,by omega,by go_num,FR.out.away g3 (by omega),BA.out.away g3 (.inl (by omega)),BT.out.away g3 (.inl (by omega)),BR.out.away g3 (.inl (by omega)),BG.out.away g3 (by omega),o3⟩,by simp [intOf];omega⟩
   ·obtain rfl:k=n:=by omega
    obtain ⟨n1,n2,n3,n4,n5,n6⟩:=NQ.out
    go_wp2_with (first|(refine lB 27 (.tmp 6) g BG.out Tryz.underlying27 ?_)|(refine sB 27 (.tmp 4) (.tmp 38) w2.heap.size (tN t.h t.v t.c (some ⟨q,0,none⟩) k k) BR.out ?_;intro w9 B9 g9))
    have e2:=ON.out.flat g9 (.inr (by simp [Value.ownBlock];omega)) (fun _ h=>h)
    rw [filling_all] at e2
    refine rC B9 Tryz.underlying27 ?_
    obtain ⟨A2,c2,hv,s⟩:=e2.sl (S':=bin w.heap.size _) (by decide) (fun b h1 h2=>⟨by omega,h2⟩) (fun b h=>h.elim)
    injection hv with hv1 hv2 hv3
    subst hv1 hv3
    exact ⟨_,_,_,rfl,s,(FR.out.away g9 (by omega)).out⟩
end Go.Proofs.YtjkmjpjknmghlaaGreat
namespace Go.Proofs.YtjkmjpjknmghlaaGreat
open Go.RowKit Go.ChangeShapes Go.WideShapes Fx
set_option maxRecDepth 100000
set_option maxHeartbeats 8000000
def actQ (t:Tensor) (d:Node):Tensor × Int:=if quantOk d.qm d.qs=true then (⟨t.h,t.v,t.c,(List.range t.data.length).map fun i=>oneV d (t.data.getD i 0)⟩,0) else (noTensor,7)
theorem actOf_any (t:Tensor) (A:Option Addr) (n cap:Nat) (d:Node) (W:Option Addr) (nw cw:Nat) (B:Option Addr) (nb cb:Nat) (w:World) (ht:TensorIn t) (hd:NodeIn d)
  (ha:Sl (tInt .i8) w (blo w.heap.size) A n cap t.data) (c1:t.ok=true) :
  Calls Tryz.prog 46 #[.agg (tN t.h t.v t.c A n cap),.agg (nN d.kind d.a d.b d.k d.s d.p d.out d.za d.zb W nw cw B nb cb d.qm d.qs d.qz d.rm d.rs d.rz d.lo d.hi)] w (RetT .i8 (actQ t d).1 (actQ t d).2 w):=by
 have HA:=zH ha
 have HT:=zH ht
 have HD:=zH hd
 have C1:=zH c1
 obtain ⟨H,V,C,TK⟩:=tok_of c1
 have hn2:n≤1024:=by have:=TK.n_le;rw [ha.n_eq] at this;exact this
 have c1':decide (0 < elems t.h t.v t.c∧elems t.h t.v t.c=n)=true:=by rw [← HA.out.n_eq];simpa [Tensor.ok] using c1
 have RI:=zH (fun w=>tensorRight_any t.h t.v t.c A n cap w ht.h ht.v ht.c (Nat.le_trans ha.cap_le ha.max_le))
 rw [c1'] at RI
 have mx:n≤9223372036854775807:=by omega
 have HQ:=zH (show actQ t d=if quantOk d.qm d.qs=true then (⟨t.h,t.v,t.c,(List.range n).map fun i=>oneV d (t.data.getD i 0)⟩,0) else (noTensor,7) by unfold actQ;rw [ha.n_eq])
 obtain ⟨x,hx⟩:∃ x,actQ t d=x:=⟨_,rfl⟩
 rw [hx] at HQ ⊢
 have FR:=zH (Far.refl w)
 obtain ⟨w1,hw_w1,BA,k_w1⟩:=nB w (tN t.h t.v t.c A n cap) 27
 replace FR:=zH (FR.out.fut k_w1)
 clear k_w1
 obtain ⟨w2,hw_w2,BN,k_w2⟩:=nB w1 (nN d.kind d.a d.b d.k d.s d.p d.out d.za d.zb W nw cw B nb cb d.qm d.qs d.qz d.rm d.rs d.rz d.lo d.hi) 44
 replace FR:=zH (FR.out.fut k_w2)
 replace BA:=zH (BA.out.fut k_w2)
 clear k_w2
 obtain ⟨w3,hw_w3,BR,k_w3⟩:=nB w2 (tN 0 0 0 none 0 0) 27
 replace FR:=zH (FR.out.fut k_w3)
 replace BA:=zH (BA.out.fut k_w3)
 replace BN:=zH (BN.out.fut k_w3)
 clear k_w3
 have l1:w.heap.size < w1.heap.size:=by rw [← hw_w1];simp
 have l2:w1.heap.size < w2.heap.size:=by rw [← hw_w2];simp
 have l3:w2.heap.size < w3.heap.size:=by rw [← hw_w3];simp
 obtain ⟨qq,hq⟩:∃ q,quantOk d.qm d.qs=q:=⟨_,rfl⟩
 rw [hq] at HQ
 have QE:=zH hq
 have TA:=zH (fun w=>actTable_any d W nw cw B nb cb w hd)
 rw [hq] at TA
 clear ht hd ha c1 c1' TK hx hq
 cases qq with
 | false =>
  rw [if_neg (by decide)] at HQ
  rw [HQ.out]
  simp only [Bool.false_eq_true,if_false,false_implies,and_true] at TA
  go_enter Tryz.func46,Tryz.ntmps46
  go_wp2_with (first|(refine lB 27 (.tmp 2) w.heap.size BA.out Tryz.underlying27 ?_)|(go_at_call 13;refine (RI.out _).mono ?_;rintro e w4 ⟨rfl,hb⟩;have l4:=hb.size;replace FR:=zH (FR.out.fut hb);replace BA:=zH (BA.out.fut hb);replace BN:=zH (BN.out.fut hb);replace BR:=zH (BR.out.fut hb);clear hb hw_w1 hw_w2 hw_w3)|(refine lB 44 (.tmp 3) w1.heap.size BN.out Tryz.underlying44 ?_))
  refine (TA.out _).mono ?_
  rintro e w5 ⟨⟨k,rfl⟩,hb⟩
  have l5:=hb.size
  replace FR:=zH (FR.out.fut hb)
  replace BA:=zH (BA.out.fut hb)
  replace BN:=zH (BN.out.fut hb)
  replace BR:=zH (BR.out.fut hb)
  clear hb
  obtain ⟨w6,hw_w6⟩:∃ x,w5.alloc (.cells Tryz.zeroCells116 116)=x:=⟨_,rfl⟩
  have hb:Below w5.heap.size w5 w6:=by rw [← hw_w6];exact (Below.refl _ _).alloc (Nat.le_refl _) _
  have BT:=zH (show Blk w6 w5.heap.size 116 (tabC (actF d) 0) by rw [← hw_w6,tabC_zero (actF d)];exact Blk.now _ _ _ _ rfl)
  replace FR:=zH (FR.out.fut hb)
  replace BA:=zH (BA.out.fut hb)
  replace BN:=zH (BN.out.fut hb)
  replace BR:=zH (BR.out.fut hb)
  clear hb
  go_wp2_with (first|(refine wpList_store_all rfl 116 (.tmp 6) (.tmp 15) rfl w5.heap.size (tabC (actF d) k) rfl rfl _ (tabC (actF d) 0) BT.out (by simp [tabC_size]) (by rw [tabC_size];kernel_rfl) (tabC_one _ _) ?_;intro w7 B7 g7;replace FR:=zH (FR.out.away g7 (by omega));replace BR:=zH (BR.out.away g7 (.inl (by omega))))|(refine sB 27 (.tmp 4) (.tmp 19) w2.heap.size (tN 0 0 0 none 0 0) BR.out ?_;intro w9 B9 g9))
  refine rC B9 Tryz.underlying27 ?_
  exact RetT.none (FR.out.away g9 (by omega)).out
 | true =>
  rw [if_pos rfl] at HQ
  rw [HQ.out]
  simp only [if_true,true_implies] at TA
  have EQ:=zH (show ((List.range n).map fun i=>actF d (t.data.getD i 0+128).toNat)=((List.range n).map fun i=>oneV d (t.data.getD i 0)) by
   apply List.map_congr_left
   intro i _
   have:=HA.out.allK i
   rw [inK_i8] at this
   unfold actF
   congr 1
   omega)
  have BY:=zH (fun wq (h:Sl (tInt .i8) wq (blo wq.heap.size) A n cap t.data)=>actBy_any t A n cap (actF d) wq HT.out h C1.out (fun i=>oneV_in d _))
  rw [EQ.out] at BY
  go_enter Tryz.func46,Tryz.ntmps46
  go_wp2_with (first|(refine lB 27 (.tmp 2) w.heap.size BA.out Tryz.underlying27 ?_)|(go_at_call 13;refine (RI.out _).mono ?_;rintro e w4 ⟨rfl,hb⟩;have l4:=hb.size;replace FR:=zH (FR.out.fut hb);replace BA:=zH (BA.out.fut hb);replace BN:=zH (BN.out.fut hb);replace BR:=zH (BR.out.fut hb);clear hb hw_w1 hw_w2 hw_w3)|(refine lB 44 (.tmp 3) w1.heap.size BN.out Tryz.underlying44 ?_))
  refine (TA.out _).mono ?_
  rintro e w5 ⟨⟨k,rfl,rfl⟩,hb⟩
  have l5:=hb.size
  replace FR:=zH (FR.out.fut hb)
  replace BA:=zH (BA.out.fut hb)
  replace BN:=zH (BN.out.fut hb)
  replace BR:=zH (BR.out.fut hb)
  clear hb
  obtain ⟨w6,hw_w6⟩:∃ x,w5.alloc (.cells Tryz.zeroCells116 116)=x:=⟨_,rfl⟩
  have hb:Below w5.heap.size w5 w6:=by rw [← hw_w6];exact (Below.refl _ _).alloc (Nat.le_refl _) _
  have BT:=zH (show Blk w6 w5.heap.size 116 (tabC (actF d) 0) by rw [← hw_w6,tabC_zero (actF d)];exact Blk.now _ _ _ _ rfl)
  replace FR:=zH (FR.out.fut hb)
  replace BA:=zH (BA.out.fut hb)
  replace BN:=zH (BN.out.fut hb)
  replace BR:=zH (BR.out.fut hb)
  clear hb
  go_wp2_with (first|(refine wpList_store_all rfl 116 (.tmp 6) (.tmp 15) rfl w5.heap.size (tabC (actF d) 256) rfl rfl _ (tabC (actF d) 0) BT.out (by simp [tabC_size]) (by rw [tabC_size];kernel_rfl) (tabC_one _ _) ?_;intro w7 B7 g7;replace FR:=zH (FR.out.away g7 (by omega));replace BR:=zH (BR.out.away g7 (.inl (by omega)));replace BA:=zH (BA.out.away g7 (.inl (by omega))))|(refine lB 27 (.tmp 2) w.heap.size BA.out Tryz.underlying27 ?_)|(refine wpList_load_blk rfl 116 (.tmp 6) rfl w5.heap.size 0 rfl _ (tabC (actF d) 256) (tabC (actF d) 256) _ B7 Tryz.underlying116 rfl (by rw [tabC_size];kernel_rfl) (by rw [List.drop_zero,List.take_of_length_le (by simp)]) ?_))
  refine (BY.out _ ((Old.now HA.out).fut FR.out.out).all).mono ?_
  rintro e w8 ⟨RA,rn,rc,rfl,rs,hb⟩
  have RS:=zH (show New w7 (tInt .i8) w8 RA rn rc _ from ⟨rs⟩)
  have lbr:=BR.out.lt
  have lfr:=FR.out.size
  replace FR:=zH (FR.out.fut hb)
  replace BR:=zH (BR.out.fut hb)
  clear hb rs
  go_wp2_with (refine sB 27 (.tmp 4) (.tmp 24) w2.heap.size (tN t.h t.v t.c RA rn rc) BR.out ?_;intro w9 B9 g9)
  refine rC B9 Tryz.underlying27 ?_
  exact ⟨RA,rn,rc,rfl,(RS.out.away g9 lbr).out.more (bin_more lfr (Nat.le_refl _)),(FR.out.away g9 (by omega)).out⟩
end Go.Proofs.YtjkmjpjknmghlaaGreat
namespace Go.Proofs.YtjkmjpjknmghlaaGreat
open Go.RowKit Go.ChangeShapes Go.WideShapes Fx
set_option maxRecDepth 100000
set_option maxHeartbeats 8000000
theorem ractOf_any (t:Tensor) (A:Option Addr) (n cap:Nat) (d:Node) (W:Option Addr) (nw cw:Nat) (B:Option Addr) (nb cb:Nat) (w:World) (ht:TensorIn t) (hd:NodeIn d)
  (ha:Sl (tInt .i8) w (blo w.heap.size) A n cap t.data) (c1:t.ok=true) :
  Calls Tryz.prog 35 #[.agg (tN t.h t.v t.c A n cap),.agg (nN d.kind d.a d.b d.k d.s d.p d.out d.za d.zb W nw cw B nb cb d.qm d.qs d.qz d.rm d.rs d.rz d.lo d.hi)] w (RetT .i8 (actQ t d).1 (actQ t d).2 w):=by
 have HA:=zH ha
 have HT:=zH ht
 have HD:=zH hd
 have C1:=zH c1
 obtain ⟨H,V,C,TK⟩:=tok_of c1
 have hn2:n≤1024:=by have:=TK.n_le;rw [ha.n_eq] at this;exact this
 have c1':decide (0 < elems t.h t.v t.c∧elems t.h t.v t.c=n)=true:=by rw [← HA.out.n_eq];simpa [Tensor.ok] using c1
 have RI:=zH (fun w=>rtensorRight_any t.h t.v t.c A n cap w ht.h ht.v ht.c (Nat.le_trans ha.cap_le ha.max_le))
 rw [c1'] at RI
 have mx:n≤9223372036854775807:=by omega
 have HQ:=zH (show actQ t d=if quantOk d.qm d.qs=true then (⟨t.h,t.v,t.c,(List.range n).map fun i=>oneV d (t.data.getD i 0)⟩,0) else (noTensor,7) by unfold actQ;rw [ha.n_eq])
 obtain ⟨x,hx⟩:∃ x,actQ t d=x:=⟨_,rfl⟩
 rw [hx] at HQ ⊢
 have FR:=zH (Far.refl w)
 obtain ⟨w1,hw_w1,BA,k_w1⟩:=nB w (tN t.h t.v t.c A n cap) 27
 replace FR:=zH (FR.out.fut k_w1)
 clear k_w1
 obtain ⟨w2,hw_w2,BN,k_w2⟩:=nB w1 (nN d.kind d.a d.b d.k d.s d.p d.out d.za d.zb W nw cw B nb cb d.qm d.qs d.qz d.rm d.rs d.rz d.lo d.hi) 44
 replace FR:=zH (FR.out.fut k_w2)
 replace BA:=zH (BA.out.fut k_w2)
 clear k_w2
 obtain ⟨w3,hw_w3,BR,k_w3⟩:=nB w2 (tN 0 0 0 none 0 0) 27
 replace FR:=zH (FR.out.fut k_w3)
 replace BA:=zH (BA.out.fut k_w3)
 replace BN:=zH (BN.out.fut k_w3)
 clear k_w3
 have l1:w.heap.size < w1.heap.size:=by rw [← hw_w1];simp
 have l2:w1.heap.size < w2.heap.size:=by rw [← hw_w2];simp
 have l3:w2.heap.size < w3.heap.size:=by rw [← hw_w3];simp
 obtain ⟨qq,hq⟩:∃ q,quantOk d.qm d.qs=q:=⟨_,rfl⟩
 rw [hq] at HQ
 have QE:=zH hq
 have QR:=zH (fun w=>rfixRight_any d.qm d.qs d.qz w)
 rw [hq] at QR
 clear ht hd ha c1 c1' TK hx hq
 cases qq with
 | false =>
  rw [if_neg (by decide)] at HQ
  rw [HQ.out]
  go_enter Tryz.func35,Tryz.ntmps35
  go_wp2_with (first|(refine lB 27 (.tmp 2) w.heap.size BA.out Tryz.underlying27 ?_)|(go_at_call 17;refine (RI.out _).mono ?_;rintro e w4 ⟨rfl,hb⟩;have l4:=hb.size;replace FR:=zH (FR.out.fut hb);replace BA:=zH (BA.out.fut hb);replace BN:=zH (BN.out.fut hb);replace BR:=zH (BR.out.fut hb);clear hb hw_w1 hw_w2 hw_w3)|(refine wpList_load_blk rfl 42 (.tmp 12) rfl w1.heap.size 11 rfl _ (nN d.kind d.a d.b d.k d.s d.p d.out d.za d.zb W nw cw B nb cb d.qm d.qs d.qz d.rm d.rs d.rz d.lo d.hi) #[.int .i32 d.qm,.int .i64 d.qs,.int .i8 d.qz] _ BN.out Tryz.underlying42 rfl (by kernel_rfl) rfl ?_)|(go_at_call 53;refine (QR.out _).mono ?_;rintro e w5 ⟨rfl,hb⟩;have l5:=hb.size;replace FR:=zH (FR.out.fut hb);replace BA:=zH (BA.out.fut hb);replace BN:=zH (BN.out.fut hb);replace BR:=zH (BR.out.fut hb);clear hb)|(refine sB 27 (.tmp 4) (.tmp 16) w2.heap.size (tN 0 0 0 none 0 0) BR.out ?_;intro w9 B9 g9))
  refine rC B9 Tryz.underlying27 ?_
  exact RetT.none (FR.out.away g9 (by omega)).out
 | true =>
  rw [if_pos rfl] at HQ
  rw [HQ.out]
  have OV:=zH (fun x (h:InK .i8 x) w=>ractOne_any x d W nw cw B nb cb w h HD.out)
  go_enter Tryz.func35,Tryz.ntmps35
  go_wp2_with (first|(refine lB 27 (.tmp 2) w.heap.size BA.out Tryz.underlying27 ?_)|(go_at_call 17;refine (RI.out _).mono ?_;rintro e w4 ⟨rfl,hb⟩;have l4:=hb.size;replace FR:=zH (FR.out.fut hb);replace BA:=zH (BA.out.fut hb);replace BN:=zH (BN.out.fut hb);replace BR:=zH (BR.out.fut hb);clear hb hw_w1 hw_w2 hw_w3)|(refine wpList_load_blk rfl 42 (.tmp 12) rfl w1.heap.size 11 rfl _ (nN d.kind d.a d.b d.k d.s d.p d.out d.za d.zb W nw cw B nb cb d.qm d.qs d.qz d.rm d.rs d.rz d.lo d.hi) #[.int .i32 d.qm,.int .i64 d.qs,.int .i8 d.qz] _ BN.out Tryz.underlying42 rfl (by kernel_rfl) rfl ?_)|(go_at_call 53;refine (QR.out _).mono ?_;rintro e w5 ⟨rfl,hb⟩;have l5:=hb.size;replace FR:=zH (FR.out.fut hb);replace BA:=zH (BA.out.fut hb);replace BN:=zH (BN.out.fut hb);replace BR:=zH (BR.out.fut hb);clear hb;obtain ⟨w6,hw_w6⟩:∃ x,w5.alloc (.cells (tN 0 0 0 none 0 0) 27)=x:=⟨_,rfl⟩;have hb:Below w5.heap.size w5 w6:=(by rw [← hw_w6];exact (Below.refl _ _).alloc (Nat.le_refl _) _);have BG:=zH (show Blk w6 w5.heap.size 27 (tN 0 0 0 none 0 0) by rw [← hw_w6];exact Blk.now _ _ _ _ rfl);have BA5:=zH BA.out;replace FR:=zH (FR.out.fut hb);replace BA:=zH (BA.out.fut hb);replace BN:=zH (BN.out.fut hb);replace BR:=zH (BR.out.fut hb);clear hb)|(refine wpList_load_blk rfl 24 (.tmp 17) rfl w.heap.size 0 rfl _ (tN t.h t.v t.c A n cap) (sN t.h t.v t.c) _ BA5.out Tryz.underlying24 rfl (by kernel_rfl) rfl ?_)|(refine sB 27 (.tmp 6) (.tmp 19) w5.heap.size (tN t.h t.v t.c none 0 0) BG.out ?_;intro w7 B7 g7))
  have l6:w6.heap.size=w5.heap.size+1:=by rw [← hw_w6];simp
  clear hw_w6 BA5 BG
  replace FR:=zH (FR.out.away g7 (by omega))
  replace BA:=zH (BA.out.away g7 (.inl (by omega)))
  replace BN:=zH (BN.out.away g7 (.inl (by omega)))
  replace BR:=zH (BR.out.away g7 (.inl (by omega)))
  have BG:=zH B7
  clear B7 g7
  have ON:=zH (show Own (tInt .i8) w7 (fun _=>False) w6.heap.size 39 (.slice none 0 0) 0 ((List.range 0).map (fun i=>oneV d (t.data.getD i 0))) from Own.nil _ _ _ _ _)
  go_loopw [7] (fun ii wr=>∃ k:Nat,k≤n∧ii=.int .i64 k∧Far w wr∧Blk wr w.heap.size 27 (tN t.h t.v t.c A n cap)∧Blk wr w1.heap.size 44 (nN d.kind d.a d.b d.k d.s d.p d.out d.za d.zb W nw cw B nb cb d.qm d.qs d.qz d.rm d.rs d.rz d.lo d.hi)∧Blk wr w2.heap.size 27 (tN 0 0 0 none 0 0)∧∃ u,Blk wr w5.heap.size 27 #[.int .i64 t.h,.int .i64 t.v,.int .i64 t.c,u]∧Own (tInt .i8) wr (fun _=>False) w6.heap.size 39 u k ((List.range k).map (fun i=>oneV d (t.data.getD i 0)))) (fun ii _=>n - (intOf ii).toNat)
  case atStart=>exact ⟨0,Nat.zero_le _,rfl,FR.out,BA.out,BN.out,BR.out,_,BG.out,ON.out⟩
  case round =>
   obtain ⟨k,hk,rfl,f0,f1,f2,f3,u,f4,f5⟩:=hrel
   clear FR BA BN BR BG ON
   have FR:=zH f0
   have BA:=zH f1
   have BN:=zH f2
   have BR:=zH f3
   have BG:=zH f4
   have ON:=zH f5
   clear f0 f1 f2 f3 f4 f5
   have a3:=BA.out.cell 3
   by_cases hlt:k < n
   ·have p1:(k:Int) < (n:Int):=by omega
    go_wp2_with fail
    clear a3
    obtain ⟨b,o,rfl,-,-,cx,ix⟩:=((Old.now HA.out).fut FR.out.out).all.int_at k hlt
    have hb9:b < w.heap.size:=by
     obtain ⟨b',o',e',q1,q2,-,-⟩:=HA.out.int_at k hlt
     simp only [Option.some.injEq,Addr.mk.injEq,and_true] at e'
     rw [e'.1]
     exact q1
    have FS:=zH (range_snoc (fun i=>oneV d (t.data.getD i 0)) k)
    obtain ⟨x,hx⟩:∃ x,t.data.getD k 0=x:=⟨_,rfl⟩
    rw [hx] at cx ix
    have FE:=zH (show oneV d (t.data.getD k 0)=oneV d x by rw [hx])
    have CX:=zH (OV.out x ix)
    obtain ⟨v,hv⟩:∃ v,oneV d x=v:=⟨_,rfl⟩
    have RE:=zH (show InK .i8 v by rw [← hv];exact oneV_in d x)
    rw [hv] at FE CX
    have OD:=zH (ON.out.heap (w':=wr.drew) rfl)
    have fd:Below w.heap.size w wr.drew:=FR.out.out.drew
    have bd:=BG.out.lt
    have cd:=cell_later ((show Below wr.heap.size wr wr.drew from (Below.refl _ _).drew)) cx
    have nu:=zH (show ∀ b,b < w6.heap.size → some b ≠ u.ownBlock from fun b hb e=>absurd (ON.out.lt b e.symm).1 (by omega))
    clear hx hv cx
    refine wp_region_T (fun w'=>w'.cell? ⟨w5.heap.size,3,none⟩=some u∧w'.cell? ⟨w.heap.size,3,none⟩=some (.slice (some ⟨b,o,none⟩) n cap)∧w'.cell? ⟨b,o+k,none⟩=some (.int .i8 x)∧Blk w' w1.heap.size 44 (nN d.kind d.a d.b d.k d.s d.p d.out d.za d.zb W nw cw B nb cb d.qm d.qs d.qz d.rm d.rs d.rz d.lo d.hi)∧Below w.heap.size w w') 11 (by kernel_rfl) ?_ (fun hS=>?_)
    ·exact ⟨BG.out.drew.cell 3,BA.out.drew.cell 3,cd,BN.out.drew,fd⟩
    refine kT 0 rfl hS ?_
    try simp only [pX]
    refine kT 1 rfl hS ?_
    try simp only [pX]
    refine kT 2 rfl hS ?_
    try simp only [pX]
    refine kT 3 rfl hS ?_
    try simp only [pX]
    refine kT 4 rfl hS ?_
    try simp only [pX]
    refine kT 5 rfl hS ?_
    try simp only [pX]
    refine kT 6 rfl hS ?_
    try simp only [pX]
    refine tkT 7 rfl (yieldsIf_load_blk (by rfl) 44 (.tmp 3) rfl w1.heap.size 0 rfl _ _ (nN d.kind d.a d.b d.k d.s d.p d.out d.za d.zb W nw cw B nb cb d.qm d.qs d.qz d.rm d.rs d.rz d.lo d.hi) _ (fun w hs=>hs.2.2.2.1) Tryz.underlying44 rfl (by kernel_rfl) rfl) hS ?_
    try simp only [pX]
    refine wpAnyT_one (i:=8) (by kernel_rfl) rfl rfl (fun K hK=>?_)
    go_simp
    refine (CX.out _).mono ?_;rintro e wa ⟨rfl,hb⟩;have OA:=zH (OD.out.below hb (Nat.le_refl _) (fun _ h=>h.elim));have za:w6.heap.size≤wa.heap.size:=(by have:=hb.size;have:wr.drew.heap.size=wr.heap.size:=rfl;omega);have XX:=zH (And.intro (cell_later hb cd) (And.intro (BA.out.drew.later hb) (below_call fd hb fd.size)));have YY:=zH (And.intro (BN.out.drew.later hb) (And.intro (BR.out.drew.later hb) (BG.out.drew.later hb)))
    refine hK.out _ _ ?_ (fun hS=>?_)
    ·exact ⟨(by first|exact cell_later hb hS.1|exact Blk.later hS.1 hb),(by first|exact cell_later hb hS.2.1|exact Blk.later hS.2.1 hb),(by first|exact cell_later hb hS.2.2.1|exact Blk.later hS.2.2.1 hb),(by first|exact cell_later hb hS.2.2.2.1|exact Blk.later hS.2.2.2.1 hb),(by first|exact below_later hb hS.2.2.2.2|exact grown_below hS.2.2.2.2 hb)⟩
    clear hK K
    try simp only [pX]
    refine wpAnyT_one (i:=9) (by kernel_rfl) rfl rfl (fun K hK=>?_)
    go_simp
    have hb:Below wa.heap.size wa (wa.alloc (.cells #[.int .i8 v] 39)):=(Below.refl _ _).alloc (Nat.le_refl _) _
    refine hK.out _ _ ?_ (fun hS=>?_)
    ·exact ⟨(by first|exact cell_later hb hS.1|exact Blk.later hS.1 hb),(by first|exact cell_later hb hS.2.1|exact Blk.later hS.2.1 hb),(by first|exact cell_later hb hS.2.2.1|exact Blk.later hS.2.2.1 hb),(by first|exact cell_later hb hS.2.2.2.1|exact Blk.later hS.2.2.2.1 hb),(by first|exact below_later hb hS.2.2.2.2|exact grown_below hS.2.2.2.2 hb)⟩
    clear hK K
    try simp only [pX]
    refine wpAnyT_one (i:=10) (by kernel_rfl) rfl rfl (fun K hK=>?_)
    (rw [if_pos (by rfl)];refine oper_push (W:=wa) (cs:=#[.int .i8 v]) (E:=39) (t:=tInt .i8) (.tmp 28) (.tmp 36) rfl ei_b8 rfl OA.out 1 rfl v ⟨rfl,RE.out⟩ (by unfold maxLen;omega) (by omega) za (fun _ h=>h.elim) ?_;intro u' w7 own7 g7 at7;have B7:=zH (YY.out.2.2.rowR g7 (nu.out _ (by omega)));have T7:=zH (XX.out.2.1.rowR g7 (nu.out _ (by omega)));refine hK.out _ _ ⟨B7.out.cell 3,T7.out.cell 3,cell_grown g7 XX.out.1 (nu.out b (by omega)),YY.out.1.rowR g7 (nu.out _ (by omega)),XX.out.2.2.grown g7 XX.out.2.2.size (fun j hj=>Nat.le_trans (by omega) (OA.out.lt j hj).1)⟩ (fun hS=>?_))
    clear hK K
    try simp only [pX]
    refine wpAnyT_tail _ _ rfl rfl (by kernel_rfl) ?_
    have FZ:=hS.2.2.2.2
    have XB:=zH hS.2.2.2.1
    have XR:=zH (YY.out.2.1.rowR g7 (nu.out _ (by omega)))
    have NU:=zH (show u'.ownBlock=none ∨ u'.ownBlock ≠ some w5.heap.size by
     cases hu:u'.ownBlock with
     | none=>exact .inl rfl
     | some m=>right;intro e;have:=(own7.lt m hu).1;have:=Option.some.inj e;omega)
    obtain ⟨A7,c7,rfl,-⟩:=own7.sl (S':=fun _=>True) (by decide) (fun _ _ _=>trivial) (fun _ _=>trivial)
    clear hS hb nu at7
    go_wp2_with (refine wpList_store_one rfl 25 (.tmp 38) (.tmp 37) rfl w5.heap.size 3 (.slice A7 (k+1) c7) rfl rfl rfl rfl _ #[.int .i64 t.h,.int .i64 t.v,.int .i64 t.c,u] (tN t.h t.v t.c A7 (k+1) c7) B7.out (by simp) (by kernel_rfl) rfl ?_;intro w8 B8 g8)
    have F8:=(show Far w w7 from ⟨FZ⟩).away g8 (by omega)
    have O8:=own7.flat g8 (by rcases NU.out with e|e;exact .inl e;exact .inr e) (fun _ h=>h)
    have fs:=FS.out
    rw [FE.out] at fs
    rw [fs] at O8
    exact ⟨⟨k+1,by omega,by go_num,F8,T7.out.away g8 (.inl (by omega)),XB.out.away g8 (.inl (by omega)),XR.out.away g8 (.inl (by omega)),_,B8,O8⟩,by simp [intOf];omega⟩
   ·obtain rfl:k=n:=by omega
    obtain ⟨A9,c9,rfl,-⟩:=ON.out.sl (S':=fun _=>True) (by decide) (fun _ _ _=>trivial) (fun _ _=>trivial)
    go_wp2_with (first|(refine lB 27 (.tmp 6) w5.heap.size BG.out Tryz.underlying27 ?_)|(refine sB 27 (.tmp 4) (.tmp 39) w2.heap.size (tN t.h t.v t.c A9 k c9) BR.out ?_;intro w9 B9 g9))
    have e2:=ON.out.flat g9 (by
     cases hu:(Value.slice A9 k c9).ownBlock with
     | none=>exact .inl rfl
     | some m=>right;intro e;have:=(ON.out.lt m hu).1;have:=Option.some.inj e;omega) (fun _ h=>h)
    refine rC B9 Tryz.underlying27 ?_
    have FE:=FR.out.away g9 (by omega)
    obtain ⟨A2,c2,hv,s⟩:=e2.sl (S':=bin w.heap.size _) (by decide) (fun b h1 h2=>⟨by omega,h2⟩) (fun b h=>h.elim)
    injection hv with hv1 hv2 hv3
    subst hv1 hv3
    exact ⟨_,_,_,rfl,s,FE.out⟩
end Go.Proofs.YtjkmjpjknmghlaaGreat
