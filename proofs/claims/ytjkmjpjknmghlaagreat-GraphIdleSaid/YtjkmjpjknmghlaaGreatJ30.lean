/-
  Numbers by a table (layer 21): act.By, act.Of.
  Numbers by a function (layer 21): act.Of, the document's Of, of a tensor that is right.
  The middle of numbers (layer 19): pool.Near, pool.mean, the document's Near, Mean; a tensor laid flat (layer 5).
  The middle of numbers (layer 19): pool.mean, the document's Mean; a tensor laid flat (layer 5: tensor.Flat).
  Two numbers joined (layer 20): join.may, join.scaled, join.One, the document's One.
  The numbers of two lists, pair by pair (layer 20: join.pairs).
-/
import Derived.Test.YtjkmjpjknmghlaaGreatJ28
import Derived.Test.YtjkmjpjknmghlaaGreatJ29
set_option linter.unusedVariables false
set_option linter.unusedSimpArgs false
namespace Go.Proofs.YtjkmjpjknmghlaaGreat
open Go.RowKit Go.ChangeShapes Go.WideShapes Fx
set_option maxRecDepth 100000
set_option maxHeartbeats 8000000
theorem actBy_any (t:Tensor) (A:Option Addr) (n cap:Nat) (F:Nat → Int) (w:World) (ht:TensorIn t) (ha:Sl (tInt .i8) w (blo w.heap.size) A n cap t.data) (c1:t.ok=true) (hF:∀ i,InK .i8 (F i)) :
  Calls Tryz.prog 86 #[.agg #[.int .i64 t.h,.int .i64 t.v,.int .i64 t.c,.slice A n cap],.agg (tabC F 256)] w (RetT .i8 ⟨t.h,t.v,t.c,(List.range n).map fun i=>F (t.data.getD i 0+128).toNat⟩ 0 w):=by
 have HA:=zH ha
 have HF:=zH hF
 have HT:=zH ht
 obtain ⟨H,V,C,TK⟩:=tok_of c1
 have hn2:n≤1024:=by have:=TK.n_le;rw [ha.n_eq] at this;exact this
 have c1':decide (0 < elems t.h t.v t.c∧elems t.h t.v t.c=n)=true:=by rw [← HA.out.n_eq];simpa [Tensor.ok] using c1
 have RI:=zH (fun w=>tensorRight_any t.h t.v t.c A n cap w ht.h ht.v ht.c (Nat.le_trans ha.cap_le ha.max_le))
 rw [c1'] at RI
 have mx:n≤9223372036854775807:=by omega
 have FR:=zH (Far.refl w)
 obtain ⟨w1,hw_w1,BA,k_w1⟩:=nB w #[.int .i64 t.h,.int .i64 t.v,.int .i64 t.c,.slice A n cap] 27
 replace FR:=zH (FR.out.fut k_w1)
 clear k_w1
 obtain ⟨w2,hw_w2⟩:∃ x,w1.alloc (.cells (tabC F 256) 116)=x:=⟨_,rfl⟩
 have k2:Below w1.heap.size w1 w2:=by rw [← hw_w2];exact (Below.refl _ _).alloc (Nat.le_refl _) _
 have BT:=zH (show Blk w2 w1.heap.size 116 (tabC F 256) by rw [← hw_w2];exact Blk.now _ _ _ _ rfl)
 replace FR:=zH (FR.out.fut k2)
 replace BA:=zH (BA.out.fut k2)
 obtain ⟨w3,hw_w3,BR,k_w3⟩:=nB w2 #[.int .i64 0,.int .i64 0,.int .i64 0,.slice none 0 0] 27
 replace FR:=zH (FR.out.fut k_w3)
 replace BA:=zH (BA.out.fut k_w3)
 replace BT:=zH (BT.out.fut k_w3)
 clear k_w3
 have l1:w.heap.size < w1.heap.size:=by rw [← hw_w1];simp
 have l2:w1.heap.size < w2.heap.size:=by rw [← hw_w2];simp
 have l3:w2.heap.size < w3.heap.size:=by rw [← hw_w3];simp
 clear ht ha c1 c1' TK hF k2
 go_enter Tryz.func86,Tryz.ntmps86
 go_wp2_with (first|(refine lB 27 (.tmp 2) w.heap.size BA.out Tryz.underlying27 ?_)|(go_at_call 13;refine (RI.out _).mono ?_;rintro e w4 ⟨rfl,hb⟩;have l4:=hb.size;replace FR:=zH (FR.out.fut hb);replace BA:=zH (BA.out.fut hb);replace BT:=zH (BT.out.fut hb);replace BR:=zH (BR.out.fut hb);clear hb hw_w1 hw_w2 hw_w3))
 go_cut [6] (fun b wx=>∃ g q,b=.pointer (some ⟨g,0,none⟩)∧Blk wx g 27 #[.int .i64 t.h,.int .i64 t.v,.int .i64 t.c,.slice (some ⟨q,0,none⟩) (n) (n)]∧Own (tInt .i8) wx (fun _=>False) w4.heap.size 39 (.slice (some ⟨q,0,none⟩) (n) (n)) (n) (List.replicate (n) 0)∧q ≠ g∧w4.heap.size≤g∧Below w4.heap.size w4 wx)
 case first =>
  refine wp_region_held_drew (S:=fun w'=>w'.cell? ⟨w.heap.size,3,none⟩=some (.slice A n cap)∧Blk w' (w.heap.size) 27 #[.int .i64 t.h,.int .i64 t.v,.int .i64 t.c,.slice A n cap]∧Below w4.heap.size w4 w') (by kernel_rfl) ?_ (fun hS=>?_)
  ·exact ⟨BA.out.drew.cell 3,BA.out.drew,(Below.refl _ _).drew⟩
  refine kH 0 rfl hS ?_
  try simp only [pX]
  refine tkH 1 rfl (yieldsIf_load_blk (by rfl) 24 (.tmp 13) rfl w.heap.size 0 rfl _ #[.int .i64 t.h,.int .i64 t.v,.int .i64 t.c,.slice A n cap] #[.int .i64 t.h,.int .i64 t.v,.int .i64 t.c] _ (fun w hs=>hs.2.1) Tryz.underlying24 rfl (by kernel_rfl) rfl) hS ?_
  try simp only [pX]
  refine kH 2 rfl hS ?_
  try simp only [pX]
  refine kH 3 rfl hS ?_
  try simp only [pX]
  refine kH 4 rfl hS ?_
  try simp only [pX]
  refine wpAnyH_ready (rs:=[5,7]) (by kernel_rfl) (by simp) ?_
  refine AllReadyH.cons rfl (fun K hK=>?_) (AllReadyH.cons rfl (fun K hK=>?_) AllReadyH.nil)
  ·rw [if_pos (by rfl)]
   have zq:w4.heap.size≤w4.drew.heap.size:=hS.2.2.size
   refine oper_make (k:=.i8) (base:=w4.heap.size) (n:=n) (.tmp 17) (.tmp 17) rfl ei_b8 .i64 .i64 rfl rfl (by omega) (by unfold maxLen;omega) zq (by decide) ?_
   intro wm own gm
   have OW:=zH (show Own (tInt .i8) wm (fun _=>False) w4.heap.size 39 (.slice (some ⟨w4.heap.size,0,none⟩) (n) (n)) (n) (List.replicate (n) 0) by first|exact own|simpa [World.size_alloc] using own)
   refine hK.out _ _ ⟨cell_grown gm hS.1 (by simp),Blk.grown0 hS.2.1 gm,hS.2.2.grown gm zq (by simp)⟩ (fun hS=>?_)
   clear hK K own gm
   try simp only [pX]
   refine kH 6 rfl hS ?_
   try simp only [pX]
   refine rH 7 rfl (fun K hK=>?_)
   go_simp
   have zg:w4.heap.size≤wm.heap.size:=hS.2.2.size
   have hb:Below wm.heap.size wm (wm.alloc (.cells #[.int .i64 0,.int .i64 0,.int .i64 0,.slice none 0 0] 27)):=(Below.refl _ _).alloc (Nat.le_refl _) _
   have BZ:=zH (Blk.now wm wm.heap.size 27 #[.int .i64 0,.int .i64 0,.int .i64 0,.slice none 0 0] rfl)
   have ltq:w4.heap.size < wm.heap.size:=(OW.out.lt _ rfl).2
   replace OW:=zH (OW.out.below hb (Nat.le_refl _) (fun _ h=>h.elim))
   refine hK.out _ _ ?_ (fun hS=>?_)
   ·exact ⟨cell_later hb hS.1,Blk.later hS.2.1 hb,below_later hb hS.2.2⟩
   clear hK K
   try simp only [pX]
   refine rH 8 rfl (fun K hK=>?_)
   rw [if_pos (by rfl)]
   refine oper_store_blk 27 (.tmp 6) (.tmp 19) rfl wm.heap.size 0 #[.int .i64 t.h,.int .i64 t.v,.int .i64 t.c,.slice (some ⟨w4.heap.size,0,none⟩) (n) (n)] rfl rfl _ #[.int .i64 0,.int .i64 0,.int .i64 0,.slice none 0 0] #[.int .i64 t.h,.int .i64 t.v,.int .i64 t.c,.slice (some ⟨w4.heap.size,0,none⟩) (n) (n)] BZ.out (by simp) (by kernel_rfl) (by simp [Value.oneCell']) rfl ?_
   intro wc BX gc
   have hne:w4.heap.size ≠ wm.heap.size:=by have:=ltq;simp only [World.size_drew] at *;omega
   replace OW:=zH (OW.out.flat gc (.inr (by first|(simp [Value.ownBlock];done)|(simp [Value.ownBlock];exact hne))) (fun _ h=>h))
   refine hK.out _ _ ⟨cell_grown gc hS.1 (by intro e;have:=Option.some.inj e;have:=(show w.heap.size < w4.heap.size by omega);have:=zg;simp only [World.size_drew] at *;omega),hS.2.1.away gc (by have:=(show w.heap.size < w4.heap.size by omega);have:=zg;simp only [World.size_drew] at *;omega),hS.2.2.grown gc hS.2.2.size (fun k h=>by have:=Option.some.inj h;have:=zg;simp only [World.size_drew] at *;omega)⟩ (fun hS=>?_)
   clear hK K
   try simp only [pX]
   refine wpAnyH_done (by kernel_rfl) ?_ _
   have FZ:=hS.2.2
   go_wp2_with fail
   go_meet
   case rel=>exact ⟨_,_,rfl,BX,OW.out,hne,zg,FZ⟩
  ·go_simp
   have zg:w4.heap.size≤w4.heap.size:=hS.2.2.size
   have hb:Below w4.drew.heap.size w4.drew (w4.drew.alloc (.cells #[.int .i64 0,.int .i64 0,.int .i64 0,.slice none 0 0] 27)):=(Below.refl _ _).alloc (Nat.le_refl _) _
   have BZ:=zH (Blk.now w4.drew w4.heap.size 27 #[.int .i64 0,.int .i64 0,.int .i64 0,.slice none 0 0] rfl)
   refine hK.out _ _ ?_ (fun hS=>?_)
   ·exact ⟨cell_later hb hS.1,Blk.later hS.2.1 hb,below_later hb hS.2.2⟩
   clear hK K
   try simp only [pX]
   refine rH 5 rfl (fun K hK=>?_)
   rw [if_pos (by rfl)]
   have zq:w4.heap.size≤(w4.drew.alloc (.cells #[.int .i64 0,.int .i64 0,.int .i64 0,.slice none 0 0] 27)).heap.size:=hS.2.2.size
   refine oper_make (k:=.i8) (base:=w4.heap.size) (n:=n) (.tmp 17) (.tmp 17) rfl ei_b8 .i64 .i64 rfl rfl (by omega) (by unfold maxLen;omega) zq (by decide) ?_
   intro wm own gm
   have OW:=zH (show Own (tInt .i8) wm (fun _=>False) w4.heap.size 39 (.slice (some ⟨(w4.heap.size+1),0,none⟩) (n) (n)) (n) (List.replicate (n) 0) by first|exact own|simpa [World.size_alloc] using own)
   replace BZ:=zH (BZ.out.grown0 gm)
   refine hK.out _ _ ⟨cell_grown gm hS.1 (by simp),Blk.grown0 hS.2.1 gm,hS.2.2.grown gm zq (by simp)⟩ (fun hS=>?_)
   clear hK K own gm
   try simp only [pX]
   refine kH 6 rfl hS ?_
   try simp only [pX]
   refine rH 8 rfl (fun K hK=>?_)
   rw [if_pos (by rfl)]
   refine oper_store_blk 27 (.tmp 6) (.tmp 19) rfl w4.heap.size 0 #[.int .i64 t.h,.int .i64 t.v,.int .i64 t.c,.slice (some ⟨(w4.heap.size+1),0,none⟩) (n) (n)] rfl rfl _ #[.int .i64 0,.int .i64 0,.int .i64 0,.slice none 0 0] #[.int .i64 t.h,.int .i64 t.v,.int .i64 t.c,.slice (some ⟨(w4.heap.size+1),0,none⟩) (n) (n)] BZ.out (by simp) (by kernel_rfl) (by simp [Value.oneCell']) rfl ?_
   intro wc BX gc
   have hne:(w4.heap.size+1) ≠ w4.heap.size:=by omega
   replace OW:=zH (OW.out.flat gc (.inr (by first|(simp [Value.ownBlock];done)|(simp [Value.ownBlock];exact hne))) (fun _ h=>h))
   refine hK.out _ _ ⟨cell_grown gc hS.1 (by intro e;have:=Option.some.inj e;have:=(show w.heap.size < w4.heap.size by omega);have:=zg;simp only [World.size_drew] at *;omega),hS.2.1.away gc (by have:=(show w.heap.size < w4.heap.size by omega);have:=zg;simp only [World.size_drew] at *;omega),hS.2.2.grown gc hS.2.2.size (fun k h=>by have:=Option.some.inj h;have:=zg;simp only [World.size_drew] at *;omega)⟩ (fun hS=>?_)
   clear hK K
   try simp only [pX]
   refine wpAnyH_done (by kernel_rfl) ?_ _
   have FZ:=hS.2.2
   go_wp2_with fail
   go_meet
   case rel=>exact ⟨_,_,rfl,BX,OW.out,hne,zg,FZ⟩
 case rest =>
  obtain ⟨g,q,rfl,bg,own,hqg,zg,b4⟩:=hcut
  obtain ⟨w5,rfl⟩:∃ x,x=wc:=⟨_,rfl⟩
  have BG:=zH bg
  have lq:w4.heap.size≤q:=(own.lt _ rfl).1
  replace FR:=zH (FR.out.fut b4)
  replace BA:=zH (BA.out.fut b4)
  replace BT:=zH (BT.out.fut b4)
  replace BR:=zH (BR.out.fut b4)
  clear b4
  rw [← filling_zero 0 (fun i=>F (t.data.getD i 0+128).toNat) n] at own
  have ON:=zH own
  have NQ:=zH (show q ≠ g∧w4.heap.size≤q∧w4.heap.size≤g∧w2.heap.size < w4.heap.size∧w1.heap.size < w2.heap.size∧w.heap.size < w1.heap.size by refine ⟨hqg,?_,?_,?_,?_,?_⟩ <;> omega)
  have a3:=BA.out.cell 3
  clear bg own hqg zg lq
  go_wp2_with fail
  clear a3
  go_loopw [23] (fun ii wr=>∃ k:Nat,k≤n∧ii=.int .i64 k∧Far w wr∧Blk wr w.heap.size 27 #[.int .i64 t.h,.int .i64 t.v,.int .i64 t.c,.slice A n cap]∧Blk wr w1.heap.size 116 (tabC F 256)∧Blk wr w2.heap.size 27 #[.int .i64 0,.int .i64 0,.int .i64 0,.slice none 0 0]∧Blk wr g 27 #[.int .i64 t.h,.int .i64 t.v,.int .i64 t.c,.slice (some ⟨q,0,none⟩) n n]∧Own (tInt .i8) wr (fun _=>False) w4.heap.size 39 (.slice (some ⟨q,0,none⟩) n n) n (filling 0 (fun i=>F (t.data.getD i 0+128).toNat) n k)) (fun ii _=>n - (intOf ii).toNat)
  case atStart=>exact ⟨0,Nat.zero_le _,rfl,FR.out,BA.out,BT.out,BR.out,BG.out,ON.out⟩
  case round =>
   obtain ⟨k,hk,rfl,f0,f1,f2,f3,f4,f5⟩:=hrel
   clear FR BA BT BR BG ON
   have FR:=zH f0
   have BA:=zH f1
   have BT:=zH f2
   have BR:=zH f3
   have BG:=zH f4
   have ON:=zH f5
   clear f0 f1 f2 f3 f4 f5
   by_cases hlt:k < n
   ·have p1:(k:Int) < (n:Int):=by omega
    obtain ⟨b,o,rfl,-,-,cx,ix⟩:=((Old.now HA.out).fut FR.out.out).all.int_at k hlt
    have FS:=zH (filling_set 0 (fun i=>F (t.data.getD i 0+128).toNat) n k hlt)
    obtain ⟨x,hx⟩:∃ x,t.data.getD k 0=x:=⟨_,rfl⟩
    rw [hx] at cx ix
    have FE:=zH (show F (t.data.getD k 0+128).toNat=F (x+128).toNat by rw [hx])
    rw [inK_i8] at ix
    obtain ⟨x1,x2⟩:=ix
    obtain ⟨y,hy⟩:∃ y:Nat,x+128=y:=⟨(x+128).toNat,by omega⟩
    have hyl:y < 256:=by omega
    rw [hy,Int.toNat_natCast] at FE
    obtain ⟨v,hv⟩:∃ v,F y=v:=⟨_,rfl⟩
    have RE:=zH (show InK .i8 v by rw [← hv];exact HF.out y)
    have tb:=BT.out.cell y
    rw [tabC_at F 256 y hyl,if_pos hyl,hv] at tb
    rw [hv] at FE
    obtain ⟨x0,u0,-,-,c5,c6,c7,-⟩:=ON.out.cell rfl k hlt
    have bg3:=BG.out.cell 3
    have e1:IntKind.i64.wrap x=x:=IntWalk.i64_in _ (by omega)
    have e2:IntKind.i64.wrap (x+128)=(y:Int):=(IntWalk.i64_in _ (by omega)).trans hy
    have e3:IntKind.i64.wrap (y:Int)=(y:Int):=IntWalk.i64_in _ (by omega)
    have hyi:(y:Int) < 256:=by omega
    clear hx hv
    go_wp2_with fail
    go_still_tail 8,(by kernel_rfl)
    change wpList _ _ _ _ _ wr.drew
    have kd:Below wr.heap.size wr wr.drew:=(Below.refl _ _).drew
    replace ON:=zH (ON.out.below kd (Nat.le_refl _) (fun _ h=>h.elim))
    replace FR:=zH (FR.out.fut kd)
    replace BA:=zH (BA.out.fut kd)
    replace BT:=zH (BT.out.fut kd)
    replace BR:=zH (BR.out.fut kd)
    replace BG:=zH (BG.out.fut kd)
    clear kd cx tb bg3 c5 c6 c7
    generalize wr.drew=wy at *
    obtain ⟨x9,u9,-,-,c5,c6,c7,-⟩:=ON.out.cell rfl k hlt
    go_wp2_with fail
    obtain ⟨o3,g3⟩:=ON.out.set1 rfl k (.int .i8 v) v ⟨rfl,RE.out⟩ (fun _ h=>h.elim)
    have fs:=FS.out
    rw [FE.out] at fs
    rw [fs] at o3
    obtain ⟨n1,n2,n3,n4,n5,n6⟩:=NQ.out
    exact ⟨⟨k+1,by omega,by go_num,FR.out.away g3 (by omega),BA.out.away g3 (.inl (by omega)),BT.out.away g3 (.inl (by omega)),BR.out.away g3 (.inl (by omega)),BG.out.away g3 (by omega),o3⟩,by simp [intOf];omega⟩
   ·obtain rfl:k=n:=by omega
    obtain ⟨n1,n2,n3,n4,n5,n6⟩:=NQ.out
    go_wp2_with (first|(refine lB 27 (.tmp 6) g BG.out Tryz.underlying27 ?_)|(refine sB 27 (.tmp 4) (.tmp 38) w2.heap.size #[.int .i64 t.h,.int .i64 t.v,.int .i64 t.c,.slice (some ⟨q,0,none⟩) k k] BR.out ?_;intro w9 B9 g9))
    have e2:=ON.out.flat g9 (.inr (by simp [Value.ownBlock];omega)) (fun _ h=>h)
    rw [filling_all] at e2
    refine ret_cell_tmp rfl B9 rfl Tryz.underlying27 (by kernel_rfl) rfl ?_
    obtain ⟨A2,c2,hv,s⟩:=e2.sl (S':=bin w.heap.size _) (by decide) (fun b h1 h2=>⟨by omega,h2⟩) (fun b h=>h.elim)
    injection hv with hv1 hv2 hv3
    subst hv1 hv3
    exact ⟨_,_,_,rfl,s,(FR.out.away g9 (by omega)).out⟩
end Go.Proofs.YtjkmjpjknmghlaaGreat
namespace Go.Proofs.YtjkmjpjknmghlaaGreat
open Go.RowKit Go.ChangeShapes Go.WideShapes Fx
set_option maxRecDepth 100000
set_option maxHeartbeats 8000000
def actQ (t:Tensor) (d:Node):Tensor × Int:=if quantOk d.qm d.qs=true then (⟨t.h,t.v,t.c,(List.range t.data.length).map fun i=>oneV d (t.data.getD i 0)⟩,0) else (noTensor,7)
theorem actOf_any (t:Tensor) (A:Option Addr) (n cap:Nat) (d:Node) (W:Option Addr) (nw cw:Nat) (B:Option Addr) (nb cb:Nat) (w:World) (ht:TensorIn t) (hd:NodeIn d)
  (ha:Sl (tInt .i8) w (blo w.heap.size) A n cap t.data) (c1:t.ok=true) :
  Calls Tryz.prog 46 #[.agg #[.int .i64 t.h,.int .i64 t.v,.int .i64 t.c,.slice A n cap],.agg (nN d.kind d.a d.b d.k d.s d.p d.out d.za d.zb W nw cw B nb cb d.qm d.qs d.qz d.rm d.rs d.rz d.lo d.hi)] w (RetT .i8 (actQ t d).1 (actQ t d).2 w):=by
 have HA:=zH ha
 have HT:=zH ht
 have HD:=zH hd
 have C1:=zH c1
 obtain ⟨H,V,C,TK⟩:=tok_of c1
 have hn2:n≤1024:=by have:=TK.n_le;rw [ha.n_eq] at this;exact this
 have c1':decide (0 < elems t.h t.v t.c∧elems t.h t.v t.c=n)=true:=by rw [← HA.out.n_eq];simpa [Tensor.ok] using c1
 have RI:=zH (fun w=>tensorRight_any t.h t.v t.c A n cap w ht.h ht.v ht.c (Nat.le_trans ha.cap_le ha.max_le))
 rw [c1'] at RI
 have mx:n≤9223372036854775807:=by omega
 have HQ:=zH (show actQ t d=if quantOk d.qm d.qs=true then (⟨t.h,t.v,t.c,(List.range n).map fun i=>oneV d (t.data.getD i 0)⟩,0) else (noTensor,7) by unfold actQ;rw [ha.n_eq])
 obtain ⟨x,hx⟩:∃ x,actQ t d=x:=⟨_,rfl⟩
 rw [hx] at HQ ⊢
 have FR:=zH (Far.refl w)
 obtain ⟨w1,hw_w1,BA,k_w1⟩:=nB w #[.int .i64 t.h,.int .i64 t.v,.int .i64 t.c,.slice A n cap] 27
 replace FR:=zH (FR.out.fut k_w1)
 clear k_w1
 obtain ⟨w2,hw_w2,BN,k_w2⟩:=nB w1 (nN d.kind d.a d.b d.k d.s d.p d.out d.za d.zb W nw cw B nb cb d.qm d.qs d.qz d.rm d.rs d.rz d.lo d.hi) 44
 replace FR:=zH (FR.out.fut k_w2)
 replace BA:=zH (BA.out.fut k_w2)
 clear k_w2
 obtain ⟨w3,hw_w3,BR,k_w3⟩:=nB w2 #[.int .i64 0,.int .i64 0,.int .i64 0,.slice none 0 0] 27
 replace FR:=zH (FR.out.fut k_w3)
 replace BA:=zH (BA.out.fut k_w3)
 replace BN:=zH (BN.out.fut k_w3)
 clear k_w3
 have l1:w.heap.size < w1.heap.size:=by rw [← hw_w1];simp
 have l2:w1.heap.size < w2.heap.size:=by rw [← hw_w2];simp
 have l3:w2.heap.size < w3.heap.size:=by rw [← hw_w3];simp
 obtain ⟨qq,hq⟩:∃ q,quantOk d.qm d.qs=q:=⟨_,rfl⟩
 rw [hq] at HQ
 have QE:=zH hq
 have TA:=zH (fun w=>actTable_any d W nw cw B nb cb w hd)
 rw [hq] at TA
 clear ht hd ha c1 c1' TK hx hq
 cases qq with
 | false =>
  rw [if_neg (by decide)] at HQ
  rw [HQ.out]
  simp only [Bool.false_eq_true,if_false,false_implies,and_true] at TA
  go_enter Tryz.func46,Tryz.ntmps46
  go_wp2_with (first|(refine lB 27 (.tmp 2) w.heap.size BA.out Tryz.underlying27 ?_)|(go_at_call 13;refine (RI.out _).mono ?_;rintro e w4 ⟨rfl,hb⟩;have l4:=hb.size;replace FR:=zH (FR.out.fut hb);replace BA:=zH (BA.out.fut hb);replace BN:=zH (BN.out.fut hb);replace BR:=zH (BR.out.fut hb);clear hb hw_w1 hw_w2 hw_w3)|(refine lB 44 (.tmp 3) w1.heap.size BN.out Tryz.underlying44 ?_))
  refine (TA.out _).mono ?_
  rintro e w5 ⟨⟨k,rfl⟩,hb⟩
  have l5:=hb.size
  replace FR:=zH (FR.out.fut hb)
  replace BA:=zH (BA.out.fut hb)
  replace BN:=zH (BN.out.fut hb)
  replace BR:=zH (BR.out.fut hb)
  clear hb
  obtain ⟨w6,hw_w6⟩:∃ x,w5.alloc (.cells Tryz.zeroCells116 116)=x:=⟨_,rfl⟩
  have hb:Below w5.heap.size w5 w6:=by rw [← hw_w6];exact (Below.refl _ _).alloc (Nat.le_refl _) _
  have BT:=zH (show Blk w6 w5.heap.size 116 (tabC (actF d) 0) by rw [← hw_w6,tabC_zero (actF d)];exact Blk.now _ _ _ _ rfl)
  replace FR:=zH (FR.out.fut hb)
  replace BA:=zH (BA.out.fut hb)
  replace BN:=zH (BN.out.fut hb)
  replace BR:=zH (BR.out.fut hb)
  clear hb
  go_wp2_with (first|(refine wpList_store_all rfl 116 (.tmp 6) (.tmp 15) rfl w5.heap.size (tabC (actF d) k) rfl rfl _ (tabC (actF d) 0) BT.out (by simp [tabC_size]) (by rw [tabC_size];kernel_rfl) (tabC_one _ _) ?_;intro w7 B7 g7;replace FR:=zH (FR.out.away g7 (by omega));replace BR:=zH (BR.out.away g7 (.inl (by omega))))|(refine sB 27 (.tmp 4) (.tmp 19) w2.heap.size #[.int .i64 0,.int .i64 0,.int .i64 0,.slice none 0 0] BR.out ?_;intro w9 B9 g9))
  refine ret_cell_tmp rfl B9 rfl Tryz.underlying27 (by kernel_rfl) rfl ?_
  exact RetT.none (FR.out.away g9 (by omega)).out
 | true =>
  rw [if_pos rfl] at HQ
  rw [HQ.out]
  simp only [if_true,true_implies] at TA
  have EQ:=zH (show ((List.range n).map fun i=>actF d (t.data.getD i 0+128).toNat)=((List.range n).map fun i=>oneV d (t.data.getD i 0)) by
   apply List.map_congr_left
   intro i _
   have:=HA.out.allK i
   rw [inK_i8] at this
   unfold actF
   congr 1
   omega)
  have BY:=zH (fun wq (h:Sl (tInt .i8) wq (blo wq.heap.size) A n cap t.data)=>actBy_any t A n cap (actF d) wq HT.out h C1.out (fun i=>oneV_in d _))
  rw [EQ.out] at BY
  go_enter Tryz.func46,Tryz.ntmps46
  go_wp2_with (first|(refine lB 27 (.tmp 2) w.heap.size BA.out Tryz.underlying27 ?_)|(go_at_call 13;refine (RI.out _).mono ?_;rintro e w4 ⟨rfl,hb⟩;have l4:=hb.size;replace FR:=zH (FR.out.fut hb);replace BA:=zH (BA.out.fut hb);replace BN:=zH (BN.out.fut hb);replace BR:=zH (BR.out.fut hb);clear hb hw_w1 hw_w2 hw_w3)|(refine lB 44 (.tmp 3) w1.heap.size BN.out Tryz.underlying44 ?_))
  refine (TA.out _).mono ?_
  rintro e w5 ⟨⟨k,rfl,rfl⟩,hb⟩
  have l5:=hb.size
  replace FR:=zH (FR.out.fut hb)
  replace BA:=zH (BA.out.fut hb)
  replace BN:=zH (BN.out.fut hb)
  replace BR:=zH (BR.out.fut hb)
  clear hb
  obtain ⟨w6,hw_w6⟩:∃ x,w5.alloc (.cells Tryz.zeroCells116 116)=x:=⟨_,rfl⟩
  have hb:Below w5.heap.size w5 w6:=by rw [← hw_w6];exact (Below.refl _ _).alloc (Nat.le_refl _) _
  have BT:=zH (show Blk w6 w5.heap.size 116 (tabC (actF d) 0) by rw [← hw_w6,tabC_zero (actF d)];exact Blk.now _ _ _ _ rfl)
  replace FR:=zH (FR.out.fut hb)
  replace BA:=zH (BA.out.fut hb)
  replace BN:=zH (BN.out.fut hb)
  replace BR:=zH (BR.out.fut hb)
  clear hb
  go_wp2_with (first|(refine wpList_store_all rfl 116 (.tmp 6) (.tmp 15) rfl w5.heap.size (tabC (actF d) 256) rfl rfl _ (tabC (actF d) 0) BT.out (by simp [tabC_size]) (by rw [tabC_size];kernel_rfl) (tabC_one _ _) ?_;intro w7 B7 g7;replace FR:=zH (FR.out.away g7 (by omega));replace BR:=zH (BR.out.away g7 (.inl (by omega)));replace BA:=zH (BA.out.away g7 (.inl (by omega))))|(refine lB 27 (.tmp 2) w.heap.size BA.out Tryz.underlying27 ?_)|(refine wpList_load_blk rfl 116 (.tmp 6) rfl w5.heap.size 0 rfl _ (tabC (actF d) 256) (tabC (actF d) 256) _ B7 Tryz.underlying116 rfl (by rw [tabC_size];kernel_rfl) (by rw [List.drop_zero,List.take_of_length_le (by simp)]) ?_))
  refine (BY.out _ ((Old.now HA.out).fut FR.out.out).all).mono ?_
  rintro e w8 ⟨RA,rn,rc,rfl,rs,hb⟩
  have RS:=zH (show New w7 (tInt .i8) w8 RA rn rc _ from ⟨rs⟩)
  have lbr:=BR.out.lt
  have lfr:=FR.out.size
  replace FR:=zH (FR.out.fut hb)
  replace BR:=zH (BR.out.fut hb)
  clear hb rs
  go_wp2_with (refine sB 27 (.tmp 4) (.tmp 24) w2.heap.size #[.int .i64 t.h,.int .i64 t.v,.int .i64 t.c,.slice RA rn rc] BR.out ?_;intro w9 B9 g9)
  refine ret_cell_tmp rfl B9 rfl Tryz.underlying27 (by kernel_rfl) rfl ?_
  exact ⟨RA,rn,rc,rfl,(RS.out.away g9 lbr).out.more (bin_more lfr (Nat.le_refl _)),(FR.out.away g9 (by omega)).out⟩
end Go.Proofs.YtjkmjpjknmghlaaGreat
namespace Go.Proofs.YtjkmjpjknmghlaaGreat
open Go.RowKit Go.ChangeShapes Go.WideShapes Fx
set_option maxRecDepth 100000
set_option maxHeartbeats 4000000
def nearN (k m:Nat):Nat:=k / m+if m - k % m≤k % m then 1 else 0
def nearV (s:Int) (m:Nat):Int:=if m=0 then 0 else if s < 0 then -(nearN s.natAbs m:Int) else (nearN s.natAbs m:Int)
theorem poolNear_any (s:Int) (m:Nat) (w:World) (h1:m≤1024) (h2:-131072≤s) (h3:s≤131072) :
  Calls Tryz.prog 112 #[.int .i64 s,.int .i64 m] w fun e w'=>e=.returned (.int .i64 (nearV s m))∧Below w.heap.size w w':=by
 unfold nearV
 by_cases m0:m=0
 ·rw [if_pos m0]
  subst m0
  go_enter Tryz.func112,Tryz.ntmps112
  go_wp2_with fail
  go_ret
  exact ⟨rfl,Below.refl _ _⟩
 rw [if_neg m0]
 have mp:¬ (m:Int) < 1:=by omega
 have mz:¬ (m:Int)=0:=by omega
 obtain ⟨res,hres⟩:∃ r:Int,(if s < 0 then -(nearN s.natAbs m:Int) else (nearN s.natAbs m:Int))=r:=⟨_,rfl⟩
 rw [hres]
 unfold nearN at hres
 by_cases b1:s < 0
 ·rw [if_pos b1] at hres
  obtain ⟨k,rfl⟩:∃ k:Nat,s=-(k:Int):=⟨s.natAbs,by omega⟩
  rw [show (-(k:Int)).natAbs=k by omega] at hres
  obtain ⟨a,ha⟩:∃ a,k / m=a:=⟨_,rfl⟩
  obtain ⟨b,hb⟩:∃ b,k % m=b:=⟨_,rfl⟩
  have ha2:a≤k:=by rw [← ha];exact Nat.div_le_self _ _
  have hb2:b < m:=by rw [← hb];exact Nat.mod_lt _ (by omega)
  have d1:(-(k:Int)).tdiv (m:Int)=-(a:Int):=by rw [Int.neg_tdiv,Int.tdiv_eq_ediv_of_nonneg (by omega),← ha];simp
  have d2:(-(k:Int)).tmod (m:Int)=-(b:Int):=by rw [Int.neg_tmod,Int.tmod_eq_emod_of_nonneg (by omega),← hb];simp
  have d3:(k:Int).tdiv (m:Int)=(a:Int):=by rw [Int.tdiv_eq_ediv_of_nonneg (by omega),← ha];simp
  have d4:(k:Int).tmod (m:Int)=(b:Int):=by rw [Int.tmod_eq_emod_of_nonneg (by omega),← hb];simp
  have d5:(k:Int) / (m:Int)=(a:Int):=by rw [← ha];simp
  have d6:(k:Int) % (m:Int)=(b:Int):=by rw [← hb];simp
  have e1:IntKind.i64.wrap (-(a:Int))=-(a:Int):=IntWalk.i64_in _ (by omega)
  have e2:IntKind.i64.wrap (-(b:Int))=-(b:Int):=IntWalk.i64_in _ (by omega)
  have e3:IntKind.i64.wrap (a:Int)=(a:Int):=IntWalk.i64_in _ (by omega)
  have e4:IntKind.i64.wrap (b:Int)=(b:Int):=IntWalk.i64_in _ (by omega)
  have e5:IntKind.i64.wrap ((m:Int) - (b:Int))=(m:Int) - (b:Int):=IntWalk.i64_in _ (by omega)
  rw [ha,hb] at hres
  clear ha hb
  by_cases c1:m - b≤b
  ·rw [if_pos c1] at hres
   subst hres
   have t1:(m:Int)+-(b:Int)≤(b:Int):=by omega
   have t2:(m:Int) - (b:Int)≤(b:Int):=by omega
   have t3:¬ (0:Int) < -(b:Int):=by omega
   have t4:-(b:Int) < 0:=by omega
   have t5:0 < b:=by omega
   go_enter Tryz.func112,Tryz.ntmps112
   go_wp2_with fail
   go_quiet (fail)
   go_wp2_with fail
   go_ret
   exact ⟨by show Ending.returned (.int .i64 _)=_;go_num,below_drewN (Below.refl _ _) _⟩
  ·rw [if_neg c1,Nat.add_zero] at hres
   subst hres
   by_cases c2:b=0
   ·subst c2
    have t1:¬ (m:Int)≤0:=by omega
    have t2:¬ m≤0:=by omega
    simp only [Int.natCast_zero,Int.neg_zero,Int.sub_zero,Int.ofNat_zero] at d2 d4 d6 e2 e4 e5
    go_enter Tryz.func112,Tryz.ntmps112
    go_wp2_with fail
    go_quiet (fail)
    go_wp2_with fail
    go_ret
    exact ⟨rfl,below_drewN (Below.refl _ _) _⟩
   ·have t1:¬ (m:Int)+-(b:Int)≤(b:Int):=by omega
    have t2:¬ (m:Int) - (b:Int)≤(b:Int):=by omega
    have t3:¬ (0:Int) < -(b:Int):=by omega
    have t4:-(b:Int) < 0:=by omega
    have t5:0 < b:=by omega
    go_enter Tryz.func112,Tryz.ntmps112
    go_wp2_with fail
    go_quiet (fail)
    go_wp2_with fail
    go_ret
    exact ⟨rfl,below_drewN (Below.refl _ _) _⟩
 ·rw [if_neg b1] at hres
  obtain ⟨k,rfl⟩:∃ k:Nat,s=(k:Int):=⟨s.natAbs,by omega⟩
  rw [show ((k:Int)).natAbs=k by omega] at hres
  obtain ⟨a,ha⟩:∃ a,k / m=a:=⟨_,rfl⟩
  obtain ⟨b,hb⟩:∃ b,k % m=b:=⟨_,rfl⟩
  have ha2:a≤k:=by rw [← ha];exact Nat.div_le_self _ _
  have hb2:b < m:=by rw [← hb];exact Nat.mod_lt _ (by omega)
  have d3:(k:Int).tdiv (m:Int)=(a:Int):=by rw [Int.tdiv_eq_ediv_of_nonneg (by omega),← ha];simp
  have d4:(k:Int).tmod (m:Int)=(b:Int):=by rw [Int.tmod_eq_emod_of_nonneg (by omega),← hb];simp
  have d5:(k:Int) / (m:Int)=(a:Int):=by rw [← ha];simp
  have d6:(k:Int) % (m:Int)=(b:Int):=by rw [← hb];simp
  have e3:IntKind.i64.wrap (a:Int)=(a:Int):=IntWalk.i64_in _ (by omega)
  have e4:IntKind.i64.wrap (b:Int)=(b:Int):=IntWalk.i64_in _ (by omega)
  have e5:IntKind.i64.wrap ((m:Int) - (b:Int))=(m:Int) - (b:Int):=IntWalk.i64_in _ (by omega)
  rw [ha,hb] at hres
  clear ha hb
  by_cases c1:m - b≤b
  ·rw [if_pos c1] at hres
   subst hres
   have t2:(m:Int) - (b:Int)≤(b:Int):=by omega
   have t5:0 < b:=by omega
   go_enter Tryz.func112,Tryz.ntmps112
   go_wp2_with fail
   go_quiet (fail)
   go_wp2_with fail
   go_ret
   exact ⟨by show Ending.returned (.int .i64 _)=_;go_num,below_drewN (Below.refl _ _) _⟩
  ·rw [if_neg c1,Nat.add_zero] at hres
   subst hres
   by_cases c2:b=0
   ·subst c2
    have t1:¬ (m:Int)≤0:=by omega
    have t2:¬ m≤0:=by omega
    simp only [Int.natCast_zero,Int.neg_zero,Int.sub_zero,Int.ofNat_zero] at d4 d6 e4 e5
    go_enter Tryz.func112,Tryz.ntmps112
    go_wp2_with fail
    go_quiet (fail)
    go_wp2_with fail
    go_ret
    exact ⟨rfl,below_drewN (Below.refl _ _) _⟩
   ·have t2:¬ (m:Int) - (b:Int)≤(b:Int):=by omega
    have t5:0 < b:=by omega
    have t6:¬ (b:Int) < 0:=by omega
    go_enter Tryz.func112,Tryz.ntmps112
    go_wp2_with fail
    go_quiet (fail)
    go_wp2_with fail
    go_ret
    exact ⟨rfl,below_drewN (Below.refl _ _) _⟩
end Go.Proofs.YtjkmjpjknmghlaaGreat
namespace Go.Proofs.YtjkmjpjknmghlaaGreat
open Go.RowKit Go.ChangeShapes Go.WideShapes Fx
set_option maxRecDepth 100000
set_option maxHeartbeats 4000000
def sumL (l:List Int) (n:Nat):Int:=sumN n fun i=>l.getD i 0
def meanV (l:List Int):Int:=w8 (nearV (sumL l l.length) l.length)
theorem meanV_in (l:List Int):InK .i8 (meanV l):=w8_in _
theorem sumL_le {l:List Int} (h:∀ i,InK .i8 (l.getD i 0)) (n:Nat):(sumL l n).natAbs≤n*128:=sumN_le fun i _=>by have:=h i;rw [inK_i8] at this;omega
theorem poolMean_any (A:Option Addr) (n cap:Nat) (l:List Int) (w:World) (hl:Sl (tInt .i8) w (blo w.heap.size) A n cap l) (hn:n≤1024) :
  Calls Tryz.prog 81 #[.slice A n cap] w fun e w'=>e=.returned (.int .i8 (meanV l))∧Below w.heap.size w w':=by
 have H:=zH hl
 unfold meanV
 rw [hl.n_eq]
 have LE:=zH (fun k=>sumL_le (fun i=>hl.allK i) k)
 clear hl
 go_enter Tryz.func81,Tryz.ntmps81
 go_wp2_with fail
 go_loopw [3,8] (fun u ii wr=>∃ k:Nat,k≤n∧ii=.int .i64 k∧u=.int .i64 (sumL l k)∧w=wr) (fun _ ii _=>n - (intOf ii).toNat)
 case atStart=>exact ⟨0,Nat.zero_le _,rfl,rfl,rfl⟩
 case round =>
  obtain ⟨k,hk,rfl,rfl,rfl⟩:=hrel
  have b1:=LE.out k
  by_cases hlt:k < n
  ·have p1:(k:Int) < (n:Int):=by omega
   have b2:=LE.out (k+1)
   obtain ⟨b,o,rfl,-,-,cx,ix⟩:=H.out.int_at k hlt
   have hs:sumL l (k+1)=sumL l k+l.getD k 0:=rfl
   obtain ⟨x,hx⟩:∃ x,l.getD k 0=x:=⟨_,rfl⟩
   rw [hx] at cx ix hs
   rw [inK_i8] at ix
   obtain ⟨i1,i2⟩:=ix
   have HS:=zH hs
   obtain ⟨sv,hsv⟩:∃ x,sumL l k=x:=⟨_,rfl⟩
   rw [hsv] at b1 HS ⊢
   clear hx hs hsv
   go_wp2_with fail
   exact ⟨⟨k+1,by omega,by go_num,by rw [HS.out],by trivial⟩,by simp [intOf];omega⟩
  ·obtain rfl:k=n:=by omega
   have NE:=zH (fun w=>poolNear_any (sumL l k) k w hn (by omega) (by omega))
   go_wp2_with (go_at_call 112;refine (NE.out _).mono ?_;rintro e w2 ⟨rfl,hb⟩)
   go_ret
   exact ⟨rfl,hb⟩
theorem tensorFlat_any (t:Tensor) (A:Option Addr) (n cap:Nat) (w:World) (ht:TensorIn t) (ha:Sl (tInt .i8) w (blo w.heap.size) A n cap t.data) (c1:t.ok=true) :
  Calls Tryz.prog 48 #[.agg #[.int .i64 t.h,.int .i64 t.v,.int .i64 t.c,.slice A n cap]] w (RetT .i8 ⟨1,1,n,t.data⟩ 0 w):=by
 have HA:=zH ha
 obtain ⟨H,V,C,TK⟩:=tok_of c1
 have hn2:n≤1024:=by have:=TK.n_le;rw [ha.n_eq] at this;exact this
 have c1':decide (0 < elems t.h t.v t.c∧elems t.h t.v t.c=n)=true:=by rw [← HA.out.n_eq];simpa [Tensor.ok] using c1
 have RI:=zH (fun w=>tensorRight_any t.h t.v t.c A n cap w ht.h ht.v ht.c (Nat.le_trans ha.cap_le ha.max_le))
 rw [c1'] at RI
 have mx:n≤9223372036854775807:=by omega
 have FR:=zH (Far.refl w)
 obtain ⟨w1,hw_w1,BA,k_w1⟩:=nB w #[.int .i64 t.h,.int .i64 t.v,.int .i64 t.c,.slice A n cap] 27
 replace FR:=zH (FR.out.fut k_w1)
 clear k_w1
 obtain ⟨w2,hw_w2,BR,k_w2⟩:=nB w1 #[.int .i64 0,.int .i64 0,.int .i64 0,.slice none 0 0] 27
 replace FR:=zH (FR.out.fut k_w2)
 replace BA:=zH (BA.out.fut k_w2)
 clear k_w2
 have l1:w.heap.size < w1.heap.size:=by rw [← hw_w1];simp
 clear ht ha c1 c1' TK
 go_enter Tryz.func48,Tryz.ntmps48
 go_wp2_with (first|(refine lB 27 (.tmp 1) w.heap.size BA.out Tryz.underlying27 ?_)|(go_at_call 13;refine (RI.out _).mono ?_;rintro e w4 ⟨rfl,hb⟩;have l4:=hb.size;replace FR:=zH (FR.out.fut hb);replace BA:=zH (BA.out.fut hb);replace BR:=zH (BR.out.fut hb);clear hb hw_w1 hw_w2))
 have fd:Below w.heap.size w w4.drew:=FR.out.out.drew
 refine wp_region_T (fun w'=>w'.cell? ⟨w.heap.size,3,none⟩=some (.slice A n cap)∧Below w4.drew.heap.size w4.drew w') 8 (by kernel_rfl) ?_ (fun hS=>?_)
 ·exact ⟨BA.out.drew.cell 3,Below.refl _ _⟩
 refine kT 0 rfl hS ?_
 try simp only [pX]
 refine kT 1 rfl hS ?_
 try simp only [pX]
 refine kT 2 rfl hS ?_
 try simp only [pX]
 refine kT 3 rfl hS ?_
 try simp only [pX]
 refine kT 4 rfl hS ?_
 try simp only [pX]
 refine kT 5 rfl hS ?_
 try simp only [pX]
 refine wpAnyT_one (i:=6) (by kernel_rfl) rfl rfl (fun K hK=>?_)
 go_simp
 refine (clone8_any A n cap t.data _ ((Old.now HA.out).fut fd).all (by omega)).mono ?_;rintro e wm ⟨RA,rn,rc,rfl,rs,hb⟩
 refine hK.out _ _ ?_ (fun hS=>?_)
 ·exact ⟨(by first|exact cell_later hb hS.1|exact Blk.later hS.1 hb),(by first|exact below_later hb hS.2|exact grown_below hS.2 hb)⟩
 clear hK K
 try simp only [pX]
 refine kT 7 rfl hS ?_
 try simp only [pX]
 refine wpAnyT_tail _ _ rfl rfl (by kernel_rfl) ?_
 have kd:=(show Below w4.heap.size w4 w4.drew from (Below.refl _ _).drew).trans hb
 have RS:=zH (show New w4 (tInt .i8) wm RA rn rc t.data from ⟨rs⟩)
 have BR5:=zH (BR.out.fut kd)
 have lfr:=FR.out.size
 replace FR:=zH (FR.out.fut kd)
 have lbr:=BR.out.lt
 clear hS hb rs kd
 go_wp2_with (refine sB 27 (.tmp 2) (.tmp 15) w1.heap.size #[.int .i64 1,.int .i64 1,.int .i64 n,.slice RA rn rc] BR5.out ?_;intro w9 B9 g9)
 refine ret_cell_tmp rfl B9 rfl Tryz.underlying27 (by kernel_rfl) rfl ?_
 exact ⟨RA,rn,rc,rfl,(RS.out.away g9 lbr).out.more (bin_more lfr (Nat.le_refl _)),(FR.out.away g9 (by omega)).out⟩
end Go.Proofs.YtjkmjpjknmghlaaGreat
namespace Go.Proofs.YtjkmjpjknmghlaaGreat
open Go.RowKit Go.ChangeShapes Go.WideShapes Fx
set_option maxRecDepth 100000
set_option maxHeartbeats 4000000
def joinV (d:Node) (x y:Int):Int:=w8 (heldV (roundV ((x - d.za)*d.qm) d.qs+roundV ((y - d.zb)*d.rm) d.rs+d.qz) d.lo d.hi)
theorem joinV_in (d:Node) (x y:Int):InK .i8 (joinV d x y):=w8_in _
def mayV (d:Node):Bool:=quantOk d.qm d.qs && quantOk d.rm d.rs
theorem prod8 {a b m:Int} (ha:InK .i8 a) (hb:InK .i8 b) (hm:InK .i32 m):((a - b)*m).natAbs≤547608330240:=by
 rw [inK_i8] at ha hb
 rw [inK_i32] at hm
 exact Nat.le_trans (natAbs_mul_le (m:=255) (n:=2147483648) (by omega) (by omega)) (by decide)
theorem joinMay_any (d:Node) (W:Option Addr) (nw cw:Nat) (B:Option Addr) (nb cb:Nat) (w:World) :
  Calls Tryz.prog 82 #[.agg (nN d.kind d.a d.b d.k d.s d.p d.out d.za d.zb W nw cw B nb cb d.qm d.qs d.qz d.rm d.rs d.rz d.lo d.hi)] w fun e w'=>e=.returned (.bool (mayV d))∧Below w.heap.size w w':=by
 have Q1:=zH (fun w=>fixRight_any d.qm d.qs d.qz w)
 have Q2:=zH (fun w=>fixRight_any d.rm d.rs d.rz w)
 have FR:=zH (Far.refl w)
 obtain ⟨w1,hw_w1,BN,k_w1⟩:=nB w (nN d.kind d.a d.b d.k d.s d.p d.out d.za d.zb W nw cw B nb cb d.qm d.qs d.qz d.rm d.rs d.rz d.lo d.hi) 44
 replace FR:=zH (FR.out.fut k_w1)
 clear k_w1
 unfold mayV
 obtain ⟨q,hq⟩:∃ q,quantOk d.qm d.qs=q:=⟨_,rfl⟩
 obtain ⟨r,hr⟩:∃ r,quantOk d.rm d.rs=r:=⟨_,rfl⟩
 rw [hq] at Q1 ⊢
 rw [hr] at Q2 ⊢
 clear hq hr
 cases q with
 | false =>
  go_enter Tryz.func82,Tryz.ntmps82
  go_wp2_with (first|(refine wpList_load_blk rfl 42 (.tmp 3) rfl w.heap.size 11 rfl _ (nN d.kind d.a d.b d.k d.s d.p d.out d.za d.zb W nw cw B nb cb d.qm d.qs d.qz d.rm d.rs d.rz d.lo d.hi) #[.int .i32 d.qm,.int .i64 d.qs,.int .i8 d.qz] _ BN.out Tryz.underlying42 rfl (by kernel_rfl) rfl ?_)|(go_at_call 73;refine (Q1.out _).mono ?_;rintro e w2 ⟨rfl,hb⟩))
  go_ret
  exact ⟨rfl,(FR.out.fut hb).out⟩
 | true =>
  go_enter Tryz.func82,Tryz.ntmps82
  go_wp2_with (first|(refine wpList_load_blk rfl 42 (.tmp 3) rfl w.heap.size 11 rfl _ (nN d.kind d.a d.b d.k d.s d.p d.out d.za d.zb W nw cw B nb cb d.qm d.qs d.qz d.rm d.rs d.rz d.lo d.hi) #[.int .i32 d.qm,.int .i64 d.qs,.int .i8 d.qz] _ BN.out Tryz.underlying42 rfl (by kernel_rfl) rfl ?_)|(refine wpList_load_blk rfl 42 (.tmp 7) rfl w.heap.size 14 rfl _ (nN d.kind d.a d.b d.k d.s d.p d.out d.za d.zb W nw cw B nb cb d.qm d.qs d.qz d.rm d.rs d.rz d.lo d.hi) #[.int .i32 d.rm,.int .i64 d.rs,.int .i8 d.rz] _ BN.out Tryz.underlying42 rfl (by kernel_rfl) rfl ?_)|(go_at_call 73;first|(with_reducible refine (Q1.out _).mono ?_;rintro e w2 ⟨rfl,hb⟩;replace FR:=zH (FR.out.fut hb);replace BN:=zH (BN.out.fut hb);clear hb hw_w1;have c14:=BN.out.cell 14;have c15:=BN.out.cell 15;have c16:=BN.out.cell 16;simp only [gX] at c14 c15 c16)|(with_reducible refine (Q2.out _).mono ?_;rintro e w3 ⟨rfl,hb⟩)))
  go_ret
  exact ⟨by cases r <;> rfl,(FR.out.fut hb).out⟩
theorem joinScaled_any (x zz m s z:Int) (w:World) (hx:InK .i8 x) (hz:InK .i8 zz) (hm:InK .i32 m) :
  Calls Tryz.prog 115 #[.int .i8 x,.int .i8 zz,.agg #[.int .i32 m,.int .i64 s,.int .i8 z]] w fun e w'=>e=.returned (.int .i64 (roundV ((x - zz)*m) s))∧Below w.heap.size w w':=by
 rw [inK_i8] at hx hz
 obtain ⟨x1,x2⟩:=hx
 obtain ⟨z1,z2⟩:=hz
 have SC:=zH (fun w=>scale_any (x - zz) m s w (by rw [inK_i32];omega) hm)
 have FR:=zH (Far.refl w)
 obtain ⟨w1,hw_w1,BQ,k_w1⟩:=nB w #[.int .i32 m,.int .i64 s,.int .i8 z] 42
 replace FR:=zH (FR.out.fut k_w1)
 clear k_w1
 have d0:=BQ.out.cell 0
 have d1:=BQ.out.cell 1
 clear hm
 go_enter Tryz.func115,Tryz.ntmps115
 go_wp2_with (go_at_call 131;refine (SC.out _).mono ?_;rintro e w2 ⟨rfl,hb⟩)
 go_ret
 exact ⟨rfl,(FR.out.fut hb).out⟩
theorem joinOne_any (x y:Int) (d:Node) (W:Option Addr) (nw cw:Nat) (B:Option Addr) (nb cb:Nat) (w:World) (hx:InK .i8 x) (hy:InK .i8 y) (hd:NodeIn d) (hm:mayV d=true) :
  Calls Tryz.prog 84 #[.int .i8 x,.int .i8 y,.agg (nN d.kind d.a d.b d.k d.s d.p d.out d.za d.zb W nw cw B nb cb d.qm d.qs d.qz d.rm d.rs d.rz d.lo d.hi)] w fun e w'=>e=.returned (.int .i8 (joinV d x y))∧Below w.heap.size w w':=by
 have b1:=roundV_le _ d.qs _ (prod8 hx hd.za hd.qm)
 have b2:=roundV_le _ d.rs _ (prod8 hy hd.zb hd.rm)
 have MA:=zH (fun w=>joinMay_any d W nw cw B nb cb w)
 rw [hm] at MA
 have S1:=zH (fun w=>joinScaled_any x d.za d.qm d.qs d.qz w hx hd.za hd.qm)
 have S2:=zH (fun w=>joinScaled_any y d.zb d.rm d.rs d.rz w hy hd.zb hd.rm)
 unfold joinV
 obtain ⟨r1,h1⟩:∃ r,roundV ((x - d.za)*d.qm) d.qs=r:=⟨_,rfl⟩
 obtain ⟨r2,h2⟩:∃ r,roundV ((y - d.zb)*d.rm) d.rs=r:=⟨_,rfl⟩
 rw [h1] at S1 b1 ⊢
 rw [h2] at S2 b2 ⊢
 have hz:=hd.qz
 rw [inK_i8] at hz
 obtain ⟨z1,z2⟩:=hz
 have e1:IntKind.i64.wrap (r1+r2)=r1+r2:=IntWalk.i64_in _ (by omega)
 have e2:IntKind.i64.wrap d.qz=d.qz:=IntWalk.i64_in _ (by omega)
 have e3:IntKind.i64.wrap (r1+r2+d.qz)=r1+r2+d.qz:=IntWalk.i64_in _ (by omega)
 have CL:=zH (fun w=>clamp_any (r1+r2+d.qz) d.lo d.hi w hd.lo hd.hi)
 have FR:=zH (Far.refl w)
 obtain ⟨w1,hw_w1,BN,k_w1⟩:=nB w (nN d.kind d.a d.b d.k d.s d.p d.out d.za d.zb W nw cw B nb cb d.qm d.qs d.qz d.rm d.rs d.rz d.lo d.hi) 44
 replace FR:=zH (FR.out.fut k_w1)
 clear k_w1
 clear h1 h2 hm hx hy hd
 go_enter Tryz.func84,Tryz.ntmps84
 go_wp2_with (first|(refine lB 44 (.tmp 5) w.heap.size BN.out Tryz.underlying44 ?_)|(go_at_call 82;refine (MA.out _).mono ?_;rintro e w2 ⟨rfl,hb⟩;replace FR:=zH (FR.out.fut hb);replace BN:=zH (BN.out.fut hb);clear hb hw_w1))
 have c7:∀ q:Ext w2,q.1.cell? ⟨w.heap.size,7,none⟩=some (.int .i8 d.za):=fun q=>(BN.out.ext q).cell 7
 have c8:∀ q:Ext w2,q.1.cell? ⟨w.heap.size,8,none⟩=some (.int .i8 d.zb):=fun q=>(BN.out.ext q).cell 8
 have c11:∀ q:Ext w2,q.1.cell? ⟨w.heap.size,11,none⟩=some (.int .i32 d.qm):=fun q=>(BN.out.ext q).cell 11
 have c12:∀ q:Ext w2,q.1.cell? ⟨w.heap.size,12,none⟩=some (.int .i64 d.qs):=fun q=>(BN.out.ext q).cell 12
 have c13:∀ q:Ext w2,q.1.cell? ⟨w.heap.size,13,none⟩=some (.int .i8 d.qz):=fun q=>(BN.out.ext q).cell 13
 have c14:∀ q:Ext w2,q.1.cell? ⟨w.heap.size,14,none⟩=some (.int .i32 d.rm):=fun q=>(BN.out.ext q).cell 14
 have c15:∀ q:Ext w2,q.1.cell? ⟨w.heap.size,15,none⟩=some (.int .i64 d.rs):=fun q=>(BN.out.ext q).cell 15
 have c16:∀ q:Ext w2,q.1.cell? ⟨w.heap.size,16,none⟩=some (.int .i8 d.rz):=fun q=>(BN.out.ext q).cell 16
 have c17:∀ q:Ext w2,q.1.cell? ⟨w.heap.size,17,none⟩=some (.int .i8 d.lo):=fun q=>(BN.out.ext q).cell 17
 have c18:∀ q:Ext w2,q.1.cell? ⟨w.heap.size,18,none⟩=some (.int .i8 d.hi):=fun q=>(BN.out.ext q).cell 18
 have E1:=zH (fun q:Ext w2=>calls_ext q (S1.out q.1))
 have E2:=zH (fun q:Ext w2=>calls_ext q (S2.out q.1))
 have E3:=zH (fun q:Ext w2=>calls_ext q ((CL.out q.1).mono (fun e w' h=>⟨h.1,by rw [← h.2];exact Below.refl _ _⟩)))
 refine wp_region_ext w2 (by kernel_rfl) (by kernel_rfl) (Below.refl _ _) ?_
 repeat (go_big_quiet_step (first|(with_reducible exact E1.out _)|(with_reducible exact E2.out _)|(with_reducible exact E3.out _)))
 refine wpQuiet_nil ?_
 rintro _ ⟨⟨w3,hB⟩,rfl⟩
 go_wp2_with fail
 go_ret
 exact ⟨rfl,(FR.out.fut hB).out⟩
end Go.Proofs.YtjkmjpjknmghlaaGreat
namespace Go.Proofs.YtjkmjpjknmghlaaGreat
open Go.RowKit Go.ChangeShapes Go.WideShapes Fx
set_option maxRecDepth 100000
set_option maxHeartbeats 4000000
def e88 (x:I8 × I8):Array Value:=#[Value.int .i8 x.1.1,Value.int .i8 x.2.1]
def pairX (l l':List Int) (hl:∀ i,InK .i8 (l.getD i 0)) (hl':∀ i,InK .i8 (l'.getD i 0)) (i:Nat):I8 × I8:=(⟨l.getD i 0,hl i⟩,⟨l'.getD i 0,hl' i⟩)
structure KeepS (S:Nat → Prop) (W W':World):Prop where
 size:W.heap.size≤W'.heap.size
 same:∀ k,S k → W'.heap[k]?=W.heap[k]?
theorem KeepS.refl (S:Nat → Prop) (W:World):KeepS S W W:=⟨Nat.le_refl _,fun _ _=>rfl⟩
theorem KeepS.trans {S:Nat → Prop} {A B C:World} (h:KeepS S A B) (k:KeepS S B C):KeepS S A C:=⟨Nat.le_trans h.size k.size,fun i hi=>(k.same i hi).trans (h.same i hi)⟩
theorem KeepS.put {S:Nat → Prop} {m:Nat} (hS:∀ k,S k → k < m) (W:World) (l:Nat) (o o':Obj) (hl:m≤l) (h:W.heap[l]?=some o) (h1:o.isCells=false) (h2:o.isWalk=false):KeepS S W (W.putObj l o') :=
 ⟨(grownBy_putObj' W l o').size,fun k hk=>World.putObj_heap_other (fun e=>by have:=hS k hk;omega)⟩
theorem Blk.keepS {w w':World} {S:Nat → Prop} {g:Nat} {e:TypeId} {cs:Array Value} (h:Blk w g e cs) (hk:KeepS S w w') (hg:S g):Blk w' g e cs:=⟨(hk.same g hg).trans h.heap⟩
theorem pairs1_stops (S:Nat → Prop) (A A':Option Addr) (n cap cap':Nat) (l l':List Int) (bA bB m:Nat) (w:World)
  (hl:Sl (tInt .i8) w S A n cap l) (hl':Sl (tInt .i8) w S A' n cap' l') (hn2:n≤1024)
  (BA:Blk w bA 25 #[.slice A n cap]) (BB:Blk w bB 25 #[.slice A' n cap']) (hb:S bA∧S bB) (hS:∀ k,S k → k < w.heap.size) (hm:1≤m) :
  SeqStopsK Fence.wide m Tryz.prog 113 #[.pointer (some ⟨bA,0,none⟩),.pointer (some ⟨bB,0,none⟩)] e88 (KeepS S) (fun ys=>ys=(List.range n).map (pairX l l' hl.allK hl'.allK)) (fun _=>True) n w:=by
 intro lo J Jx W0 hW hJ hJx hY h0
 obtain ⟨XF,hXF⟩:∃ f,pairX l l' hl.allK hl'.allK=f:=⟨_,rfl⟩
 have X1:∀ i,(XF i).1.1=l.getD i 0∧(XF i).2.1=l'.getD i 0:=fun i=>by rw [← hXF];exact ⟨rfl,rfl⟩
 rw [hXF]
 have hWb:KeepS S w W0:=⟨hW.size,fun k hk=>hW.block k (hS k hk)⟩
 have HL:=zH (hl.keep fun b h=>hWb.same b h)
 have HL':=zH (hl'.keep fun b h=>hWb.same b h)
 have GB:=zH hb
 have BA:=zH (BA.keepS hWb hb.1)
 have BB:=zH (BB.keepS hWb hb.2)
 have HX:=zH X1
 have HY:=zH hY
 have mx:n≤9223372036854775807:=by omega
 have a0:=BA.out.cell 0
 clear hl hl' hXF hW hWb hJ hJx hY hb hS X1
 rw [callsIn_wide]
 simp only [List.append_toArray,List.cons_append,List.nil_append]
 go_enter Tryz.func113,Tryz.ntmps113
 go_wp2_with fail
 clear a0
 go_loopw [8] (fun ii wr=>∃ k:Nat,k≤n∧ii=.int .i64 k∧J ((List.range k).map XF) wr∧KeepS S W0 wr) (fun ii _=>n - (intOf ii).toNat)
 case atStart=>exact ⟨0,Nat.zero_le _,rfl,h0,KeepS.refl _ _⟩
 case round =>
  obtain ⟨k,hk,rfl,hj,hbw⟩:=hrel
  have BB:=zH (BB.out.keepS hbw GB.out.2)
  have HL:=zH (HL.out.keep fun b h=>hbw.same b h)
  have HL':=zH (HL'.out.keep fun b h=>hbw.same b h)
  have HJS:=zH hj
  have HB:=zH hbw
  clear hj hbw
  by_cases hlt:k < n
  ·have p1':(k:Int) < (n:Int):=by omega
   obtain ⟨b,o,rfl,-,-,cx,-⟩:=HL.out.int_at k hlt
   obtain ⟨b',o',rfl,-,-,cy,-⟩:=HL'.out.int_at k hlt
   obtain ⟨v8,hv8⟩:∃ v:I8 × I8,XF k=v:=⟨_,rfl⟩
   have hx:=HX.out k
   rw [hv8] at hx
   rw [← hx.1] at cx
   rw [← hx.2] at cy
   have b0:=BB.out.cell 0
   simp only [List.getElem?_toArray,List.getElem?_cons_zero] at b0
   have j8:∀ W,J ((List.range k).map XF ++ [v8]) W → J ((List.range (k+1)).map XF) W:=fun W h=>by
    rw [List.range_succ,List.map_append]
    show J (_ ++ [XF k]) W
    rw [hv8];exact h
   have J8:=zH j8
   obtain ⟨fn,tmps,assign,body,hy,hR⟩:=HY.out ((List.range k).map XF) v8 wr HJS.out (by simpa using hlt)
   simp only [e88] at hy
   clear hv8 hx j8
   go_upto_region 3 with fail
   rw [← wpIn_wide (n:=m)]
   gi_wp2
   refine hR.mono ?_
   rintro e w4 (⟨rfl,hJ4,hk4⟩|⟨rfl,hJx4⟩)
   ·gi_wp2
    go_wp2_with fail
    exact ⟨⟨k+1,by omega,by go_num,J8.out _ hJ4,HB.out.trans hk4⟩,by simp [intOf];omega⟩
   ·gi_wp2
    go_wp2_with fail
    refine bodyPost_ret (results_none rfl _ _ _) rfl ?_
    exact ⟨⟨_,rfl⟩,.inr ⟨_,trivial,hJx4⟩⟩
  ·obtain rfl:k=n:=by omega
   go_wp2_with fail
   refine bodyPost_end (results_none rfl _ _ _) rfl ?_
   exact ⟨⟨_,rfl⟩,.inl ⟨(List.range k).map XF,by first|rfl|simp,HJS.out⟩⟩
theorem pairs_any (A A':Option Addr) (n cap n' cap':Nat) (w:World) :
  Calls Tryz.prog 83 #[.slice A n cap,.slice A' n' cap'] w fun e w'=>e=.returned (.func (.func 113) #[] #[.pointer (some ⟨w.heap.size,0,none⟩),.pointer (some ⟨w.heap.size+1,0,none⟩)])∧w'=(w.alloc (.cells #[.slice A n cap] 25)).alloc (.cells #[.slice A' n' cap'] 25):=by
 go_enter Tryz.func83,Tryz.ntmps83
 go_wp2_with fail
 go_ret
 exact ⟨rfl,rfl⟩
end Go.Proofs.YtjkmjpjknmghlaaGreat
