/-
  actBy_any, told with cells that may be written (for the law RunAgain).
-/
import Derived.Deep.DeepCutAuto
import Derived.Deep.CutRange
import Derived.Deep.CutBlock
import Derived.Test.YtlbkekabmpienaaGreatJ26
import Derived.Test.YtlbkekabmpienaaGreatKA00
import Derived.Test.YtlbkekabmpienaaGreatJ00
import Derived.Test.YtlbkekabmpienaaGreatJ01
import Derived.Test.YtlbkekabmpienaaGreatJ18
import Derived.Test.YtlbkekabmpienaaGreatJ06
import Derived.Test.YtlbkekabmpienaaGreatJ14
import Derived.Test.YtlbkekabmpienaaGreatJ11
import Derived.Test.YtlbkekabmpienaaGreatJ04
import Derived.Test.YtlbkekabmpienaaGreatJ13
import Derived.Test.YtlbkekabmpienaaGreatJ03
import Derived.Test.YtlbkekabmpienaaGreatJ02
import Derived.Test.YtlbkekabmpienaaGreatJ05
import Derived.Test.YtlbkekabmpienaaGreatJ10
namespace Go.Proofs.YtlbkekabmpienaaGreat
set_option linter.unusedVariables false
set_option linter.unusedSimpArgs false
open Go.RowKit Go.ChangeShapes Go.WideShapes Fx
set_option maxRecDepth 100000
set_option maxHeartbeats 8000000
theorem actBy_anyW (t:Tensor) (A:Option Addr) (n cap:Nat) (F:Nat → Int) (w:World) (ht:TensorIn t) (ha:Sl (tInt .i8) w (blo w.heap.size) A n cap t.data) (c1:t.ok=true) (hF:∀ i,InK .i8 (F i)) :
  Calls Tryz.prog 59 #[.agg #[.int .i64 t.h,.int .i64 t.v,.int .i64 t.c,.slice A n cap],.agg (tabC F 256)] w (RetW .i8 ⟨t.h,t.v,t.c,(List.range n).map fun i=>F (t.data.getD i 0+128).toNat⟩ 0 w):=by
 have HA:=zH ha
 have HF:=zH hF
 have HT:=zH ht
 obtain ⟨H,V,C,TK⟩:=tok_of c1
 have hn2:n≤1024:=by have:=TK.n_le;rw [ha.n_eq] at this;exact this
 have c1':decide (0 < elems t.h t.v t.c∧elems t.h t.v t.c=n)=true:=by rw [← HA.out.n_eq];simpa [Tensor.ok] using c1
 have RI:=zH (fun w=>tensorRight_any t.h t.v t.c A n cap w ht.h ht.v ht.c (Nat.le_trans ha.cap_le ha.max_le))
 rw [c1'] at RI
 have mx:n≤9223372036854775807:=by omega
 have FR:=zH (Far.refl w)
 obtain ⟨w1,hw_w1,BA,k_w1⟩:=nB w #[.int .i64 t.h,.int .i64 t.v,.int .i64 t.c,.slice A n cap] 32
 replace FR:=zH (FR.out.fut k_w1)
 clear k_w1
 obtain ⟨w2,hw_w2⟩:∃ x,w1.alloc (.cells (tabC F 256) 83)=x:=⟨_,rfl⟩
 have k2:Below w1.heap.size w1 w2:=by rw [← hw_w2];exact (Below.refl _ _).alloc (Nat.le_refl _) _
 have BT:=zH (show Blk w2 w1.heap.size 83 (tabC F 256) by rw [← hw_w2];exact Blk.now _ _ _ _ rfl)
 replace FR:=zH (FR.out.fut k2)
 replace BA:=zH (BA.out.fut k2)
 obtain ⟨w3,hw_w3,BR,k_w3⟩:=nB w2 #[.int .i64 0,.int .i64 0,.int .i64 0,.slice none 0 0] 32
 replace FR:=zH (FR.out.fut k_w3)
 replace BA:=zH (BA.out.fut k_w3)
 replace BT:=zH (BT.out.fut k_w3)
 clear k_w3
 have l1:w.heap.size < w1.heap.size:=by rw [← hw_w1];simp
 have l2:w1.heap.size < w2.heap.size:=by rw [← hw_w2];simp
 have l3:w2.heap.size < w3.heap.size:=by rw [← hw_w3];simp
 clear ht ha c1 c1' TK hF k2
 go_enter Tryz.func59,Tryz.ntmps59
 go_wp2_with (first|(refine lB 32 (.tmp 2) w.heap.size BA.out Tryz.underlying32 ?_)|(go_at_call 17;refine (RI.out _).mono ?_;rintro e w4 ⟨rfl,hb⟩;have l4:=hb.size;replace FR:=zH (FR.out.fut hb);replace BA:=zH (BA.out.fut hb);replace BT:=zH (BT.out.fut hb);replace BR:=zH (BR.out.fut hb);clear hb hw_w1 hw_w2 hw_w3))
 go_cut [6] (fun b wx=>∃ g q,b=.pointer (some ⟨g,0,none⟩)∧Blk wx g 32 #[.int .i64 t.h,.int .i64 t.v,.int .i64 t.c,.slice (some ⟨q,0,none⟩) (n) (n)]∧Own (tInt .i8) wx (fun _=>False) w4.heap.size 22 (.slice (some ⟨q,0,none⟩) (n) (n)) (n) (List.replicate (n) 0)∧q ≠ g∧w4.heap.size≤g∧Below w4.heap.size w4 wx)
 case first =>
  refine wp_region_held_drew (S:=fun w'=>w'.cell? ⟨w.heap.size,3,none⟩=some (.slice A n cap)∧Blk w' (w.heap.size) 32 #[.int .i64 t.h,.int .i64 t.v,.int .i64 t.c,.slice A n cap]∧Below w4.heap.size w4 w') (by kernel_rfl) ?_ (fun hS=>?_)
  ·exact ⟨BA.out.drew.cell 3,BA.out.drew,(Below.refl _ _).drew⟩
  refine tkH 0 rfl (v:=?_) (Or.inl ⟨by rfl,?_⟩) hS ?_
  rotate_left
  ·intro w hSw;(try dsimp only at hSw);go_simp;try with_reducible rfl
  try simp only [pX]
  refine tkH 1 rfl (yieldsIf_load_blk (by rfl) 30 (.tmp 13) rfl w.heap.size 0 rfl _ #[.int .i64 t.h,.int .i64 t.v,.int .i64 t.c,.slice A n cap] #[.int .i64 t.h,.int .i64 t.v,.int .i64 t.c] _ (fun w hs=>hs.2.1) Tryz.underlying30 rfl (by kernel_rfl) rfl) hS ?_
  try simp only [pX]
  refine tkH 2 rfl (v:=?_) (Or.inl ⟨by rfl,?_⟩) hS ?_
  rotate_left
  ·intro w hSw;(try dsimp only at hSw);go_simp;try with_reducible rfl
  try simp only [pX]
  refine tkH 3 rfl (v:=?_) (Or.inl ⟨by rfl,?_⟩) hS ?_
  rotate_left
  ·intro w hSw;(try dsimp only at hSw);go_simp;try with_reducible rfl
  try simp only [pX]
  refine tkH 4 rfl (v:=?_) (Or.inl ⟨by rfl,?_⟩) hS ?_
  rotate_left
  ·intro w hSw;(try dsimp only at hSw);go_simp;try with_reducible rfl
  try simp only [pX]
  refine wpAnyH_ready (rs:=[5,7]) (by kernel_rfl) (by simp) ?_
  refine AllReadyH.cons rfl (fun K hK=>?_) (AllReadyH.cons rfl (fun K hK=>?_) AllReadyH.nil)
  ·rw [if_pos (by rfl)]
   have zq:w4.heap.size≤w4.drew.heap.size:=hS.2.2.size
   refine oper_make (k:=.i8) (base:=w4.heap.size) (n:=n) (.tmp 17) (.tmp 17) rfl ei_b8 .i64 .i64 rfl rfl (by omega) (by unfold maxLen;omega) zq (by decide) ?_
   intro wm own gm
   have OW:=zH (show Own (tInt .i8) wm (fun _=>False) w4.heap.size 22 (.slice (some ⟨w4.heap.size,0,none⟩) (n) (n)) (n) (List.replicate (n) 0) by first|exact own|simpa [World.size_alloc] using own)
   refine hK.out _ _ ⟨cell_grown gm hS.1 (by simp),Blk.grown0 hS.2.1 gm,hS.2.2.grown gm zq (by simp)⟩ (fun hS=>?_)
   clear hK K own gm
   try simp only [pX]
   refine tkH 6 rfl (v:=?_) (Or.inl ⟨by rfl,?_⟩) hS ?_
   rotate_left
   ·intro w hSw;(try dsimp only at hSw);go_simp;try with_reducible rfl
   try simp only [pX]
   refine wpAnyH_ready (rs:=[7]) (by kernel_rfl) (by simp) ?_
   refine AllReadyH.cons rfl (fun K hK=>?_) AllReadyH.nil
   go_simp
   have zg:w4.heap.size≤wm.heap.size:=hS.2.2.size
   have hb:Below wm.heap.size wm (wm.alloc (.cells #[.int .i64 0,.int .i64 0,.int .i64 0,.slice none 0 0] 32)):=(Below.refl _ _).alloc (Nat.le_refl _) _
   have BZ:=zH (Blk.now wm wm.heap.size 32 #[.int .i64 0,.int .i64 0,.int .i64 0,.slice none 0 0] rfl)
   have ltq:w4.heap.size < wm.heap.size:=(OW.out.lt _ rfl).2
   replace OW:=zH (OW.out.below hb (Nat.le_refl _) (fun _ h=>h.elim))
   refine hK.out _ _ ?_ (fun hS=>?_)
   ·exact ⟨cell_later hb hS.1,Blk.later hS.2.1 hb,below_later hb hS.2.2⟩
   clear hK K
   try simp only [pX]
   refine wpAnyH_ready (rs:=[8]) (by kernel_rfl) (by simp) ?_
   refine AllReadyH.cons rfl (fun K hK=>?_) AllReadyH.nil
   rw [if_pos (by rfl)]
   refine oper_store_blk 32 (.tmp 6) (.tmp 19) rfl wm.heap.size 0 #[.int .i64 t.h,.int .i64 t.v,.int .i64 t.c,.slice (some ⟨w4.heap.size,0,none⟩) (n) (n)] rfl rfl _ #[.int .i64 0,.int .i64 0,.int .i64 0,.slice none 0 0] #[.int .i64 t.h,.int .i64 t.v,.int .i64 t.c,.slice (some ⟨w4.heap.size,0,none⟩) (n) (n)] BZ.out (by simp) (by kernel_rfl) (by simp [Value.oneCell']) rfl ?_
   intro wc BX gc
   have hne:w4.heap.size ≠ wm.heap.size:=by have:=ltq;simp only [World.size_drew] at *;omega
   replace OW:=zH (OW.out.flat gc (.inr (by first|(simp [Value.ownBlock];done)|(simp [Value.ownBlock];exact hne))) (fun _ h=>h))
   refine hK.out _ _ ⟨cell_grown gc hS.1 (by intro e;have:=Option.some.inj e;have:=(show w.heap.size < w4.heap.size by omega);have:=zg;simp only [World.size_drew] at *;omega),hS.2.1.away gc (by have:=(show w.heap.size < w4.heap.size by omega);have:=zg;simp only [World.size_drew] at *;omega),hS.2.2.grown gc hS.2.2.size (fun k h=>by have:=Option.some.inj h;have:=zg;simp only [World.size_drew] at *;omega)⟩ (fun hS=>?_)
   clear hK K
   try simp only [pX]
   refine wpAnyH_done (by kernel_rfl) ?_ _
   have FZ:=hS.2.2
   go_wp2_with fail
   go_meet
   case rel=>exact ⟨_,_,rfl,BX,OW.out,hne,zg,FZ⟩
  ·go_simp
   have zg:w4.heap.size≤w4.heap.size:=hS.2.2.size
   have hb:Below w4.drew.heap.size w4.drew (w4.drew.alloc (.cells #[.int .i64 0,.int .i64 0,.int .i64 0,.slice none 0 0] 32)):=(Below.refl _ _).alloc (Nat.le_refl _) _
   have BZ:=zH (Blk.now w4.drew w4.heap.size 32 #[.int .i64 0,.int .i64 0,.int .i64 0,.slice none 0 0] rfl)
   refine hK.out _ _ ?_ (fun hS=>?_)
   ·exact ⟨cell_later hb hS.1,Blk.later hS.2.1 hb,below_later hb hS.2.2⟩
   clear hK K
   try simp only [pX]
   refine wpAnyH_ready (rs:=[5]) (by kernel_rfl) (by simp) ?_
   refine AllReadyH.cons rfl (fun K hK=>?_) AllReadyH.nil
   rw [if_pos (by rfl)]
   have zq:w4.heap.size≤(w4.drew.alloc (.cells #[.int .i64 0,.int .i64 0,.int .i64 0,.slice none 0 0] 32)).heap.size:=hS.2.2.size
   refine oper_make (k:=.i8) (base:=w4.heap.size) (n:=n) (.tmp 17) (.tmp 17) rfl ei_b8 .i64 .i64 rfl rfl (by omega) (by unfold maxLen;omega) zq (by decide) ?_
   intro wm own gm
   have OW:=zH (show Own (tInt .i8) wm (fun _=>False) w4.heap.size 22 (.slice (some ⟨(w4.heap.size+1),0,none⟩) (n) (n)) (n) (List.replicate (n) 0) by first|exact own|simpa [World.size_alloc] using own)
   replace BZ:=zH (BZ.out.grown0 gm)
   refine hK.out _ _ ⟨cell_grown gm hS.1 (by simp),Blk.grown0 hS.2.1 gm,hS.2.2.grown gm zq (by simp)⟩ (fun hS=>?_)
   clear hK K own gm
   try simp only [pX]
   refine tkH 6 rfl (v:=?_) (Or.inl ⟨by rfl,?_⟩) hS ?_
   rotate_left
   ·intro w hSw;(try dsimp only at hSw);go_simp;try with_reducible rfl
   try simp only [pX]
   refine wpAnyH_ready (rs:=[8]) (by kernel_rfl) (by simp) ?_
   refine AllReadyH.cons rfl (fun K hK=>?_) AllReadyH.nil
   rw [if_pos (by rfl)]
   refine oper_store_blk 32 (.tmp 6) (.tmp 19) rfl w4.heap.size 0 #[.int .i64 t.h,.int .i64 t.v,.int .i64 t.c,.slice (some ⟨(w4.heap.size+1),0,none⟩) (n) (n)] rfl rfl _ #[.int .i64 0,.int .i64 0,.int .i64 0,.slice none 0 0] #[.int .i64 t.h,.int .i64 t.v,.int .i64 t.c,.slice (some ⟨(w4.heap.size+1),0,none⟩) (n) (n)] BZ.out (by simp) (by kernel_rfl) (by simp [Value.oneCell']) rfl ?_
   intro wc BX gc
   have hne:(w4.heap.size+1) ≠ w4.heap.size:=by omega
   replace OW:=zH (OW.out.flat gc (.inr (by first|(simp [Value.ownBlock];done)|(simp [Value.ownBlock];exact hne))) (fun _ h=>h))
   refine hK.out _ _ ⟨cell_grown gc hS.1 (by intro e;have:=Option.some.inj e;have:=(show w.heap.size < w4.heap.size by omega);have:=zg;simp only [World.size_drew] at *;omega),hS.2.1.away gc (by have:=(show w.heap.size < w4.heap.size by omega);have:=zg;simp only [World.size_drew] at *;omega),hS.2.2.grown gc hS.2.2.size (fun k h=>by have:=Option.some.inj h;have:=zg;simp only [World.size_drew] at *;omega)⟩ (fun hS=>?_)
   clear hK K
   try simp only [pX]
   refine wpAnyH_done (by kernel_rfl) ?_ _
   have FZ:=hS.2.2
   go_wp2_with fail
   go_meet
   case rel=>exact ⟨_,_,rfl,BX,OW.out,hne,zg,FZ⟩
 case rest =>
  obtain ⟨g,q,rfl,bg,own,hqg,zg,b4⟩:=hcut
  obtain ⟨w5,rfl⟩:∃ x,x=wc:=⟨_,rfl⟩
  have BG:=zH bg
  have lq:w4.heap.size≤q:=(own.lt _ rfl).1
  replace FR:=zH (FR.out.fut b4)
  replace BA:=zH (BA.out.fut b4)
  replace BT:=zH (BT.out.fut b4)
  replace BR:=zH (BR.out.fut b4)
  clear b4
  rw [← filling_zero 0 (fun i=>F (t.data.getD i 0+128).toNat) n] at own
  have ON:=zH own
  have NQ:=zH (show q ≠ g∧w4.heap.size≤q∧w4.heap.size≤g∧w2.heap.size < w4.heap.size∧w1.heap.size < w2.heap.size∧w.heap.size < w1.heap.size by refine ⟨hqg,?_,?_,?_,?_,?_⟩ <;> omega)
  have a3:=BA.out.cell 3
  clear bg own hqg zg lq
  go_wp2_with fail
  clear a3
  go_loopw [23] (fun ii wr=>∃ k:Nat,k≤n∧ii=.int .i64 k∧Far w wr∧Blk wr w.heap.size 32 #[.int .i64 t.h,.int .i64 t.v,.int .i64 t.c,.slice A n cap]∧Blk wr w1.heap.size 83 (tabC F 256)∧Blk wr w2.heap.size 32 #[.int .i64 0,.int .i64 0,.int .i64 0,.slice none 0 0]∧Blk wr g 32 #[.int .i64 t.h,.int .i64 t.v,.int .i64 t.c,.slice (some ⟨q,0,none⟩) n n]∧Own (tInt .i8) wr (fun _=>False) w4.heap.size 22 (.slice (some ⟨q,0,none⟩) n n) n (filling 0 (fun i=>F (t.data.getD i 0+128).toNat) n k)) (fun ii _=>n - (intOf ii).toNat)
  case atStart=>exact ⟨0,Nat.zero_le _,rfl,FR.out,BA.out,BT.out,BR.out,BG.out,ON.out⟩
  case round =>
   obtain ⟨k,hk,rfl,f0,f1,f2,f3,f4,f5⟩:=hrel
   clear FR BA BT BR BG ON
   have FR:=zH f0
   have BA:=zH f1
   have BT:=zH f2
   have BR:=zH f3
   have BG:=zH f4
   have ON:=zH f5
   clear f0 f1 f2 f3 f4 f5
   by_cases hlt:k < n
   ·have p1:(k:Int) < (n:Int):=by omega
    obtain ⟨b,o,rfl,-,-,cx,ix⟩:=((Old.now HA.out).fut FR.out.out).all.int_at k hlt
    have FS:=zH (filling_set 0 (fun i=>F (t.data.getD i 0+128).toNat) n k hlt)
    obtain ⟨x,hx⟩:∃ x,t.data.getD k 0=x:=⟨_,rfl⟩
    rw [hx] at cx ix
    have FE:=zH (show F (t.data.getD k 0+128).toNat=F (x+128).toNat by rw [hx])
    rw [inK_i8] at ix
    obtain ⟨x1,x2⟩:=ix
    obtain ⟨y,hy⟩:∃ y:Nat,x+128=y:=⟨(x+128).toNat,by omega⟩
    have hyl:y < 256:=by omega
    rw [hy,Int.toNat_natCast] at FE
    obtain ⟨v,hv⟩:∃ v,F y=v:=⟨_,rfl⟩
    have RE:=zH (show InK .i8 v by rw [← hv];exact HF.out y)
    have tb:=BT.out.cell y
    rw [tabC_at F 256 y hyl,if_pos hyl,hv] at tb
    rw [hv] at FE
    obtain ⟨x0,u0,-,-,c5,c6,c7,-⟩:=ON.out.cell rfl k hlt
    have bg3:=BG.out.cell 3
    have e1:IntKind.i64.wrap x=x:=IntWalk.i64_in _ (by omega)
    have e2:IntKind.i64.wrap (x+128)=(y:Int):=(IntWalk.i64_in _ (by omega)).trans hy
    have e3:IntKind.i64.wrap (y:Int)=(y:Int):=IntWalk.i64_in _ (by omega)
    have hyi:(y:Int) < 256:=by omega
    clear hx hv
    go_wp2_with fail
    go_still_tail 8,(by kernel_rfl)
    change wpList _ _ _ _ _ wr.drew
    have kd:Below wr.heap.size wr wr.drew:=(Below.refl _ _).drew
    replace ON:=zH (ON.out.below kd (Nat.le_refl _) (fun _ h=>h.elim))
    replace FR:=zH (FR.out.fut kd)
    replace BA:=zH (BA.out.fut kd)
    replace BT:=zH (BT.out.fut kd)
    replace BR:=zH (BR.out.fut kd)
    replace BG:=zH (BG.out.fut kd)
    clear kd cx tb bg3 c5 c6 c7
    generalize wr.drew=wy at *
    obtain ⟨x9,u9,-,-,c5,c6,c7,-⟩:=ON.out.cell rfl k hlt
    go_wp2_with fail
    obtain ⟨o3,g3⟩:=ON.out.set1 rfl k (.int .i8 v) v ⟨rfl,RE.out⟩ (fun _ h=>h.elim)
    have fs:=FS.out
    rw [FE.out] at fs
    rw [fs] at o3
    obtain ⟨n1,n2,n3,n4,n5,n6⟩:=NQ.out
    exact ⟨⟨k+1,by omega,by go_num,FR.out.away g3 (by omega),BA.out.away g3 (.inl (by omega)),BT.out.away g3 (.inl (by omega)),BR.out.away g3 (.inl (by omega)),BG.out.away g3 (by omega),o3⟩,by simp [intOf];omega⟩
   ·obtain rfl:k=n:=by omega
    obtain ⟨n1,n2,n3,n4,n5,n6⟩:=NQ.out
    go_wp2_with (first|(refine lB 32 (.tmp 6) g BG.out Tryz.underlying32 ?_)|(refine sB 32 (.tmp 4) (.tmp 38) w2.heap.size #[.int .i64 t.h,.int .i64 t.v,.int .i64 t.c,.slice (some ⟨q,0,none⟩) k k] BR.out ?_;intro w9 B9 g9))
    have e2:=ON.out.flat g9 (.inr (by simp [Value.ownBlock];omega)) (fun _ h=>h)
    rw [filling_all] at e2
    refine ret_cell_tmp rfl B9 rfl Tryz.underlying32 (by kernel_rfl) rfl ?_
    obtain ⟨A2,c2,hv,s⟩:=e2.sl (S':=bin w.heap.size _) (by decide) (fun b h1 h2=>⟨by omega,h2⟩) (fun b h=>h.elim)
    injection hv with hv1 hv2 hv3
    subst hv1 hv3
    exact ⟨_,_,_,rfl,s,(FR.out.away g9 (by omega)).out,own_un e2⟩
end Go.Proofs.YtlbkekabmpienaaGreat
