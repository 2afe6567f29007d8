/-
  Two tensors joined (layer 20): join.Of, the first tensor right.
-/
import Derived.Test.YtjkmjpjknmghlaaGreatJ35
import Derived.Test.YtjkmjpjknmghlaaGreatJ37
set_option linter.unusedVariables false
set_option linter.unusedSimpArgs false
namespace Go.Proofs.YtjkmjpjknmghlaaGreat
open Go.RowKit Go.ChangeShapes Go.WideShapes Fx
set_option maxRecDepth 100000
set_option maxHeartbeats 8000000
attribute [local go_sem] Oper.semAt_some
theorem noncells {t:Ty Int} {w:World} {S:Nat → Prop} {base n r:Nat} {E:TypeId} {v:Value} {l:List Int} {o:Obj} (h:Own t w S base E v n l) (hr:w.heap[r]?=some o) (ho:o.isCells=false):v.ownBlock ≠ some r:=by
 obtain ⟨vs,h1,-⟩:=h.out
 rcases h1.2 with ⟨e,-⟩|⟨g,cap,cur,e,-,hg,-⟩
 ·subst e;intro h;cases h
 ·subst e
  intro h
  injection h with h
  subst h
  rw [hg] at hr
  cases hr
  cases ho
theorem Blk.noncells {w:World} {g r:Nat} {e:TypeId} {cs:Array Value} {o:Obj} (h:Blk w g e cs) (hr:w.heap[r]?=some o) (ho:o.isCells=false):g ≠ r:=by
 intro e
 subst e
 rw [h.heap] at hr
 cases hr
 cases ho
theorem results_blk {P:Program} {fn:Func} {tm:Array Value} {w:World} {g:Nat} {e ty:TypeId} {cs:Array Value} {fs:Array Field} {p u:Tmp} (h:fn.results=#[.cell p ty,.tmp u]) (hb:Blk w g e cs) (hp:tm.getD p undef=.pointer (some ⟨g,0,none⟩)) (hu:P.underlying ty=some (.struct fs)) (hi:(P.info? ty).map (·.size)=some cs.size) :
  (results fn tm).run P w=.ok (.tuple #[.agg cs,tm.getD u undef]) w:=by
 rw [results_cell_tmp h,hp,run_asAddr_ptr,Result.andThen_ok,run_loadVar_row w g e ty cs (0,0) (.struct fs) hb.heap hu rfl hi,Result.andThen_ok]
theorem keeps_below {B:Nat} {w w':World} (hb:Below w.heap.size w w'):KeepsFrom B w w':=⟨hb.size,fun k o _ hk _=>by
 have:=(Array.getElem?_eq_some_iff.1 hk).1
 rw [hb.block k this];exact hk⟩
theorem keeps_row {B:Nat} {w w':World} {r:Option Nat} (hg:w.grownBy w' r) (h:∀ (k:Nat) (o:Obj),r=some k → w.heap[k]?=some o → o.isCells=false → False):KeepsFrom B w w':=⟨hg.size,fun k o _ hk ho=>by
 have:=(Array.getElem?_eq_some_iff.1 hk).1
 rw [hg.block k this (fun e=>h k o e.symm hk ho)];exact hk⟩
theorem joinOf_any (a b:Tensor) (A A':Option Addr) (n cap n' cap':Nat) (d:Node) (W:Option Addr) (nw cw:Nat) (B:Option Addr) (nb cb:Nat) (w:World) (ht:TensorIn a) (hu:TensorIn b) (hd:NodeIn d)
  (ha:Sl (tInt .i8) w (blo w.heap.size) A n cap a.data) (hbs:Sl (tInt .i8) w (blo w.heap.size) A' n' cap' b.data) (c1:a.ok=true) :
  Calls Tryz.prog 45 #[.agg (tN a.h a.v a.c A n cap),.agg (tN b.h b.v b.c A' n' cap'),.agg (nN d.kind d.a d.b d.k d.s d.p d.out d.za d.zb W nw cw B nb cb d.qm d.qs d.qz d.rm d.rs d.rz d.lo d.hi)] w (RetT .i8 (joinQ a b d).1 (joinQ a b d).2 w):=by
 have HA:=zH ha
 have HB:=zH hbs
 have HD:=zH hd
 obtain ⟨H,V,C,TK⟩:=tok_of c1
 have hn2:n≤1024:=by have:=TK.n_le;rw [ha.n_eq] at this;exact this
 have c1':decide (0 < elems a.h a.v a.c∧elems a.h a.v a.c=n)=true:=by rw [← HA.out.n_eq];simpa [Tensor.ok] using c1
 have RA:=zH (fun w=>tensorRight_any a.h a.v a.c A n cap w ht.h ht.v ht.c (Nat.le_trans ha.cap_le ha.max_le))
 rw [c1'] at RA
 have RB:=zH (fun w=>tensorRight_any b.h b.v b.c A' n' cap' w hu.h hu.v hu.c (Nat.le_trans hbs.cap_le hbs.max_le))
 have c2':decide (0 < elems b.h b.v b.c∧elems b.h b.v b.c=n')=b.ok:=by unfold Tensor.ok;rw [HB.out.n_eq]
 rw [c2'] at RB
 have mx:n≤9223372036854775807:=by omega
 have QE:=zH (fun w=>eq_shape w a.h a.v a.c b.h b.v b.c)
 have NN:=zH (show b.ok=true → ([a.h,a.v,a.c] == [b.h,b.v,b.c])=true → n'=n by
  intro h1 h2
  simp only [List.cons_beq_cons,Bool.and_eq_true,beq_iff_eq,List.beq_nil_eq,and_true] at h2
  have e1:a.h=b.h:=by simpa using h2.1
  have e2:a.v=b.v:=by simpa using h2.2.1
  have e3:a.c=b.c:=by simpa using h2.2.2.1
  rw [h1] at c2'
  simp only [decide_eq_true_eq] at c1' c2'
  rw [e1,e2,e3] at c1'
  omega)
 have HQ:=zH (show joinQ a b d=if b.ok=false then (noTensor,5) else if ([a.h,a.v,a.c] == [b.h,b.v,b.c])=false then (noTensor,5) else if quantOk d.qm d.qs=false then (noTensor,7) else if quantOk d.rm d.rs=false then (noTensor,7) else (⟨a.h,a.v,a.c,(List.range n).map fun i=>joinV d (a.data.getD i 0) (b.data.getD i 0)⟩,0) by unfold joinQ;rw [ha.n_eq])
 have MY:=zH (show mayV d=(quantOk d.qm d.qs && quantOk d.rm d.rs) from rfl)
 obtain ⟨x,hx⟩:∃ x,joinQ a b d=x:=⟨_,rfl⟩
 rw [hx] at HQ ⊢
 have FR:=zH (Far.refl w)
 obtain ⟨w1,hw_w1,BA,k_w1⟩:=nB w (tN a.h a.v a.c A n cap) 27
 replace FR:=zH (FR.out.fut k_w1)
 clear k_w1
 obtain ⟨w2,hw_w2,BB,k_w2⟩:=nB w1 (tN b.h b.v b.c A' n' cap') 27
 replace FR:=zH (FR.out.fut k_w2)
 replace BA:=zH (BA.out.fut k_w2)
 clear k_w2
 obtain ⟨w3,hw_w3,BN,k_w3⟩:=nB w2 (nN d.kind d.a d.b d.k d.s d.p d.out d.za d.zb W nw cw B nb cb d.qm d.qs d.qz d.rm d.rs d.rz d.lo d.hi) 44
 replace FR:=zH (FR.out.fut k_w3)
 replace BA:=zH (BA.out.fut k_w3)
 replace BB:=zH (BB.out.fut k_w3)
 clear k_w3
 obtain ⟨w4,hw_w4,BR,k_w4⟩:=nB w3 (tN 0 0 0 none 0 0) 27
 replace FR:=zH (FR.out.fut k_w4)
 replace BA:=zH (BA.out.fut k_w4)
 replace BB:=zH (BB.out.fut k_w4)
 replace BN:=zH (BN.out.fut k_w4)
 clear k_w4
 have l1:w.heap.size < w1.heap.size:=by rw [← hw_w1];simp
 have l2:w1.heap.size < w2.heap.size:=by rw [← hw_w2];simp
 have l3:w2.heap.size < w3.heap.size:=by rw [← hw_w3];simp
 have l4:w3.heap.size < w4.heap.size:=by rw [← hw_w4];simp
 obtain ⟨ok,hok⟩:∃ q,b.ok=q:=⟨_,rfl⟩
 obtain ⟨sm,hsm⟩:∃ q,([a.h,a.v,a.c] == [b.h,b.v,b.c])=q:=⟨_,rfl⟩
 obtain ⟨k1,hk1⟩:∃ q,quantOk d.qm d.qs=q:=⟨_,rfl⟩
 obtain ⟨k2,hk2⟩:∃ q,quantOk d.rm d.rs=q:=⟨_,rfl⟩
 rw [hok] at RB HQ NN
 rw [hsm] at QE HQ NN
 rw [hk1] at HQ MY
 rw [hk2] at HQ MY
 have MM:=zH (fun w=>joinMay_any d W nw cw B nb cb w)
 obtain ⟨mv,hmv⟩:∃ q,mayV d=q:=⟨_,rfl⟩
 have MV2:=zH hmv
 rw [hmv] at MM MY
 clear hmv ht hu hd ha hbs c1 c1' c2' TK hx hok hsm hk1 hk2
 by_cases q1:ok=false
 ·subst q1
  rw [if_pos rfl] at HQ
  rw [HQ.out]
  go_enter Tryz.func45,Tryz.ntmps45
  go_wp2_with (first|(refine lB 27 (.tmp 3) w.heap.size BA.out Tryz.underlying27 ?_)|(go_at_call 13;with_reducible refine (RA.out _).mono ?_;rintro e w5 ⟨rfl,hb⟩;have l5:=hb.size;replace FR:=zH (FR.out.fut hb);replace BA:=zH (BA.out.fut hb);replace BB:=zH (BB.out.fut hb);replace BN:=zH (BN.out.fut hb);replace BR:=zH (BR.out.fut hb);clear hb hw_w1 hw_w2 hw_w3 hw_w4;have b0:=BB.out.cell 0;have b1:=BB.out.cell 1;have b2:=BB.out.cell 2;have b3:=BB.out.cell 3)|(go_at_call 13;with_reducible refine (RB.out _).mono ?_;rintro e w6 ⟨rfl,hb⟩;have l6:=hb.size;replace FR:=zH (FR.out.fut hb);replace BA:=zH (BA.out.fut hb);replace BB:=zH (BB.out.fut hb);replace BN:=zH (BN.out.fut hb);replace BR:=zH (BR.out.fut hb);clear hb b0 b1 b2 b3;have a0:=BA.out.cell 0;have a1:=BA.out.cell 1;have a2:=BA.out.cell 2;have b0:=BB.out.cell 0;have b1:=BB.out.cell 1;have b2:=BB.out.cell 2)|(refine sB 27 (.tmp 6) (.tmp 27) w3.heap.size (tN 0 0 0 none 0 0) BR.out ?_;intro wy By gy))
  refine rC By Tryz.underlying27 ?_
  exact RetT.none (FR.out.away gy (by omega)).out
 rw [Bool.not_eq_false] at q1
 subst q1
 rw [if_neg (by decide)] at HQ
 by_cases q2:sm=false
 ·subst q2
  rw [if_pos rfl] at HQ
  rw [HQ.out]
  go_enter Tryz.func45,Tryz.ntmps45
  go_wp2_with (first|(refine lB 27 (.tmp 3) w.heap.size BA.out Tryz.underlying27 ?_)|(go_at_call 13;with_reducible refine (RA.out _).mono ?_;rintro e w5 ⟨rfl,hb⟩;have l5:=hb.size;replace FR:=zH (FR.out.fut hb);replace BA:=zH (BA.out.fut hb);replace BB:=zH (BB.out.fut hb);replace BN:=zH (BN.out.fut hb);replace BR:=zH (BR.out.fut hb);clear hb hw_w1 hw_w2 hw_w3 hw_w4;have b0:=BB.out.cell 0;have b1:=BB.out.cell 1;have b2:=BB.out.cell 2;have b3:=BB.out.cell 3)|(go_at_call 13;with_reducible refine (RB.out _).mono ?_;rintro e w6 ⟨rfl,hb⟩;have l6:=hb.size;replace FR:=zH (FR.out.fut hb);replace BA:=zH (BA.out.fut hb);replace BB:=zH (BB.out.fut hb);replace BN:=zH (BN.out.fut hb);replace BR:=zH (BR.out.fut hb);clear hb b0 b1 b2 b3;have a0:=BA.out.cell 0;have a1:=BA.out.cell 1;have a2:=BA.out.cell 2;have b0:=BB.out.cell 0;have b1:=BB.out.cell 1;have b2:=BB.out.cell 2)|(refine wpList_neq_agg 24 _ (.tmp 22) (.tmp 24) rfl _ _ rfl rfl (by rfl) (by kernel_rfl) _ (QE.out _) ?_;try simp only [Bool.not_true,Bool.not_false])|(refine sB 27 (.tmp 6) (.tmp 27) w3.heap.size (tN 0 0 0 none 0 0) BR.out ?_;intro wy By gy))
  refine rC By Tryz.underlying27 ?_
  exact RetT.none (FR.out.away gy (by omega)).out
 rw [Bool.not_eq_false] at q2
 subst q2
 rw [if_neg (by decide)] at HQ
 by_cases q3:mv=false
 ·subst q3
  have hq:x=(noTensor,7):=by
   rw [HQ.out]
   have:=MY.out
   cases k1 <;> cases k2 <;> first|rfl|(simp at this)
  rw [hq]
  go_enter Tryz.func45,Tryz.ntmps45
  go_wp2_with (first|(refine lB 27 (.tmp 3) w.heap.size BA.out Tryz.underlying27 ?_)|(go_at_call 13;with_reducible refine (RA.out _).mono ?_;rintro e w5 ⟨rfl,hb⟩;have l5:=hb.size;replace FR:=zH (FR.out.fut hb);replace BA:=zH (BA.out.fut hb);replace BB:=zH (BB.out.fut hb);replace BN:=zH (BN.out.fut hb);replace BR:=zH (BR.out.fut hb);clear hb hw_w1 hw_w2 hw_w3 hw_w4;have b0:=BB.out.cell 0;have b1:=BB.out.cell 1;have b2:=BB.out.cell 2;have b3:=BB.out.cell 3)|(go_at_call 13;with_reducible refine (RB.out _).mono ?_;rintro e w6 ⟨rfl,hb⟩;have l6:=hb.size;replace FR:=zH (FR.out.fut hb);replace BA:=zH (BA.out.fut hb);replace BB:=zH (BB.out.fut hb);replace BN:=zH (BN.out.fut hb);replace BR:=zH (BR.out.fut hb);clear hb b0 b1 b2 b3;have a0:=BA.out.cell 0;have a1:=BA.out.cell 1;have a2:=BA.out.cell 2;have b0:=BB.out.cell 0;have b1:=BB.out.cell 1;have b2:=BB.out.cell 2)|(refine wpList_neq_agg 24 _ (.tmp 22) (.tmp 24) rfl _ _ rfl rfl (by rfl) (by kernel_rfl) _ (QE.out _) ?_;try simp only [Bool.not_true,Bool.not_false])|(refine lB 44 (.tmp 5) w2.heap.size BN.out Tryz.underlying44 ?_)|(go_at_call 82;with_reducible refine (MM.out _).mono ?_;rintro e w7 ⟨rfl,hb⟩;have l7:=hb.size;replace FR:=zH (FR.out.fut hb);replace BA:=zH (BA.out.fut hb);replace BB:=zH (BB.out.fut hb);replace BN:=zH (BN.out.fut hb);replace BR:=zH (BR.out.fut hb);clear hb a0 a1 a2 b0 b1 b2)|(refine sB 27 (.tmp 6) (.tmp 32) w3.heap.size (tN 0 0 0 none 0 0) BR.out ?_;intro wy By gy))
  refine rC By Tryz.underlying27 ?_
  exact RetT.none (FR.out.away gy (by omega)).out
 rw [Bool.not_eq_false] at q3
 subst q3
 have hq:x=(⟨a.h,a.v,a.c,(List.range n).map (fun i=>joinV d (a.data.getD i 0) (b.data.getD i 0))⟩,0):=by
  rw [HQ.out]
  have:=MY.out
  cases k1 <;> cases k2 <;> first|rfl|(simp at this)
 rw [hq]
 obtain rfl:n=n':=(NN.out rfl rfl).symm
 have OV:=zH (fun x y (h:InK .i8 x) (h':InK .i8 y) w=>joinOne_any x y d W nw cw B nb cb w h h' HD.out MV2.out)
 clear hq HQ MY NN
 refine (callsIn_wide (n:=6)).1 ?_
 refine callsIn_of_wp_marks Tryz.func45 rfl trivial ?_ rfl
 simp only [Tryz.ntmps45,List.size_toArray,List.length_cons,List.length_nil,Nat.reduceAdd,Nat.reduceSub,Array.replicate_succ,Array.replicate_zero,List.push_toArray,List.append_toArray,List.nil_append,List.cons_append]
 rw [wpIn_wide]
 go_wp2_with (first|(refine lB 27 (.tmp 3) w.heap.size BA.out Tryz.underlying27 ?_)|(go_at_call 13;with_reducible refine (RA.out _).mono ?_;rintro e w5 ⟨rfl,hb⟩;have l5:=hb.size;replace FR:=zH (FR.out.fut hb);replace BA:=zH (BA.out.fut hb);replace BB:=zH (BB.out.fut hb);replace BN:=zH (BN.out.fut hb);replace BR:=zH (BR.out.fut hb);clear hb hw_w1 hw_w2 hw_w3 hw_w4;have b0:=BB.out.cell 0;have b1:=BB.out.cell 1;have b2:=BB.out.cell 2;have b3:=BB.out.cell 3)|(go_at_call 13;with_reducible refine (RB.out _).mono ?_;rintro e w6 ⟨rfl,hb⟩;have l6:=hb.size;replace FR:=zH (FR.out.fut hb);replace BA:=zH (BA.out.fut hb);replace BB:=zH (BB.out.fut hb);replace BN:=zH (BN.out.fut hb);replace BR:=zH (BR.out.fut hb);clear hb b0 b1 b2 b3;have a0:=BA.out.cell 0;have a1:=BA.out.cell 1;have a2:=BA.out.cell 2;have b0:=BB.out.cell 0;have b1:=BB.out.cell 1;have b2:=BB.out.cell 2)|(refine wpList_neq_agg 24 _ (.tmp 22) (.tmp 24) rfl _ _ rfl rfl (by rfl) (by kernel_rfl) _ (QE.out _) ?_;try simp only [Bool.not_true,Bool.not_false])|(refine lB 44 (.tmp 5) w2.heap.size BN.out Tryz.underlying44 ?_)|(go_at_call 82;with_reducible refine (MM.out _).mono ?_;rintro e w7 ⟨rfl,hb⟩;have l7:=hb.size;replace FR:=zH (FR.out.fut hb);replace BA:=zH (BA.out.fut hb);replace BB:=zH (BB.out.fut hb);replace BN:=zH (BN.out.fut hb);replace BR:=zH (BR.out.fut hb);clear hb a0 a1 a2 b0 b1 b2;obtain ⟨w8,hw_w8⟩:∃ x,w7.alloc (.cells (tN 0 0 0 none 0 0) 27)=x:=⟨_,rfl⟩;have hb:Below w7.heap.size w7 w8:=(by rw [← hw_w8];exact (Below.refl _ _).alloc (Nat.le_refl _) _);have BG:=zH (show Blk w8 w7.heap.size 27 (tN 0 0 0 none 0 0) by rw [← hw_w8];exact Blk.now _ _ _ _ rfl);have BA5:=zH BA.out;replace FR:=zH (FR.out.fut hb);replace BA:=zH (BA.out.fut hb);replace BB:=zH (BB.out.fut hb);replace BN:=zH (BN.out.fut hb);replace BR:=zH (BR.out.fut hb);clear hb)|(refine wpList_load_blk rfl 24 (.tmp 33) rfl w.heap.size 0 rfl _ (tN a.h a.v a.c A n cap) (sN a.h a.v a.c) _ BA5.out Tryz.underlying24 rfl (by kernel_rfl) rfl ?_)|(refine sB 27 (.tmp 8) (.tmp 35) w7.heap.size (tN a.h a.v a.c none 0 0) BG.out ?_;intro wy By gy;have ca:=(BA.out.away gy (.inl (by omega))).cell 3;have cb':=(BB.out.away gy (.inl (by omega))).cell 3;simp only [gX] at ca cb')|(go_at_call 83;refine (pairs_any A A' n cap n cap' _).mono ?_;rintro e wp ⟨rfl,hwp⟩;have HWP:=zH hwp;clear hwp))
 have l9:w8.heap.size=w7.heap.size+1:=by rw [← hw_w8];simp
 clear hw_w8 BA5 BG
 replace FR:=zH (FR.out.away gy (by omega))
 replace BA:=zH (BA.out.away gy (.inl (by omega)))
 replace BB:=zH (BB.out.away gy (.inl (by omega)))
 replace BN:=zH (BN.out.away gy (.inl (by omega)))
 replace BR:=zH (BR.out.away gy (.inl (by omega)))
 have BG:=zH By
 have lgy:=By.lt
 clear By gy
 have hwp:=HWP.out
 have hb:Below wy.heap.size wy wp:=by rw [hwp];exact ((Below.refl _ _).alloc (Nat.le_refl _) _).alloc (by simp) _
 have P1:Blk wp wy.heap.size 25 #[.slice A n cap]:=by rw [hwp];exact (Blk.now _ _ _ _ rfl).past _
 have P2:Blk wp (wy.heap.size+1) 25 #[.slice A' n cap']:=by rw [hwp];exact Blk.now _ _ _ _ (by simp)
 have lp:wp.heap.size=wy.heap.size+2:=by rw [hwp];simp
 clear HWP hwp ca cb'
 replace FR:=zH (FR.out.fut hb);replace BA:=zH (BA.out.fut hb);replace BB:=zH (BB.out.fut hb);replace BN:=zH (BN.out.fut hb);replace BR:=zH (BR.out.fut hb);replace BG:=zH (BG.out.fut hb)
 clear hb
 have lw:w.heap.size≤wp.heap.size:=FR.out.size
 have hS:∀ k,(k < w.heap.size ∨ k=wy.heap.size ∨ k=wy.heap.size+1) → k < wp.heap.size:=fun k h=>by omega
 have sA:=((Old.now HA.out).fut FR.out.out).out.more (S':=fun k=>k < w.heap.size ∨ k=wy.heap.size ∨ k=wy.heap.size+1) (fun b h=>Or.inl h)
 have sB:=((Old.now HB.out).fut FR.out.out).out.more (S':=fun k=>k < w.heap.size ∨ k=wy.heap.size ∨ k=wy.heap.size+1) (fun b h=>Or.inl h)
 have hS0:=zH hS
 have PS:=pairs1_stops (fun k=>k < w.heap.size ∨ k=wy.heap.size ∨ k=wy.heap.size+1) A A' n cap cap' a.data b.data wy.heap.size (wy.heap.size+1) 5 wp sA sB hn2 P1 P2 ⟨.inr (.inl rfl),.inr (.inr rfl)⟩ hS (by decide)
 have XE:=zH (show ((List.range n).map (pairX a.data b.data sA.allK sB.allK)).map (fun p=>joinV d p.1.1 p.2.1)=(List.range n).map (fun i=>joinV d (a.data.getD i 0) (b.data.getD i 0)) by rw [List.map_map];rfl)
 rw [← wpIn_wide (n:=6)]
 refine wpIn_rangeFunc_ownG rfl (by decide) (gf:=113) (lb:=#[.pointer (some ⟨wy.heap.size,0,none⟩),.pointer (some ⟨wy.heap.size+1,0,none⟩)]) rfl trivial (enters_of Tryz.func113 (by kernel_rfl) rfl)
  PS (fun h k=>h.trans k) (fun X l o o' h1 h2 h3 h4=>KeepS.put hS X l o o' h1 h2 h3 h4) (Below.refl _ _) (fun _=>rfl)
  (fun pre X=>(Blk X w2.heap.size 44 (nN d.kind d.a d.b d.k d.s d.p d.out d.za d.zb W nw cw B nb cb d.qm d.qs d.qz d.rm d.rs d.rz d.lo d.hi)∧Blk X w3.heap.size 27 (tN 0 0 0 none 0 0)∧∃ u,Blk X w7.heap.size 27 #[.int .i64 a.h,.int .i64 a.v,.int .i64 a.c,u]∧Own (tInt .i8) X (fun _=>False) wp.heap.size 39 u pre.length (pre.map fun p=>joinV d p.1.1 p.2.1))∧Below w.heap.size w X∧wp.heap.size≤X.heap.size) (fun _ _ _=>False) ?hI (fun _ _ _ _ _ hs _ _=>hs) ⟨⟨BN.out,BR.out,_,BG.out,Own.nil _ _ _ _ _⟩,FR.out.out,Nat.le_refl _⟩ (fun x=>{ tmps:=#[.agg (tN a.h a.v a.c A n cap),.agg (tN b.h b.v b.c A' n cap'),.agg (nN d.kind d.a d.b d.k d.s d.p d.out d.za d.zb W nw cw B nb cb d.qm d.qs d.qz d.rm d.rs d.rz d.lo d.hi),.pointer (some ⟨w.heap.size,0,none⟩),.pointer (some ⟨w1.heap.size,0,none⟩),.pointer (some ⟨w2.heap.size,0,none⟩),.pointer (some ⟨w3.heap.size,0,none⟩),.int .i64 0,.pointer (some ⟨w7.heap.size,0,none⟩),.int .i8 x.1.1,.int .i8 x.2.1,.bool false,.agg (tN a.h a.v a.c A n cap),.bool true,.bool false,.bool false,.agg (tN b.h b.v b.c A' n cap'),.bool true,.bool false,.bool false,.bool false,.pointer (some ⟨w.heap.size,0,none⟩),.agg (sN a.h a.v a.c),.pointer (some ⟨w1.heap.size,0,none⟩),.agg (sN b.h b.v b.c),.bool false,.bool false,undef,.bool false,.agg (nN d.kind d.a d.b d.k d.s d.p d.out d.za d.zb W nw cw B nb cb d.qm d.qs d.qz d.rm d.rs d.rz d.lo d.hi),.bool true,.bool false,undef,.pointer (some ⟨w.heap.size,0,none⟩),.agg (sN a.h a.v a.c),.agg (tN a.h a.v a.c none 0 0),.pointer (some ⟨w.heap.size,3,none⟩),.slice A n cap,.pointer (some ⟨w1.heap.size,3,none⟩),.slice A' n cap',.func (.func 113) #[] #[.pointer (some ⟨wy.heap.size,0,none⟩),.pointer (some ⟨wy.heap.size+1,0,none⟩)],.int .i8 x.1.1,.int .i8 x.2.1,undef,undef,undef,undef,undef,undef,undef,undef,undef,undef],defers:=[] }) ?assign ?body ?done ?stop
 case hI =>
  rintro pre X X' row ⟨⟨i1,i2,u,i3,i4⟩,i5,i6⟩ hg hr
  have nb:∀ g (e:TypeId) (cs:Array Value),Blk X g e cs → some g ≠ row:=fun g e cs h eq=>by
   obtain ⟨-,o,ho,hc⟩:=hr g eq.symm
   exact h.noncells ho hc rfl
  refine ⟨⟨i1.rowR hg (nb _ _ _ i1),i2.rowR hg (nb _ _ _ i2),u,i3.rowR hg (nb _ _ _ i3),i4.flat hg ?_ (fun _ h=>h)⟩,i5.grown hg i5.size (fun k e=>Nat.le_trans lw (hr k e).1),Nat.le_trans i6 hg.size⟩
  by_cases h:u.ownBlock=row
  ·cases row with
   | none=>exact .inl h
   | some r =>
    obtain ⟨-,o,ho,hc⟩:=hr r rfl
    exact absurd h (noncells i4 ho hc)
  ·exact .inr h
 case assign =>
  intro l x X K hK
  simp only [e88]
  gi_wp2
  exact hK
 case body =>
  rintro l pre x Wr ⟨⟨i1,i2,u,i3,i4⟩,i5,i6⟩ hlt
  obtain ⟨k,hk⟩:∃ k,pre.length=k:=⟨_,rfl⟩
  obtain ⟨PL,hPL⟩:∃ q,(pre.map fun p=>joinV d p.1.1 p.2.1)=q:=⟨_,rfl⟩
  rw [hk,hPL] at i4
  rw [hk] at hlt
  have BN:=zH i1
  have BR:=zH i2
  have BG:=zH i3
  have ON:=zH i4
  have FR:=zH (show Far w Wr from ⟨i5⟩)
  have HKP:=zH (And.intro hk hPL)
  have CX:=zH (OV.out x.1.1 x.2.1 x.1.2 x.2.2)
  obtain ⟨v,hv⟩:∃ v,joinV d x.1.1 x.2.1=v:=⟨_,rfl⟩
  have RE:=zH (show InK .i8 v by rw [← hv];exact joinV_in d _ _)
  rw [hv] at CX
  have HV:=zH hv
  have lgr:=i3.lt
  clear i1 i2 i3 i4 i5 hk hPL hv
  refine wpIn_block ?_
  have OD:=zH (ON.out.heap (w':=Wr.drew) rfl)
  have fd:Below w.heap.size w Wr.drew:=FR.out.out.drew
  have nu:=zH (show ∀ b,b < wp.heap.size → some b ≠ u.ownBlock from fun b hb e=>absurd (ON.out.lt b e.symm).1 (by omega))
  have lpr:=zH (show wp.heap.size≤Wr.heap.size from i6)
  refine wpIn_round_T (fun w'=>w'.cell? ⟨w7.heap.size,3,none⟩=some u∧Blk w' w2.heap.size 44 (nN d.kind d.a d.b d.k d.s d.p d.out d.za d.zb W nw cw B nb cb d.qm d.qs d.qz d.rm d.rs d.rz d.lo d.hi)∧Below w.heap.size w w') 8 (by kernel_rfl) (by kernel_rfl) (by rintro ⟨_,_,h⟩;exact h) ?_ (fun hS=>?_)
  ·exact ⟨BG.out.drew.cell 3,BN.out.drew,fd⟩
  refine kT 0 rfl hS ?_
  try simp only [pX]
  refine kT 1 rfl hS ?_
  try simp only [pX]
  refine kT 2 rfl hS ?_
  try simp only [pX]
  refine kT 3 rfl hS ?_
  try simp only [pX]
  refine tkT 4 rfl (yieldsIf_load_blk (by rfl) 44 (.tmp 5) rfl w2.heap.size 0 rfl _ _ (nN d.kind d.a d.b d.k d.s d.p d.out d.za d.zb W nw cw B nb cb d.qm d.qs d.qz d.rm d.rs d.rz d.lo d.hi) _ (fun w hs=>hs.2.1) Tryz.underlying44 rfl (by kernel_rfl) rfl) hS ?_
  try simp only [pX]
  refine wpAnyT_one (i:=5) (by kernel_rfl) rfl rfl (fun K hK=>?_)
  go_simp
  refine (CX.out _).mono ?_;rintro e wa ⟨rfl,hb⟩;have KW:=zH (below_call (show Below Wr.heap.size Wr Wr.drew from (Below.refl _ _).drew) hb (Nat.le_refl _));have OA:=zH (OD.out.below hb (Nat.le_refl _) (fun _ h=>h.elim));have za:wp.heap.size≤wa.heap.size:=Nat.le_trans lpr.out hb.size;have XX:=zH (And.intro (BN.out.drew.later hb) (And.intro (BR.out.drew.later hb) (BG.out.drew.later hb)));have FA:=zH (below_call fd hb fd.size)
  refine hK.out _ _ ?_ (fun hS=>?_)
  ·exact ⟨(by first|exact cell_later hb hS.1|exact Blk.later hS.1 hb),(by first|exact cell_later hb hS.2.1|exact Blk.later hS.2.1 hb),(by first|exact below_later hb hS.2.2|exact grown_below hS.2.2 hb)⟩
  clear hK K
  try simp only [pX]
  refine wpAnyT_one (i:=6) (by kernel_rfl) rfl rfl (fun K hK=>?_)
  go_simp
  have hb:Below wa.heap.size wa (wa.alloc (.cells #[.int .i8 v] 39)):=(Below.refl _ _).alloc (Nat.le_refl _) _
  refine hK.out _ _ ?_ (fun hS=>?_)
  ·exact ⟨(by first|exact cell_later hb hS.1|exact Blk.later hS.1 hb),(by first|exact cell_later hb hS.2.1|exact Blk.later hS.2.1 hb),(by first|exact below_later hb hS.2.2|exact grown_below hS.2.2 hb)⟩
  clear hK K
  try simp only [pX]
  refine wpAnyT_one (i:=7) (by kernel_rfl) rfl rfl (fun K hK=>?_)
  (rw [if_pos (by rfl)];refine oper_push (W:=wa) (cs:=#[.int .i8 v]) (E:=39) (t:=tInt .i8) (.tmp 44) (.tmp 49) rfl ei_b8 rfl OA.out 1 rfl v ⟨rfl,RE.out⟩ (by unfold maxLen;omega) (by omega) za (fun _ h=>h.elim) ?_;intro u' wb own7 g7 at7;have B7:=zH (XX.out.2.2.rowR g7 (nu.out _ (by omega)));refine hK.out _ _ ⟨B7.out.cell 3,XX.out.1.rowR g7 (nu.out _ (by omega)),FA.out.grown g7 FA.out.size (fun j hj=>Nat.le_trans (by omega) (OA.out.lt j hj).1)⟩ (fun hS=>?_))
  clear hK K
  try simp only [pX]
  refine wpAnyT_tail _ _ rfl rfl (by kernel_rfl) ?_
  have FZ:=hS.2.2
  have XN:=zH hS.2.1
  have XR:=zH (XX.out.2.1.rowR g7 (nu.out _ (by omega)))
  have NU:=zH (show u'.ownBlock=none ∨ u'.ownBlock ≠ some w7.heap.size by
   cases hu:u'.ownBlock with
   | none=>exact .inl rfl
   | some m=>right;intro e;have:=(own7.lt m hu).1;have:=Option.some.inj e;omega)
  obtain ⟨A7,c7,rfl,-⟩:=own7.sl (S':=fun _=>True) (by decide) (fun _ _ _=>trivial) (fun _ _=>trivial)
  have K7:KeepsFrom wp.heap.size Wr wb:=(keeps_below KW.out).trans (keeps_row g7 (fun k o e hk ho=>noncells OA.out hk ho e))
  have S7:KeepS (fun k=>k < w.heap.size ∨ k=wy.heap.size ∨ k=wy.heap.size+1) Wr wb:=⟨Nat.le_trans KW.out.size g7.size,fun k hk=>by
   have h1:=hS0.out k hk
   have h2:=KW.out.size
   have h3:=lpr.out
   rw [g7.block k (by omega) (nu.out k (by omega)),KW.out.block k (by omega)]⟩
  clear hS hb at7
  go_wp2_with (refine wpList_store_one rfl 25 (.tmp 51) (.tmp 50) rfl w7.heap.size 3 (.slice A7 (k+1) c7) rfl rfl rfl rfl _ #[.int .i64 a.h,.int .i64 a.v,.int .i64 a.c,u] (tN a.h a.v a.c A7 (k+1) c7) B7.out (by simp) (by kernel_rfl) rfl ?_;intro w8' B8 g8)
  have O8:=own7.flat g8 (by rcases NU.out with e|e;exact .inl e;exact .inr e) (fun _ h=>h)
  have F8:=(show Far w wb from ⟨FZ⟩).away g8 (by omega)
  have K8:=K7.trans (keeps_row (B:=wp.heap.size) g8 (fun k o e hk ho=>by injection e with e;subst e;exact B7.out.noncells hk ho rfl))
  have S8:KeepS (fun k=>k < w.heap.size ∨ k=wy.heap.size ∨ k=wy.heap.size+1) Wr w8':=S7.trans ⟨g8.size,fun k hk=>by
   have h1:=hS0.out k hk
   have h2:=B7.out.lt
   have h4:=S7.size
   have h3:=lpr.out
   exact g8.block k (by omega) (fun e=>by injection e with e;omega)⟩
  refine ⟨K8,S8,⟨XN.out.away g8 (.inl (by omega)),XR.out.away g8 (.inl (by omega)),_,B8,?_⟩,F8.out,by have:=S8.size;have:=lpr.out;omega⟩
  rw [List.length_append,List.map_append,HKP.out.1,HKP.out.2]
  show Own _ _ _ _ _ _ _ (PL ++ [joinV d x.1.1 x.2.1])
  rw [HV.out]
  exact O8
 case done =>
  rintro D ys X hD rfl ⟨⟨i1,i2,u,i3,i4⟩,i5,i6⟩ hK
  have e1:((List.range n).map (pairX a.data b.data sA.allK sB.allK)).length=n:=by simp
  rw [e1,XE.out] at i4
  obtain ⟨FL,hFL⟩:∃ q,(List.range n).map (fun i=>joinV d (a.data.getD i 0) (b.data.getD i 0))=q:=⟨_,rfl⟩
  rw [hFL] at i4
  have HFL:=zH hFL
  have BR:=zH i2
  have BG:=zH i3
  have ON:=zH i4
  have FR:=zH (show Far w X from ⟨i5⟩)
  have DK:=zH (And.intro hK hD)
  obtain ⟨A9,c9,rfl,-⟩:=ON.out.sl (S':=fun _=>True) (by decide) (fun _ _ _=>trivial) (fun _ _=>trivial)
  clear i1 i2 i3 i4 i5 hK hD e1 PS XE sA sB hFL P1 P2
  go_step
  go_wp2_with (first|(refine lB 27 (.tmp 8) w7.heap.size BG.out Tryz.underlying27 ?_)|(refine sB 27 (.tmp 6) (.tmp 52) w3.heap.size (tN a.h a.v a.c A9 n c9) BR.out ?_;intro w9 B9 g9))
  have hK9:w9.heap[D]?=some (.deferred (some [])):=by rw [g9.block D (Array.getElem?_eq_some_iff.1 DK.out.1).1 (fun e=>by have:=DK.out.2;injection e with e;omega)];exact DK.out.1
  refine ⟨by simp,.inl ⟨_,_,rfl,run_takeDeferred hK9,?_⟩⟩
  have hDw:=DK.out.2
  have gp:=grownBy_putObj' w9 D (.deferred none)
  have e2:=(ON.out.flat g9 (by
   cases hu:(Value.slice A9 n c9).ownBlock with
   | none=>exact .inl rfl
   | some m=>right;intro e;have:=(ON.out.lt m hu).1;have:=Option.some.inj e;omega) (fun _ h=>h))
  have e3:=e2.flat gp (.inr (noncells e2 hK9 rfl)) (fun _ h=>h)
  have B3:=B9.rowR gp (fun e=>by injection e with e;omega)
  have F9:=FR.out.away g9 (by omega)
  have F3:=F9.out.grown gp F9.size (fun k e=>by injection e with e;omega)
  obtain ⟨A2,c2,hv,s⟩:=e3.sl (S':=bin w.heap.size _) (by decide) (fun b h1 h2=>⟨by omega,h2⟩) (fun b h=>h.elim)
  injection hv with hv1 hv2 hv3
  subst hv1 hv3
  refine ⟨_,results_blk rfl B3 rfl Tryz.underlying27 (by kernel_rfl),_,_,_,rfl,?_,F3⟩
  rw [HFL.out]
  exact s
 case stop =>
  rintro D c pre W _ _ h _
  exact h.elim
end Go.Proofs.YtjkmjpjknmghlaaGreat
