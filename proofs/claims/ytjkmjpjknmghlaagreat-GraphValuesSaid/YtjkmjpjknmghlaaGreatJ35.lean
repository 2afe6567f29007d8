/-
  Two tensors joined (layer 20): the document's Of, the first tensor right.
-/
import Derived.Test.YtjkmjpjknmghlaaGreatJ34
set_option linter.unusedVariables false
set_option linter.unusedSimpArgs false
namespace Go.Proofs.YtjkmjpjknmghlaaGreat
open Go.RowKit Go.ChangeShapes Go.WideShapes Fx
set_option maxRecDepth 100000
set_option maxHeartbeats 8000000
def joinQ (a b:Tensor) (d:Node):Tensor × Int:=if b.ok=false then (noTensor,5) else if ([a.h,a.v,a.c] == [b.h,b.v,b.c])=false then (noTensor,5) else if quantOk d.qm d.qs=false then (noTensor,7) else if quantOk d.rm d.rs=false then (noTensor,7)
 else (⟨a.h,a.v,a.c,(List.range a.data.length).map fun i=>joinV d (a.data.getD i 0) (b.data.getD i 0)⟩,0)
theorem rjoinOf_any (a b:Tensor) (A A':Option Addr) (n cap n' cap':Nat) (d:Node) (W:Option Addr) (nw cw:Nat) (B:Option Addr) (nb cb:Nat) (w:World) (ht:TensorIn a) (hu:TensorIn b) (hd:NodeIn d)
  (ha:Sl (tInt .i8) w (blo w.heap.size) A n cap a.data) (hbs:Sl (tInt .i8) w (blo w.heap.size) A' n' cap' b.data) (c1:a.ok=true) :
  Calls Tryz.prog 34 #[.agg (tN a.h a.v a.c A n cap),.agg (tN b.h b.v b.c A' n' cap'),.agg (nN d.kind d.a d.b d.k d.s d.p d.out d.za d.zb W nw cw B nb cb d.qm d.qs d.qz d.rm d.rs d.rz d.lo d.hi)] w (RetT .i8 (joinQ a b d).1 (joinQ a b d).2 w):=by
 have HA:=zH ha
 have HB:=zH hbs
 have HD:=zH hd
 obtain ⟨H,V,C,TK⟩:=tok_of c1
 have hn2:n≤1024:=by have:=TK.n_le;rw [ha.n_eq] at this;exact this
 have c1':decide (0 < elems a.h a.v a.c∧elems a.h a.v a.c=n)=true:=by rw [← HA.out.n_eq];simpa [Tensor.ok] using c1
 have RA:=zH (fun w=>rtensorRight_any a.h a.v a.c A n cap w ht.h ht.v ht.c (Nat.le_trans ha.cap_le ha.max_le))
 rw [c1'] at RA
 have RB:=zH (fun w=>rtensorRight_any b.h b.v b.c A' n' cap' w hu.h hu.v hu.c (Nat.le_trans hbs.cap_le hbs.max_le))
 have c2':decide (0 < elems b.h b.v b.c∧elems b.h b.v b.c=n')=b.ok:=by unfold Tensor.ok;rw [HB.out.n_eq]
 rw [c2'] at RB
 have mx:n≤9223372036854775807:=by omega
 have Q1:=zH (fun w=>rfixRight_any d.qm d.qs d.qz w)
 have Q2:=zH (fun w=>rfixRight_any d.rm d.rs d.rz w)
 have QE:=zH (fun w=>eq_shape w a.h a.v a.c b.h b.v b.c)
 have NN:=zH (show b.ok=true → ([a.h,a.v,a.c] == [b.h,b.v,b.c])=true → n'=n by
  intro h1 h2
  simp only [List.cons_beq_cons,Bool.and_eq_true,beq_iff_eq,List.beq_nil_eq,and_true] at h2
  have e1:a.h=b.h:=by simpa using h2.1
  have e2:a.v=b.v:=by simpa using h2.2.1
  have e3:a.c=b.c:=by simpa using h2.2.2.1
  rw [h1] at c2'
  simp only [decide_eq_true_eq] at c1' c2'
  rw [e1,e2,e3] at c1'
  omega)
 have HQ:=zH (show joinQ a b d=if b.ok=false then (noTensor,5) else if ([a.h,a.v,a.c] == [b.h,b.v,b.c])=false then (noTensor,5) else if quantOk d.qm d.qs=false then (noTensor,7) else if quantOk d.rm d.rs=false then (noTensor,7) else (⟨a.h,a.v,a.c,(List.range n).map fun i=>joinV d (a.data.getD i 0) (b.data.getD i 0)⟩,0) by unfold joinQ;rw [ha.n_eq])
 have MY:=zH (show mayV d=(quantOk d.qm d.qs && quantOk d.rm d.rs) from rfl)
 obtain ⟨x,hx⟩:∃ x,joinQ a b d=x:=⟨_,rfl⟩
 rw [hx] at HQ ⊢
 have FR:=zH (Far.refl w)
 obtain ⟨w1,hw_w1,BA,k_w1⟩:=nB w (tN a.h a.v a.c A n cap) 27
 replace FR:=zH (FR.out.fut k_w1)
 clear k_w1
 obtain ⟨w2,hw_w2,BB,k_w2⟩:=nB w1 (tN b.h b.v b.c A' n' cap') 27
 replace FR:=zH (FR.out.fut k_w2)
 replace BA:=zH (BA.out.fut k_w2)
 clear k_w2
 obtain ⟨w3,hw_w3,BN,k_w3⟩:=nB w2 (nN d.kind d.a d.b d.k d.s d.p d.out d.za d.zb W nw cw B nb cb d.qm d.qs d.qz d.rm d.rs d.rz d.lo d.hi) 44
 replace FR:=zH (FR.out.fut k_w3)
 replace BA:=zH (BA.out.fut k_w3)
 replace BB:=zH (BB.out.fut k_w3)
 clear k_w3
 obtain ⟨w4,hw_w4,BR,k_w4⟩:=nB w3 (tN 0 0 0 none 0 0) 27
 replace FR:=zH (FR.out.fut k_w4)
 replace BA:=zH (BA.out.fut k_w4)
 replace BB:=zH (BB.out.fut k_w4)
 replace BN:=zH (BN.out.fut k_w4)
 clear k_w4
 have l1:w.heap.size < w1.heap.size:=by rw [← hw_w1];simp
 have l2:w1.heap.size < w2.heap.size:=by rw [← hw_w2];simp
 have l3:w2.heap.size < w3.heap.size:=by rw [← hw_w3];simp
 have l4:w3.heap.size < w4.heap.size:=by rw [← hw_w4];simp
 obtain ⟨ok,hok⟩:∃ q,b.ok=q:=⟨_,rfl⟩
 obtain ⟨sm,hsm⟩:∃ q,([a.h,a.v,a.c] == [b.h,b.v,b.c])=q:=⟨_,rfl⟩
 obtain ⟨k1,hk1⟩:∃ q,quantOk d.qm d.qs=q:=⟨_,rfl⟩
 obtain ⟨k2,hk2⟩:∃ q,quantOk d.rm d.rs=q:=⟨_,rfl⟩
 rw [hok] at RB HQ NN
 rw [hsm] at QE HQ NN
 rw [hk1] at Q1 HQ MY
 rw [hk2] at Q2 HQ MY
 clear ht hu hd ha hbs c1 c1' c2' TK hx hok hsm hk1 hk2
 by_cases q1:ok=false
 ·subst q1
  rw [if_pos rfl] at HQ
  rw [HQ.out]
  go_enter Tryz.func34,Tryz.ntmps34
  go_wp2_with (first|(refine lB 27 (.tmp 3) w.heap.size BA.out Tryz.underlying27 ?_)|(go_at_call 17;with_reducible refine (RA.out _).mono ?_;rintro e w5 ⟨rfl,hb⟩;have l5:=hb.size;replace FR:=zH (FR.out.fut hb);replace BA:=zH (BA.out.fut hb);replace BB:=zH (BB.out.fut hb);replace BN:=zH (BN.out.fut hb);replace BR:=zH (BR.out.fut hb);clear hb hw_w1 hw_w2 hw_w3 hw_w4;have b0:=BB.out.cell 0;have b1:=BB.out.cell 1;have b2:=BB.out.cell 2;have b3:=BB.out.cell 3)|(go_at_call 17;with_reducible refine (RB.out _).mono ?_;rintro e w6 ⟨rfl,hb⟩;have l6:=hb.size;replace FR:=zH (FR.out.fut hb);replace BA:=zH (BA.out.fut hb);replace BB:=zH (BB.out.fut hb);replace BN:=zH (BN.out.fut hb);replace BR:=zH (BR.out.fut hb);clear hb b0 b1 b2 b3;have a0:=BA.out.cell 0;have a1:=BA.out.cell 1;have a2:=BA.out.cell 2;have b0:=BB.out.cell 0;have b1:=BB.out.cell 1;have b2:=BB.out.cell 2)|(refine sB 27 (.tmp 6) (.tmp 25) w3.heap.size (tN 0 0 0 none 0 0) BR.out ?_;intro wy By gy))
  refine rC By Tryz.underlying27 ?_
  exact RetT.none (FR.out.away gy (by omega)).out
 rw [Bool.not_eq_false] at q1
 subst q1
 rw [if_neg (by decide)] at HQ
 by_cases q2:sm=false
 ·subst q2
  rw [if_pos rfl] at HQ
  rw [HQ.out]
  go_enter Tryz.func34,Tryz.ntmps34
  go_wp2_with (first|(refine lB 27 (.tmp 3) w.heap.size BA.out Tryz.underlying27 ?_)|(go_at_call 17;with_reducible refine (RA.out _).mono ?_;rintro e w5 ⟨rfl,hb⟩;have l5:=hb.size;replace FR:=zH (FR.out.fut hb);replace BA:=zH (BA.out.fut hb);replace BB:=zH (BB.out.fut hb);replace BN:=zH (BN.out.fut hb);replace BR:=zH (BR.out.fut hb);clear hb hw_w1 hw_w2 hw_w3 hw_w4;have b0:=BB.out.cell 0;have b1:=BB.out.cell 1;have b2:=BB.out.cell 2;have b3:=BB.out.cell 3)|(go_at_call 17;with_reducible refine (RB.out _).mono ?_;rintro e w6 ⟨rfl,hb⟩;have l6:=hb.size;replace FR:=zH (FR.out.fut hb);replace BA:=zH (BA.out.fut hb);replace BB:=zH (BB.out.fut hb);replace BN:=zH (BN.out.fut hb);replace BR:=zH (BR.out.fut hb);clear hb b0 b1 b2 b3;have a0:=BA.out.cell 0;have a1:=BA.out.cell 1;have a2:=BA.out.cell 2;have b0:=BB.out.cell 0;have b1:=BB.out.cell 1;have b2:=BB.out.cell 2)|(refine wpList_neq_agg 24 _ (.tmp 20) (.tmp 22) rfl _ _ rfl rfl (by rfl) (by kernel_rfl) _ (QE.out _) ?_;try simp only [Bool.not_true,Bool.not_false])|(refine sB 27 (.tmp 6) (.tmp 25) w3.heap.size (tN 0 0 0 none 0 0) BR.out ?_;intro wy By gy))
  refine rC By Tryz.underlying27 ?_
  exact RetT.none (FR.out.away gy (by omega)).out
 rw [Bool.not_eq_false] at q2
 subst q2
 rw [if_neg (by decide)] at HQ
 by_cases q3:k1=false
 ·subst q3
  rw [if_pos rfl] at HQ
  rw [HQ.out]
  go_enter Tryz.func34,Tryz.ntmps34
  go_wp2_with (first|(refine lB 27 (.tmp 3) w.heap.size BA.out Tryz.underlying27 ?_)|(go_at_call 17;with_reducible refine (RA.out _).mono ?_;rintro e w5 ⟨rfl,hb⟩;have l5:=hb.size;replace FR:=zH (FR.out.fut hb);replace BA:=zH (BA.out.fut hb);replace BB:=zH (BB.out.fut hb);replace BN:=zH (BN.out.fut hb);replace BR:=zH (BR.out.fut hb);clear hb hw_w1 hw_w2 hw_w3 hw_w4;have b0:=BB.out.cell 0;have b1:=BB.out.cell 1;have b2:=BB.out.cell 2;have b3:=BB.out.cell 3)|(go_at_call 17;with_reducible refine (RB.out _).mono ?_;rintro e w6 ⟨rfl,hb⟩;have l6:=hb.size;replace FR:=zH (FR.out.fut hb);replace BA:=zH (BA.out.fut hb);replace BB:=zH (BB.out.fut hb);replace BN:=zH (BN.out.fut hb);replace BR:=zH (BR.out.fut hb);clear hb b0 b1 b2 b3;have a0:=BA.out.cell 0;have a1:=BA.out.cell 1;have a2:=BA.out.cell 2;have b0:=BB.out.cell 0;have b1:=BB.out.cell 1;have b2:=BB.out.cell 2)|(refine wpList_neq_agg 24 _ (.tmp 20) (.tmp 22) rfl _ _ rfl rfl (by rfl) (by kernel_rfl) _ (QE.out _) ?_;try simp only [Bool.not_true,Bool.not_false])|(refine wpList_load_blk rfl 42 (.tmp 26) rfl w2.heap.size 11 rfl _ (nN d.kind d.a d.b d.k d.s d.p d.out d.za d.zb W nw cw B nb cb d.qm d.qs d.qz d.rm d.rs d.rz d.lo d.hi) #[.int .i32 d.qm,.int .i64 d.qs,.int .i8 d.qz] _ BN.out Tryz.underlying42 rfl (by kernel_rfl) rfl ?_)|(go_at_call 53;with_reducible refine (Q1.out _).mono ?_;rintro e w7 ⟨rfl,hb⟩;have l7:=hb.size;replace FR:=zH (FR.out.fut hb);replace BA:=zH (BA.out.fut hb);replace BB:=zH (BB.out.fut hb);replace BN:=zH (BN.out.fut hb);replace BR:=zH (BR.out.fut hb);clear hb a0 a1 a2 b0 b1 b2;have c14:=BN.out.cell 14;have c15:=BN.out.cell 15;have c16:=BN.out.cell 16;simp only [gX] at c14 c15 c16)|(refine sB 27 (.tmp 6) (.tmp 36) w3.heap.size (tN 0 0 0 none 0 0) BR.out ?_;intro wy By gy))
  refine rC By Tryz.underlying27 ?_
  exact RetT.none (FR.out.away gy (by omega)).out
 rw [Bool.not_eq_false] at q3
 subst q3
 rw [if_neg (by decide)] at HQ
 by_cases q4:k2=false
 ·subst q4
  rw [if_pos rfl] at HQ
  rw [HQ.out]
  go_enter Tryz.func34,Tryz.ntmps34
  go_wp2_with (first|(refine lB 27 (.tmp 3) w.heap.size BA.out Tryz.underlying27 ?_)|(go_at_call 17;with_reducible refine (RA.out _).mono ?_;rintro e w5 ⟨rfl,hb⟩;have l5:=hb.size;replace FR:=zH (FR.out.fut hb);replace BA:=zH (BA.out.fut hb);replace BB:=zH (BB.out.fut hb);replace BN:=zH (BN.out.fut hb);replace BR:=zH (BR.out.fut hb);clear hb hw_w1 hw_w2 hw_w3 hw_w4;have b0:=BB.out.cell 0;have b1:=BB.out.cell 1;have b2:=BB.out.cell 2;have b3:=BB.out.cell 3)|(go_at_call 17;with_reducible refine (RB.out _).mono ?_;rintro e w6 ⟨rfl,hb⟩;have l6:=hb.size;replace FR:=zH (FR.out.fut hb);replace BA:=zH (BA.out.fut hb);replace BB:=zH (BB.out.fut hb);replace BN:=zH (BN.out.fut hb);replace BR:=zH (BR.out.fut hb);clear hb b0 b1 b2 b3;have a0:=BA.out.cell 0;have a1:=BA.out.cell 1;have a2:=BA.out.cell 2;have b0:=BB.out.cell 0;have b1:=BB.out.cell 1;have b2:=BB.out.cell 2)|(refine wpList_neq_agg 24 _ (.tmp 20) (.tmp 22) rfl _ _ rfl rfl (by rfl) (by kernel_rfl) _ (QE.out _) ?_;try simp only [Bool.not_true,Bool.not_false])|(refine wpList_load_blk rfl 42 (.tmp 26) rfl w2.heap.size 11 rfl _ (nN d.kind d.a d.b d.k d.s d.p d.out d.za d.zb W nw cw B nb cb d.qm d.qs d.qz d.rm d.rs d.rz d.lo d.hi) #[.int .i32 d.qm,.int .i64 d.qs,.int .i8 d.qz] _ BN.out Tryz.underlying42 rfl (by kernel_rfl) rfl ?_)|(go_at_call 53;with_reducible refine (Q1.out _).mono ?_;rintro e w7 ⟨rfl,hb⟩;have l7:=hb.size;replace FR:=zH (FR.out.fut hb);replace BA:=zH (BA.out.fut hb);replace BB:=zH (BB.out.fut hb);replace BN:=zH (BN.out.fut hb);replace BR:=zH (BR.out.fut hb);clear hb a0 a1 a2 b0 b1 b2;have c14:=BN.out.cell 14;have c15:=BN.out.cell 15;have c16:=BN.out.cell 16;simp only [gX] at c14 c15 c16)|(go_at_call 53;with_reducible refine (Q2.out _).mono ?_;rintro e w8 ⟨rfl,hb⟩;have l8:=hb.size;replace FR:=zH (FR.out.fut hb);replace BA:=zH (BA.out.fut hb);replace BB:=zH (BB.out.fut hb);replace BN:=zH (BN.out.fut hb);replace BR:=zH (BR.out.fut hb);clear hb c14 c15 c16)|(refine sB 27 (.tmp 6) (.tmp 36) w3.heap.size (tN 0 0 0 none 0 0) BR.out ?_;intro wy By gy))
  refine rC By Tryz.underlying27 ?_
  exact RetT.none (FR.out.away gy (by omega)).out
 rw [Bool.not_eq_false] at q4
 subst q4
 rw [if_neg (by decide)] at HQ
 rw [HQ.out]
 obtain rfl:n=n':=(NN.out rfl rfl).symm
 have OV:=zH (fun x y (h:InK .i8 x) (h':InK .i8 y) w=>rjoinOne_any x y d W nw cw B nb cb w h h' HD.out MY.out)
 ·go_enter Tryz.func34,Tryz.ntmps34
  go_wp2_with (first|(refine lB 27 (.tmp 3) w.heap.size BA.out Tryz.underlying27 ?_)|(go_at_call 17;with_reducible refine (RA.out _).mono ?_;rintro e w5 ⟨rfl,hb⟩;have l5:=hb.size;replace FR:=zH (FR.out.fut hb);replace BA:=zH (BA.out.fut hb);replace BB:=zH (BB.out.fut hb);replace BN:=zH (BN.out.fut hb);replace BR:=zH (BR.out.fut hb);clear hb hw_w1 hw_w2 hw_w3 hw_w4;have b0:=BB.out.cell 0;have b1:=BB.out.cell 1;have b2:=BB.out.cell 2;have b3:=BB.out.cell 3)|(go_at_call 17;with_reducible refine (RB.out _).mono ?_;rintro e w6 ⟨rfl,hb⟩;have l6:=hb.size;replace FR:=zH (FR.out.fut hb);replace BA:=zH (BA.out.fut hb);replace BB:=zH (BB.out.fut hb);replace BN:=zH (BN.out.fut hb);replace BR:=zH (BR.out.fut hb);clear hb b0 b1 b2 b3;have a0:=BA.out.cell 0;have a1:=BA.out.cell 1;have a2:=BA.out.cell 2;have b0:=BB.out.cell 0;have b1:=BB.out.cell 1;have b2:=BB.out.cell 2)|(refine wpList_neq_agg 24 _ (.tmp 20) (.tmp 22) rfl _ _ rfl rfl (by rfl) (by kernel_rfl) _ (QE.out _) ?_;try simp only [Bool.not_true,Bool.not_false])|(refine wpList_load_blk rfl 42 (.tmp 26) rfl w2.heap.size 11 rfl _ (nN d.kind d.a d.b d.k d.s d.p d.out d.za d.zb W nw cw B nb cb d.qm d.qs d.qz d.rm d.rs d.rz d.lo d.hi) #[.int .i32 d.qm,.int .i64 d.qs,.int .i8 d.qz] _ BN.out Tryz.underlying42 rfl (by kernel_rfl) rfl ?_)|(go_at_call 53;with_reducible refine (Q1.out _).mono ?_;rintro e w7 ⟨rfl,hb⟩;have l7:=hb.size;replace FR:=zH (FR.out.fut hb);replace BA:=zH (BA.out.fut hb);replace BB:=zH (BB.out.fut hb);replace BN:=zH (BN.out.fut hb);replace BR:=zH (BR.out.fut hb);clear hb a0 a1 a2 b0 b1 b2;have c14:=BN.out.cell 14;have c15:=BN.out.cell 15;have c16:=BN.out.cell 16;simp only [gX] at c14 c15 c16)|(go_at_call 53;with_reducible refine (Q2.out _).mono ?_;rintro e w8 ⟨rfl,hb⟩;have l8:=hb.size;replace FR:=zH (FR.out.fut hb);replace BA:=zH (BA.out.fut hb);replace BB:=zH (BB.out.fut hb);replace BN:=zH (BN.out.fut hb);replace BR:=zH (BR.out.fut hb);clear hb c14 c15 c16;obtain ⟨w9,hw_w9⟩:∃ x,w8.alloc (.cells (tN 0 0 0 none 0 0) 27)=x:=⟨_,rfl⟩;have hb:Below w8.heap.size w8 w9:=(by rw [← hw_w9];exact (Below.refl _ _).alloc (Nat.le_refl _) _);have BG:=zH (show Blk w9 w8.heap.size 27 (tN 0 0 0 none 0 0) by rw [← hw_w9];exact Blk.now _ _ _ _ rfl);have BA5:=zH BA.out;replace FR:=zH (FR.out.fut hb);replace BA:=zH (BA.out.fut hb);replace BB:=zH (BB.out.fut hb);replace BN:=zH (BN.out.fut hb);replace BR:=zH (BR.out.fut hb);clear hb)|(refine wpList_load_blk rfl 24 (.tmp 37) rfl w.heap.size 0 rfl _ (tN a.h a.v a.c A n cap) (sN a.h a.v a.c) _ BA5.out Tryz.underlying24 rfl (by kernel_rfl) rfl ?_)|(refine sB 27 (.tmp 8) (.tmp 39) w8.heap.size (tN a.h a.v a.c none 0 0) BG.out ?_;intro wy By gy))
  have l9:w9.heap.size=w8.heap.size+1:=by rw [← hw_w9];simp
  clear hw_w9 BA5 BG
  replace FR:=zH (FR.out.away gy (by omega))
  replace BA:=zH (BA.out.away gy (.inl (by omega)))
  replace BB:=zH (BB.out.away gy (.inl (by omega)))
  replace BN:=zH (BN.out.away gy (.inl (by omega)))
  replace BR:=zH (BR.out.away gy (.inl (by omega)))
  have BG:=zH By
  clear By gy
  have ON:=zH (show Own (tInt .i8) wy (fun _=>False) w9.heap.size 39 (.slice none 0 0) 0 ((List.range 0).map (fun i=>joinV d (a.data.getD i 0) (b.data.getD i 0))) from Own.nil _ _ _ _ _)
  go_loopw [9] (fun ii wr=>∃ k:Nat,k≤n∧ii=.int .i64 k∧Far w wr∧Blk wr w.heap.size 27 (tN a.h a.v a.c A n cap)∧Blk wr w1.heap.size 27 (tN b.h b.v b.c A' n cap')∧Blk wr w2.heap.size 44 (nN d.kind d.a d.b d.k d.s d.p d.out d.za d.zb W nw cw B nb cb d.qm d.qs d.qz d.rm d.rs d.rz d.lo d.hi)∧Blk wr w3.heap.size 27 (tN 0 0 0 none 0 0)∧∃ u,Blk wr w8.heap.size 27 #[.int .i64 a.h,.int .i64 a.v,.int .i64 a.c,u]∧Own (tInt .i8) wr (fun _=>False) w9.heap.size 39 u k ((List.range k).map (fun i=>joinV d (a.data.getD i 0) (b.data.getD i 0)))) (fun ii _=>n - (intOf ii).toNat)
  case atStart=>exact ⟨0,Nat.zero_le _,rfl,FR.out,BA.out,BB.out,BN.out,BR.out,_,BG.out,ON.out⟩
  case round =>
   obtain ⟨k,hk,rfl,f0,f1,f2,f3,f4,u,f5,f6⟩:=hrel
   clear FR BA BB BN BR BG ON
   have FR:=zH f0
   have BA:=zH f1
   have BB:=zH f2
   have BN:=zH f3
   have BR:=zH f4
   have BG:=zH f5
   have ON:=zH f6
   clear f0 f1 f2 f3 f4 f5 f6
   have a3:=BA.out.cell 3
   by_cases hlt:k < n
   ·have p1:(k:Int) < (n:Int):=by omega
    go_wp2_with fail
    clear a3
    obtain ⟨ba,oa,rfl,-,-,cx,ix⟩:=((Old.now HA.out).fut FR.out.out).all.int_at k hlt
    obtain ⟨bz,oz,rfl,-,-,cy,iy⟩:=((Old.now HB.out).fut FR.out.out).all.int_at k hlt
    have hb8:ba < w.heap.size:=by
     obtain ⟨b',o',e',q1,q2,-,-⟩:=HA.out.int_at k hlt
     simp only [Option.some.injEq,Addr.mk.injEq,and_true] at e'
     rw [e'.1]
     exact q1
    have hb9:bz < w.heap.size:=by
     obtain ⟨b',o',e',q1,q2,-,-⟩:=HB.out.int_at k hlt
     simp only [Option.some.injEq,Addr.mk.injEq,and_true] at e'
     rw [e'.1]
     exact q1
    have FS:=zH (range_snoc (fun i=>joinV d (a.data.getD i 0) (b.data.getD i 0)) k)
    obtain ⟨x,hx⟩:∃ x,a.data.getD k 0=x:=⟨_,rfl⟩
    obtain ⟨y,hy⟩:∃ x,b.data.getD k 0=x:=⟨_,rfl⟩
    rw [hx] at cx ix
    rw [hy] at cy iy
    have FE:=zH (show joinV d (a.data.getD k 0) (b.data.getD k 0)=joinV d x y by rw [hx,hy])
    have CX:=zH (OV.out x y ix iy)
    obtain ⟨v,hv⟩:∃ v,joinV d x y=v:=⟨_,rfl⟩
    have RE:=zH (show InK .i8 v by rw [← hv];exact joinV_in d x y)
    rw [hv] at FE CX
    have OD:=zH (ON.out.heap (w':=wr.drew) rfl)
    have fd:Below w.heap.size w wr.drew:=FR.out.out.drew
    have bd:=BG.out.lt
    have cd:=cell_later ((show Below wr.heap.size wr wr.drew from (Below.refl _ _).drew)) cx
    have cd2:=cell_later ((show Below wr.heap.size wr wr.drew from (Below.refl _ _).drew)) cy
    have nu:=zH (show ∀ b,b < w9.heap.size → some b ≠ u.ownBlock from fun b hb e=>absurd (ON.out.lt b e.symm).1 (by omega))
    clear hx hy hv cx cy
    refine wp_region_T (fun w'=>w'.cell? ⟨w8.heap.size,3,none⟩=some u∧w'.cell? ⟨w.heap.size,3,none⟩=some (.slice (some ⟨ba,oa,none⟩) n cap)∧w'.cell? ⟨w1.heap.size,3,none⟩=some (.slice (some ⟨bz,oz,none⟩) n cap')∧w'.cell? ⟨ba,oa+k,none⟩=some (.int .i8 x)∧w'.cell? ⟨bz,oz+k,none⟩=some (.int .i8 y)∧Blk w' w2.heap.size 44 (nN d.kind d.a d.b d.k d.s d.p d.out d.za d.zb W nw cw B nb cb d.qm d.qs d.qz d.rm d.rs d.rz d.lo d.hi)∧Below w.heap.size w w') 16 (by kernel_rfl) ?_ (fun hS=>?_)
    ·exact ⟨BG.out.drew.cell 3,BA.out.drew.cell 3,BB.out.drew.cell 3,cd,cd2,BN.out.drew,fd⟩
    refine kT 0 rfl hS ?_
    try simp only [pX]
    refine kT 1 rfl hS ?_
    try simp only [pX]
    refine kT 2 rfl hS ?_
    try simp only [pX]
    refine kT 3 rfl hS ?_
    try simp only [pX]
    refine kT 4 rfl hS ?_
    try simp only [pX]
    refine kT 5 rfl hS ?_
    try simp only [pX]
    refine kT 6 rfl hS ?_
    try simp only [pX]
    refine kT 7 rfl hS ?_
    try simp only [pX]
    refine kT 8 rfl hS ?_
    try simp only [pX]
    refine kT 9 rfl hS ?_
    try simp only [pX]
    refine kT 10 rfl hS ?_
    try simp only [pX]
    refine kT 11 rfl hS ?_
    try simp only [pX]
    refine tkT 12 rfl (yieldsIf_load_blk (by rfl) 44 (.tmp 5) rfl w2.heap.size 0 rfl _ _ (nN d.kind d.a d.b d.k d.s d.p d.out d.za d.zb W nw cw B nb cb d.qm d.qs d.qz d.rm d.rs d.rz d.lo d.hi) _ (fun w hs=>hs.2.2.2.2.2.1) Tryz.underlying44 rfl (by kernel_rfl) rfl) hS ?_
    try simp only [pX]
    refine wpAnyT_one (i:=13) (by kernel_rfl) rfl rfl (fun K hK=>?_)
    go_simp
    refine (CX.out _).mono ?_;rintro e wa ⟨rfl,hb⟩;have OA:=zH (OD.out.below hb (Nat.le_refl _) (fun _ h=>h.elim));have za:w9.heap.size≤wa.heap.size:=(by have:=hb.size;have:wr.drew.heap.size=wr.heap.size:=rfl;omega);have XX:=zH (And.intro (cell_later hb cd) (And.intro (BA.out.drew.later hb) (below_call fd hb fd.size)));have YY:=zH (And.intro (BN.out.drew.later hb) (And.intro (BR.out.drew.later hb) (BG.out.drew.later hb)));have ZZ:=zH (And.intro (cell_later hb cd2) (BB.out.drew.later hb))
    refine hK.out _ _ ?_ (fun hS=>?_)
    ·exact ⟨(by first|exact cell_later hb hS.1|exact Blk.later hS.1 hb),(by first|exact cell_later hb hS.2.1|exact Blk.later hS.2.1 hb),(by first|exact cell_later hb hS.2.2.1|exact Blk.later hS.2.2.1 hb),(by first|exact cell_later hb hS.2.2.2.1|exact Blk.later hS.2.2.2.1 hb),(by first|exact cell_later hb hS.2.2.2.2.1|exact Blk.later hS.2.2.2.2.1 hb),(by first|exact cell_later hb hS.2.2.2.2.2.1|exact Blk.later hS.2.2.2.2.2.1 hb),(by first|exact below_later hb hS.2.2.2.2.2.2|exact grown_below hS.2.2.2.2.2.2 hb)⟩
    clear hK K
    try simp only [pX]
    refine wpAnyT_one (i:=14) (by kernel_rfl) rfl rfl (fun K hK=>?_)
    go_simp
    have hb:Below wa.heap.size wa (wa.alloc (.cells #[.int .i8 v] 39)):=(Below.refl _ _).alloc (Nat.le_refl _) _
    refine hK.out _ _ ?_ (fun hS=>?_)
    ·exact ⟨(by first|exact cell_later hb hS.1|exact Blk.later hS.1 hb),(by first|exact cell_later hb hS.2.1|exact Blk.later hS.2.1 hb),(by first|exact cell_later hb hS.2.2.1|exact Blk.later hS.2.2.1 hb),(by first|exact cell_later hb hS.2.2.2.1|exact Blk.later hS.2.2.2.1 hb),(by first|exact cell_later hb hS.2.2.2.2.1|exact Blk.later hS.2.2.2.2.1 hb),(by first|exact cell_later hb hS.2.2.2.2.2.1|exact Blk.later hS.2.2.2.2.2.1 hb),(by first|exact below_later hb hS.2.2.2.2.2.2|exact grown_below hS.2.2.2.2.2.2 hb)⟩
    clear hK K
    try simp only [pX]
    refine wpAnyT_one (i:=15) (by kernel_rfl) rfl rfl (fun K hK=>?_)
    (rw [if_pos (by rfl)];refine oper_push (W:=wa) (cs:=#[.int .i8 v]) (E:=39) (t:=tInt .i8) (.tmp 48) (.tmp 61) rfl ei_b8 rfl OA.out 1 rfl v ⟨rfl,RE.out⟩ (by unfold maxLen;omega) (by omega) za (fun _ h=>h.elim) ?_;intro u' w7 own7 g7 at7;have B7:=zH (YY.out.2.2.rowR g7 (nu.out _ (by omega)));have T7:=zH (XX.out.2.1.rowR g7 (nu.out _ (by omega)));have U7:=zH (ZZ.out.2.rowR g7 (nu.out _ (by omega)));refine hK.out _ _ ⟨B7.out.cell 3,T7.out.cell 3,U7.out.cell 3,cell_grown g7 XX.out.1 (nu.out ba (by omega)),cell_grown g7 ZZ.out.1 (nu.out bz (by omega)),YY.out.1.rowR g7 (nu.out _ (by omega)),XX.out.2.2.grown g7 XX.out.2.2.size (fun j hj=>Nat.le_trans (by omega) (OA.out.lt j hj).1)⟩ (fun hS=>?_))
    clear hK K
    try simp only [pX]
    refine wpAnyT_tail _ _ rfl rfl (by kernel_rfl) ?_
    have FZ:=hS.2.2.2.2.2.2
    have XB:=zH hS.2.2.2.2.2.1
    have XR:=zH (YY.out.2.1.rowR g7 (nu.out _ (by omega)))
    have NU:=zH (show u'.ownBlock=none ∨ u'.ownBlock ≠ some w8.heap.size by
     cases hu:u'.ownBlock with
     | none=>exact .inl rfl
     | some m=>right;intro e;have:=(own7.lt m hu).1;have:=Option.some.inj e;omega)
    obtain ⟨A7,c7,rfl,-⟩:=own7.sl (S':=fun _=>True) (by decide) (fun _ _ _=>trivial) (fun _ _=>trivial)
    clear hS hb nu at7
    go_wp2_with (refine wpList_store_one rfl 25 (.tmp 63) (.tmp 62) rfl w8.heap.size 3 (.slice A7 (k+1) c7) rfl rfl rfl rfl _ #[.int .i64 a.h,.int .i64 a.v,.int .i64 a.c,u] (tN a.h a.v a.c A7 (k+1) c7) B7.out (by simp) (by kernel_rfl) rfl ?_;intro wq8 B8 g8)
    have F8:=(show Far w w7 from ⟨FZ⟩).away g8 (by omega)
    have O8:=own7.flat g8 (by rcases NU.out with e|e;exact .inl e;exact .inr e) (fun _ h=>h)
    have fs:=FS.out
    rw [FE.out] at fs
    rw [fs] at O8
    exact ⟨⟨k+1,by omega,by go_num,F8,T7.out.away g8 (.inl (by omega)),U7.out.away g8 (.inl (by omega)),XB.out.away g8 (.inl (by omega)),XR.out.away g8 (.inl (by omega)),_,B8,O8⟩,by simp [intOf];omega⟩
   ·obtain rfl:k=n:=by omega
    obtain ⟨A9,c9,rfl,-⟩:=ON.out.sl (S':=fun _=>True) (by decide) (fun _ _ _=>trivial) (fun _ _=>trivial)
    go_wp2_with (first|(refine lB 27 (.tmp 8) w8.heap.size BG.out Tryz.underlying27 ?_)|(refine sB 27 (.tmp 6) (.tmp 64) w3.heap.size (tN a.h a.v a.c A9 k c9) BR.out ?_;intro wy By gy))
    have e2:=ON.out.flat gy (by
     cases hu:(Value.slice A9 k c9).ownBlock with
     | none=>exact .inl rfl
     | some m=>right;intro e;have:=(ON.out.lt m hu).1;have:=Option.some.inj e;omega) (fun _ h=>h)
    refine rC By Tryz.underlying27 ?_
    have FE:=FR.out.away gy (by omega)
    obtain ⟨A2,c2,hv,s⟩:=e2.sl (S':=bin w.heap.size _) (by decide) (fun b h1 h2=>⟨by omega,h2⟩) (fun b h=>h.elim)
    injection hv with hv1 hv2 hv3
    subst hv1 hv3
    exact ⟨_,_,_,rfl,s,FE.out⟩
end Go.Proofs.YtjkmjpjknmghlaaGreat
