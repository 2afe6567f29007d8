/-
  poolMax_any, poolMean2_any, told with cells that may be written (for the law RunAgain).
-/
import Derived.RangeFuncCalls
import Derived.Test.YtlbkekabmpienaaGreatJ31
import Derived.Test.YtlbkekabmpienaaGreatKA00
import Derived.Test.YtlbkekabmpienaaGreatKA01
import Derived.Test.YtlbkekabmpienaaGreatJ00
import Derived.Test.YtlbkekabmpienaaGreatJ15
import Derived.Test.YtlbkekabmpienaaGreatJ01
import Derived.Test.YtlbkekabmpienaaGreatJ27
import Derived.Test.YtlbkekabmpienaaGreatJ19
import Derived.Test.YtlbkekabmpienaaGreatJ11
import Derived.Test.YtlbkekabmpienaaGreatJ06
import Derived.Test.YtlbkekabmpienaaGreatJ22
import Derived.Test.YtlbkekabmpienaaGreatJ25
import Derived.Test.YtlbkekabmpienaaGreatJ14
import Derived.Test.YtlbkekabmpienaaGreatJ17
import Derived.Test.YtlbkekabmpienaaGreatJ02
import Derived.Test.YtlbkekabmpienaaGreatJ16
import Derived.Test.YtlbkekabmpienaaGreatJ18
import Derived.Test.YtlbkekabmpienaaGreatJ04
import Derived.Test.YtlbkekabmpienaaGreatJ05
import Derived.Test.YtlbkekabmpienaaGreatJ03
import Derived.Test.YtlbkekabmpienaaGreatJ26
import Derived.Test.YtlbkekabmpienaaGreatJ10
import Derived.Test.YtlbkekabmpienaaGreatJ12
import Derived.Test.YtlbkekabmpienaaGreatJ13
namespace Go.Proofs.YtlbkekabmpienaaGreat
set_option linter.unusedVariables false
set_option linter.unusedSimpArgs false
open Go.RowKit Go.ChangeShapes Go.WideShapes Fx
set_option maxRecDepth 100000
set_option maxHeartbeats 8000000
theorem poolMax_anyW (t:Tensor) (A:Option Addr) (n cap:Nat) (d:Node) (W:Option Addr) (nw cw:Nat) (B:Option Addr) (nb cb:Nat) (w:World)
  (ha:Sl (tInt .i8) w (blo w.heap.size) A n cap t.data) (c1:t.ok=true) :
  Calls Tryz.prog 18 #[.agg #[.int .i64 t.h,.int .i64 t.v,.int .i64 t.c,.slice A n cap],.agg #[.int .i64 d.kind,.int .i64 d.a,.int .i64 d.b,.int .i64 d.k,.int .i64 d.s,.int .i64 d.p,.int .i64 d.out,.int .i8 d.za,.int .i8 d.zb,.slice W nw cw,.slice B nb cb,.int .i32 d.qm,.int .i64 d.qs,.int .i8 d.qz,.int .i32 d.rm,.int .i64 d.rs,.int .i8 d.rz,.int .i8 d.lo,.int .i8 d.hi]] w (RetW .i8 (poolQ maxU t d).1 (poolQ maxU t d).2 w):=by
 have HA:=zH ha
 have MD:=zH (fun w ha=>show Calls Tryz.prog 52 #[.agg #[.int .i64 t.h,.int .i64 t.v,.int .i64 t.c,.slice A n cap],.agg #[.int .i64 d.kind,.int .i64 d.a,.int .i64 d.b,.int .i64 d.k,.int .i64 d.s,.int .i64 d.p,.int .i64 d.out,.int .i8 d.za,.int .i8 d.zb,.slice W nw cw,.slice B nb cb,.int .i32 d.qm,.int .i64 d.qs,.int .i8 d.qz,.int .i32 d.rm,.int .i64 d.rs,.int .i8 d.rz,.int .i8 d.lo,.int .i8 d.hi],.func (.func 53) #[] #[]] w (RetW .i8 (poolQ maxU t d).1 (poolQ maxU t d).2 w) from by
  by_cases c2:(slideV t.h t.v t.c d.k d.s d.p t.c).2=0
  ·exact made_goodW 53 maxU maxU_nil (fun l=>w8_in _) (fun A n cap l w hl hn h1=>by rw [maxU_of hl.allK,hl.n_eq,if_neg (by omega)];exact (greatest_any A n cap l w hl hn h1).mono fun e w' h=>⟨h.1,by rw [← h.2];exact Below.refl _ _⟩) (enters_of Tryz.func53 (by kernel_rfl) rfl) t A n cap d W nw cw B nb cb w ha c1 c2
  ·have e:poolQ maxU t d=(noTensor,(slideV t.h t.v t.c d.k d.s d.p t.c).2):=by unfold poolQ;rw [if_neg c2]
   rw [e]
   exact made_codeW 53 t A n cap d W nw cw B nb cb w ha c1 c2)
 obtain ⟨Q,hQ⟩:∃ q,poolQ maxU t d=q:=⟨_,rfl⟩
 rw [hQ] at MD ⊢
 have FR:=zH (Far.refl w)
 clear ha c1 hQ
 obtain ⟨w1,hw_w1,BA,k_w1⟩:=nB w #[.int .i64 t.h,.int .i64 t.v,.int .i64 t.c,.slice A n cap] 32
 replace FR:=zH (FR.out.fut k_w1)
 clear k_w1
 obtain ⟨w2,hw_w2,BN,k_w2⟩:=nB w1 #[.int .i64 d.kind,.int .i64 d.a,.int .i64 d.b,.int .i64 d.k,.int .i64 d.s,.int .i64 d.p,.int .i64 d.out,.int .i8 d.za,.int .i8 d.zb,.slice W nw cw,.slice B nb cb,.int .i32 d.qm,.int .i64 d.qs,.int .i8 d.qz,.int .i32 d.rm,.int .i64 d.rs,.int .i8 d.rz,.int .i8 d.lo,.int .i8 d.hi] 28
 replace FR:=zH (FR.out.fut k_w2)
 replace BA:=zH (BA.out.fut k_w2)
 clear k_w2
 obtain ⟨w3,hw_w3,BR,k_w3⟩:=nB w2 #[.int .i64 0,.int .i64 0,.int .i64 0,.slice none 0 0] 32
 replace FR:=zH (FR.out.fut k_w3)
 replace BA:=zH (BA.out.fut k_w3)
 replace BN:=zH (BN.out.fut k_w3)
 clear k_w3
 have l1:w.heap.size < w1.heap.size:=by rw [← hw_w1];simp
 have l2:w1.heap.size < w2.heap.size:=by rw [← hw_w2];simp
 go_enter Tryz.func18,Tryz.ntmps18
 go_wp2_with (first|(refine lB 32 (.tmp 2) w.heap.size BA.out Tryz.underlying32 ?_)|(refine lB 28 (.tmp 3) w1.heap.size BN.out Tryz.underlying28 ?_))
 refine (MD.out _ ((Old.now HA.out).fut FR.out.out).all).mono ?_
 rintro e w4 ⟨A2,n2,c2,rfl,rs,hb,un⟩
 have UN:=zH un
 clear un
 have BR4:=zH (BR.out.fut hb)
 have F4:=zH (FR.out.fut hb)
 have RS:=zH (New.of rs FR.out)
 have l34:=hb.size
 have lr:=BR.out.lt
 have hlow:=zH (show ∀ b,bin w3.heap.size w4.heap.size b → b ≠ w2.heap.size from fun b h e=>by have:=h.1;omega)
 have RS2:=zH rs
 clear hb rs hw_w1 hw_w2 hw_w3 MD
 go_wp2_with (refine sB 32 (.tmp 4) (.tmp 9) w2.heap.size #[.int .i64 Q.1.h,.int .i64 Q.1.v,.int .i64 Q.1.c,.slice A2 n2 c2] BR4.out ?_;intro w9 B9 g9)
 refine ret_cell_tmp rfl B9 rfl Tryz.underlying32 (by kernel_rfl) rfl ?_
 have s9:=g9.size
 refine ⟨A2,n2,c2,rfl,?_,(F4.out.away g9 (by omega)).out,un_keep RS2.out UN.out fun b h=>g9.block b (by have:=h.2;omega) (fun e=>hlow.out b h (by have:=Option.some.inj e;omega))⟩
 exact (RS2.out.keep (w':=w9) fun b h=>g9.block b (by have:=h.2;omega) (fun e=>hlow.out b h (by have:=Option.some.inj e;omega))).more fun b h=>⟨by have:=h.1;omega,by have:=h.2;omega⟩
theorem poolMean2_anyW (t:Tensor) (A:Option Addr) (n cap:Nat) (d:Node) (W:Option Addr) (nw cw:Nat) (B:Option Addr) (nb cb:Nat) (w:World)
  (ha:Sl (tInt .i8) w (blo w.heap.size) A n cap t.data) (c1:t.ok=true) :
  Calls Tryz.prog 19 #[.agg #[.int .i64 t.h,.int .i64 t.v,.int .i64 t.c,.slice A n cap],.agg #[.int .i64 d.kind,.int .i64 d.a,.int .i64 d.b,.int .i64 d.k,.int .i64 d.s,.int .i64 d.p,.int .i64 d.out,.int .i8 d.za,.int .i8 d.zb,.slice W nw cw,.slice B nb cb,.int .i32 d.qm,.int .i64 d.qs,.int .i8 d.qz,.int .i32 d.rm,.int .i64 d.rs,.int .i8 d.rz,.int .i8 d.lo,.int .i8 d.hi]] w (RetW .i8 (poolQ meanV t d).1 (poolQ meanV t d).2 w):=by
 have HA:=zH ha
 have MD:=zH (fun w ha=>show Calls Tryz.prog 52 #[.agg #[.int .i64 t.h,.int .i64 t.v,.int .i64 t.c,.slice A n cap],.agg #[.int .i64 d.kind,.int .i64 d.a,.int .i64 d.b,.int .i64 d.k,.int .i64 d.s,.int .i64 d.p,.int .i64 d.out,.int .i8 d.za,.int .i8 d.zb,.slice W nw cw,.slice B nb cb,.int .i32 d.qm,.int .i64 d.qs,.int .i8 d.qz,.int .i32 d.rm,.int .i64 d.rs,.int .i8 d.rz,.int .i8 d.lo,.int .i8 d.hi],.func (.func 54) #[] #[]] w (RetW .i8 (poolQ meanV t d).1 (poolQ meanV t d).2 w) from by
  by_cases c2:(slideV t.h t.v t.c d.k d.s d.p t.c).2=0
  ·exact made_goodW 54 meanV meanV_nil meanV_in (fun A n cap l w hl hn h1=>poolMean_any A n cap l w hl hn) (enters_of Tryz.func54 (by kernel_rfl) rfl) t A n cap d W nw cw B nb cb w ha c1 c2
  ·have e:poolQ meanV t d=(noTensor,(slideV t.h t.v t.c d.k d.s d.p t.c).2):=by unfold poolQ;rw [if_neg c2]
   rw [e]
   exact made_codeW 54 t A n cap d W nw cw B nb cb w ha c1 c2)
 obtain ⟨Q,hQ⟩:∃ q,poolQ meanV t d=q:=⟨_,rfl⟩
 rw [hQ] at MD ⊢
 have FR:=zH (Far.refl w)
 clear ha c1 hQ
 obtain ⟨w1,hw_w1,BA,k_w1⟩:=nB w #[.int .i64 t.h,.int .i64 t.v,.int .i64 t.c,.slice A n cap] 32
 replace FR:=zH (FR.out.fut k_w1)
 clear k_w1
 obtain ⟨w2,hw_w2,BN,k_w2⟩:=nB w1 #[.int .i64 d.kind,.int .i64 d.a,.int .i64 d.b,.int .i64 d.k,.int .i64 d.s,.int .i64 d.p,.int .i64 d.out,.int .i8 d.za,.int .i8 d.zb,.slice W nw cw,.slice B nb cb,.int .i32 d.qm,.int .i64 d.qs,.int .i8 d.qz,.int .i32 d.rm,.int .i64 d.rs,.int .i8 d.rz,.int .i8 d.lo,.int .i8 d.hi] 28
 replace FR:=zH (FR.out.fut k_w2)
 replace BA:=zH (BA.out.fut k_w2)
 clear k_w2
 obtain ⟨w3,hw_w3,BR,k_w3⟩:=nB w2 #[.int .i64 0,.int .i64 0,.int .i64 0,.slice none 0 0] 32
 replace FR:=zH (FR.out.fut k_w3)
 replace BA:=zH (BA.out.fut k_w3)
 replace BN:=zH (BN.out.fut k_w3)
 clear k_w3
 have l1:w.heap.size < w1.heap.size:=by rw [← hw_w1];simp
 have l2:w1.heap.size < w2.heap.size:=by rw [← hw_w2];simp
 go_enter Tryz.func19,Tryz.ntmps19
 go_wp2_with (first|(refine lB 32 (.tmp 2) w.heap.size BA.out Tryz.underlying32 ?_)|(refine lB 28 (.tmp 3) w1.heap.size BN.out Tryz.underlying28 ?_))
 refine (MD.out _ ((Old.now HA.out).fut FR.out.out).all).mono ?_
 rintro e w4 ⟨A2,n2,c2,rfl,rs,hb,un⟩
 have UN:=zH un
 clear un
 have BR4:=zH (BR.out.fut hb)
 have F4:=zH (FR.out.fut hb)
 have RS:=zH (New.of rs FR.out)
 have l34:=hb.size
 have lr:=BR.out.lt
 have hlow:=zH (show ∀ b,bin w3.heap.size w4.heap.size b → b ≠ w2.heap.size from fun b h e=>by have:=h.1;omega)
 have RS2:=zH rs
 clear hb rs hw_w1 hw_w2 hw_w3 MD
 go_wp2_with (refine sB 32 (.tmp 4) (.tmp 9) w2.heap.size #[.int .i64 Q.1.h,.int .i64 Q.1.v,.int .i64 Q.1.c,.slice A2 n2 c2] BR4.out ?_;intro w9 B9 g9)
 refine ret_cell_tmp rfl B9 rfl Tryz.underlying32 (by kernel_rfl) rfl ?_
 have s9:=g9.size
 refine ⟨A2,n2,c2,rfl,?_,(F4.out.away g9 (by omega)).out,un_keep RS2.out UN.out fun b h=>g9.block b (by have:=h.2;omega) (fun e=>hlow.out b h (by have:=Option.some.inj e;omega))⟩
 exact (RS2.out.keep (w':=w9) fun b h=>g9.block b (by have:=h.2;omega) (fun e=>hlow.out b h (by have:=Option.some.inj e;omega))).more fun b h=>⟨by have:=h.1;omega,by have:=h.2;omega⟩
end Go.Proofs.YtlbkekabmpienaaGreat
