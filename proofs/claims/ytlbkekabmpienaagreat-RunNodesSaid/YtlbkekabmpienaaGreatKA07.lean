/-
  Sums (layers 16, 17, 10): lane.Of, depth.Of, the document's, whatever the tensor.
  The middle of numbers (layer 19): pool.mean, the document's Mean; a tensor laid flat (layer 5: tensor.Flat).
  Sums that are alike are told to be (the document's Same of sums).
-/
import Derived.Test.YtlbkekabmpienaaGreatJ21
import Derived.Test.YtlbkekabmpienaaGreatJ22
import Derived.Test.YtlbkekabmpienaaGreatKA03
import Derived.Test.YtlbkekabmpienaaGreatJ00
import Derived.Test.YtlbkekabmpienaaGreatJ14
import Derived.Test.YtlbkekabmpienaaGreatKA01
import Derived.Test.YtlbkekabmpienaaGreatJ08
import Derived.Test.YtlbkekabmpienaaGreatJ16
import Derived.Test.YtlbkekabmpienaaGreatJ20
import Derived.Test.YtlbkekabmpienaaGreatJ03
import Derived.Test.YtlbkekabmpienaaGreatKA00
import Derived.Test.YtlbkekabmpienaaGreatKA02
import Derived.Test.YtlbkekabmpienaaGreatJ01
import Derived.Test.YtlbkekabmpienaaGreatJ07
import Derived.Test.YtlbkekabmpienaaGreatJ05
import Derived.Test.YtlbkekabmpienaaGreatJ06
import Derived.Test.YtlbkekabmpienaaGreatJ15
import Derived.Test.YtlbkekabmpienaaGreatJ04
import Derived.Test.YtlbkekabmpienaaGreatJ02
import Derived.Test.YtlbkekabmpienaaGreatJ28
import Derived.Test.YtlbkekabmpienaaGreatJ26
import Derived.Test.YtlbkekabmpienaaGreatKA06
import Derived.Test.YtlbkekabmpienaaGreatJ09
namespace Go.Proofs.YtlbkekabmpienaaGreat
set_option linter.unusedVariables false
set_option linter.unusedSimpArgs false
open Go.RowKit Go.ChangeShapes Go.WideShapes
set_option maxRecDepth 100000
theorem rconvOf_any (t:Tensor) (A:Option Addr) (n cap:Nat) (d:Node) (W:Option Addr) (nw cw:Nat) (B:Option Addr) (nb cb:Nat) (w:World) (ht:TensorIn t) (hd:NodeIn d)
  (ha:Sl (tInt .i8) w (blo w.heap.size) A n cap t.data) (hw:Sl (tInt .i8) w (blo w.heap.size) W nw cw d.w) (hb:Sl (tInt .i32) w (blo w.heap.size) B nb cb d.bias) (mw:nw≤2000∧nb≤200) :
  Calls Tryz.prog 37 #[.agg #[.int .i64 t.h,.int .i64 t.v,.int .i64 t.c,.slice A n cap],.agg #[.int .i64 d.kind,.int .i64 d.a,.int .i64 d.b,.int .i64 d.k,.int .i64 d.s,.int .i64 d.p,.int .i64 d.out,.int .i8 d.za,.int .i8 d.zb,.slice W nw cw,.slice B nb cb,.int .i32 d.qm,.int .i64 d.qs,.int .i8 d.qz,.int .i32 d.rm,.int .i64 d.rs,.int .i8 d.rz,.int .i8 d.lo,.int .i8 d.hi]] w (RetT .i32 (convOf t d).1 (convOf t d).2 w):=by
 by_cases c1:t.ok=true
 ·by_cases c2:(convV t.h t.v t.c d).2=0
  ·exact rconvOf_good t A n cap d W nw cw B nb cb w ht hd ha hw hb mw c1 c2
  ·have e:convOf t d=(noTensor,(convV t.h t.v t.c d).2):=by unfold convOf;rw [if_pos c1,if_neg c2]
   rw [e];exact rconvOf_code t A n cap d W nw cw B nb cb w ht hd ha hw hb (by omega) c1 c2
 ·have e:convOf t d=(noTensor,5):=by unfold convOf;rw [if_neg c1]
  rw [e];exact rconvOf_bad t A n cap d W nw cw B nb cb w ht hd ha hw hb c1
theorem rdepthOf_any (t:Tensor) (A:Option Addr) (n cap:Nat) (d:Node) (W:Option Addr) (nw cw:Nat) (B:Option Addr) (nb cb:Nat) (w:World) (ht:TensorIn t) (hd:NodeIn d)
  (ha:Sl (tInt .i8) w (blo w.heap.size) A n cap t.data) (hw:Sl (tInt .i8) w (blo w.heap.size) W nw cw d.w) (hb:Sl (tInt .i32) w (blo w.heap.size) B nb cb d.bias) (mw:nw≤2000∧nb≤200) :
  Calls Tryz.prog 38 #[.agg #[.int .i64 t.h,.int .i64 t.v,.int .i64 t.c,.slice A n cap],.agg #[.int .i64 d.kind,.int .i64 d.a,.int .i64 d.b,.int .i64 d.k,.int .i64 d.s,.int .i64 d.p,.int .i64 d.out,.int .i8 d.za,.int .i8 d.zb,.slice W nw cw,.slice B nb cb,.int .i32 d.qm,.int .i64 d.qs,.int .i8 d.qz,.int .i32 d.rm,.int .i64 d.rs,.int .i8 d.rz,.int .i8 d.lo,.int .i8 d.hi]] w (RetT .i32 (depthOf t d).1 (depthOf t d).2 w):=by
 by_cases c1:t.ok=true
 ·by_cases c2:(depthV t.h t.v t.c d).2=0
  ·exact rdepthOf_good t A n cap d W nw cw B nb cb w ht hd ha hw hb mw c1 c2
  ·have e:depthOf t d=(noTensor,(depthV t.h t.v t.c d).2):=by unfold depthOf;rw [if_pos c1,if_neg c2]
   rw [e];exact rdepthOf_code t A n cap d W nw cw B nb cb w ht hd ha hw hb (by omega) c1 c2
 ·have e:depthOf t d=(noTensor,5):=by unfold depthOf;rw [if_neg c1]
  rw [e];exact rdepthOf_bad t A n cap d W nw cw B nb cb w ht hd ha hw hb c1
end Go.Proofs.YtlbkekabmpienaaGreat
namespace Go.Proofs.YtlbkekabmpienaaGreat
set_option linter.unusedVariables false
set_option linter.unusedSimpArgs false
open Go.RowKit Go.ChangeShapes Go.WideShapes Fx
set_option maxRecDepth 100000
set_option maxHeartbeats 4000000
theorem rpoolMean_any (A:Option Addr) (n cap:Nat) (l:List Int) (w:World) (hl:Sl (tInt .i8) w (blo w.heap.size) A n cap l) (hn:n≤1024) :
  Calls Tryz.prog 70 #[.slice A n cap] w fun e w'=>e=.returned (.int .i8 (meanV l))∧Below w.heap.size w w':=by
 have H:=zH hl
 unfold meanV
 rw [hl.n_eq]
 have LE:=zH (fun k=>sumL_le (fun i=>hl.allK i) k)
 clear hl
 go_enter Tryz.func70,Tryz.ntmps70
 go_wp2_with fail
 go_loopw [3,4] (fun u ii wr=>∃ k:Nat,k≤n∧ii=.int .i64 k∧u=.int .i64 (sumL l k)∧w=wr) (fun _ ii _=>n - (intOf ii).toNat)
 case atStart=>exact ⟨0,Nat.zero_le _,rfl,rfl,rfl⟩
 case round =>
  obtain ⟨k,hk,rfl,rfl,rfl⟩:=hrel
  have b1:=LE.out k
  by_cases hlt:k < n
  ·have p1:(k:Int) < (n:Int):=by omega
   have b2:=LE.out (k+1)
   obtain ⟨b,o,rfl,-,-,cx,ix⟩:=H.out.int_at k hlt
   have hs:sumL l (k+1)=sumL l k+l.getD k 0:=rfl
   obtain ⟨x,hx⟩:∃ x,l.getD k 0=x:=⟨_,rfl⟩
   rw [hx] at cx ix hs
   rw [inK_i8] at ix
   obtain ⟨i1,i2⟩:=ix
   have HS:=zH hs
   obtain ⟨sv,hsv⟩:∃ x,sumL l k=x:=⟨_,rfl⟩
   rw [hsv] at b1 HS ⊢
   clear hx hs hsv
   go_wp2_with fail
   exact ⟨⟨k+1,by omega,by go_num,by rw [HS.out],by trivial⟩,by simp [intOf];omega⟩
  ·obtain rfl:k=n:=by omega
   have NE:=zH (fun w=>rpoolNear_any (sumL l k) k w hn (by omega) (by omega))
   go_wp2_with (go_at_call 107;refine (NE.out _).mono ?_;rintro e w2 ⟨rfl,hb⟩)
   go_ret
   exact ⟨rfl,hb⟩
end Go.Proofs.YtlbkekabmpienaaGreat
set_option linter.unusedVariables false
set_option linter.unusedSimpArgs false
namespace Go.Proofs.YtlbkekabmpienaaGreat
open Go.RowKit Go.ChangeShapes Go.WideShapes
set_option maxRecDepth 100000
theorem sameAcc_any (t:Tensor) (A A':Option Addr) (n cap n' cap':Nat) (w:World) (h:Sl (tInt .i32) w (blo w.heap.size) A n cap t.data) (h':Sl (tInt .i32) w (blo w.heap.size) A' n' cap' t.data) :
  Calls Tryz.prog 13 #[.agg #[.int .i64 t.h,.int .i64 t.v,.int .i64 t.c,.slice A n cap],.agg #[.int .i64 t.h,.int .i64 t.v,.int .i64 t.c,.slice A' n' cap']] w fun e w'=>e=.returned (.bool true)∧Below w.heap.size w w':=by
 have H:=zH h
 have H':=zH h'
 clear h h'
 go_enter Tryz.func13,Tryz.ntmps13
 go_wp2_with fail
 have g1:Below w.heap.size w ((w.alloc (.cells #[.int .i64 t.h,.int .i64 t.v,.int .i64 t.c,.slice A n cap] 41)).alloc (.cells #[.int .i64 t.h,.int .i64 t.v,.int .i64 t.c,.slice A' n' cap'] 41)):=by go_grown
 refine (same32_any _ _ _ _ _ _ _ _ (H.out.later g1 (Nat.le_refl _)) (H'.out.later g1 (Nat.le_refl _))).mono ?_
 rintro e w' ⟨rfl,hb⟩
 have g2:=below_call g1 hb (by simp;omega)
 clear hb g1
 go_wp2_with fail
 go_ret
 exact ⟨rfl,g2⟩
end Go.Proofs.YtlbkekabmpienaaGreat
