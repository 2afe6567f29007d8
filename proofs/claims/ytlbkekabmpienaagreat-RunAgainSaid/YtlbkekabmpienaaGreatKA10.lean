/-
  fixAll_any, told with cells that may be written (for the law RunAgain).
  actPut_any, told with cells that may be written (for the law RunAgain).
  summed_any, told with cells that may be written (for the law RunAgain).
-/
import Derived.StillTailTactics
import Derived.Test.YtlbkekabmpienaaGreatJ18
import Derived.Test.YtlbkekabmpienaaGreatKA00
import Derived.Test.YtlbkekabmpienaaGreatJ00
import Derived.Test.YtlbkekabmpienaaGreatJ14
import Derived.Test.YtlbkekabmpienaaGreatJ11
import Derived.Test.YtlbkekabmpienaaGreatJ06
import Derived.Test.YtlbkekabmpienaaGreatJ01
import Derived.Test.YtlbkekabmpienaaGreatJ13
import Derived.Test.YtlbkekabmpienaaGreatJ02
import Derived.Test.YtlbkekabmpienaaGreatJ05
import Derived.Test.YtlbkekabmpienaaGreatJ04
import Derived.Test.YtlbkekabmpienaaGreatJ03
import Derived.Test.YtlbkekabmpienaaGreatJ10
import Derived.Test.YtlbkekabmpienaaGreatJ30
import Derived.Test.YtlbkekabmpienaaGreatJ29
import Derived.Test.YtlbkekabmpienaaGreatJ24
import Derived.Test.YtlbkekabmpienaaGreatJ17
import Derived.Test.YtlbkekabmpienaaGreatJ22
import Derived.Test.YtlbkekabmpienaaGreatJ23
import Derived.Test.YtlbkekabmpienaaGreatJ15
import Derived.Test.YtlbkekabmpienaaGreatJ19
import Derived.Test.YtlbkekabmpienaaGreatJ20
import Derived.Test.YtlbkekabmpienaaGreatJ21
import Derived.Test.YtlbkekabmpienaaGreatJ07
import Derived.Test.YtlbkekabmpienaaGreatJ08
import Derived.Test.YtlbkekabmpienaaGreatJ09
import Derived.Test.YtlbkekabmpienaaGreatJ16
import Derived.Test.YtlbkekabmpienaaGreatJ12
namespace Go.Proofs.YtlbkekabmpienaaGreat
set_option linter.unusedVariables false
set_option linter.unusedSimpArgs false
open Go.RowKit Go.ChangeShapes Go.WideShapes Fx
set_option maxRecDepth 100000
set_option maxHeartbeats 4000000
theorem fixAll_anyW (A:Option Addr) (n cap:Nat) (l:List Int) (m s z lo hi:Int) (w:World) (hl:Sl (tInt .i32) w (blo w.heap.size) A n cap l) (hn:n≤1073741824) (hm:InK .i32 m) (hz:InK .i8 z) (hlo:InK .i8 lo) (hhi:InK .i8 hi) (hq:quantOk m s=true) :
  Calls Tryz.prog 105 #[.slice A n cap,.agg #[.int .i32 m,.int .i64 s,.int .i8 z],.int .i8 lo,.int .i8 hi] w (RetSW .i8 w (allQ l m s z lo hi)):=by
 have HL:=zH hl
 have QR:=zH (fun w=>fixRight_any m s z w)
 rw [hq] at QR
 rw [allQ_range hl.n_eq]
 have HD:=zH (fun x (hx:InK .i32 x) w=>fixHeld_any x m s z lo hi w hx hm hz hlo hhi)
 have mx:n≤9223372036854775807:=by omega
 have FR:=zH (Far.refl w)
 obtain ⟨w1,hw_w1,BQ,k_w1⟩:=nB w #[.int .i32 m,.int .i64 s,.int .i8 z] 26
 replace FR:=zH (FR.out.fut k_w1)
 clear k_w1
 have l1:w.heap.size < w1.heap.size:=by rw [← hw_w1];simp
 have d0:=BQ.out.cell 0
 have d1:=BQ.out.cell 1
 have d2:=BQ.out.cell 2
 clear hq hm hz hlo hhi hl
 go_enter Tryz.func105,Tryz.ntmps105
 go_wp2_with (first|(go_at_call 50;refine (QR.out _).mono ?_;rintro e w2 ⟨rfl,hb⟩;have l2:=hb.size;replace FR:=zH (FR.out.fut hb);replace BQ:=zH (BQ.out.fut hb);clear hb d0 d1 d2 hw_w1)|(at_make;refine wpList_make (t:=tInt .i8) (S:=fun _=>False) (base:=w1.heap.size) rfl _ _ rfl ei_b8 .i64 .i64 _ _ n rfl rfl rfl rfl ?_ ?_ ?_ 0 ⟨rfl,by decide⟩ (fun _ h=>h.elim) ?_;rotate_right;intro w3 hown hg))
 rotate_left
 ·omega
 ·unfold maxLen;omega
 ·omega
 have kb:Below w2.heap.size w2 w3:=(Below.refl _ _).grown hg (Nat.le_refl _) (by simp)
 replace hown:=(filling_zero 0 (fun i=>heldQ (l.getD i 0) m s z lo hi) n).symm ▸ hown
 have ON:=zH hown
 have LG:=zH (show w.heap.size < w2.heap.size by omega)
 replace FR:=zH (FR.out.fut kb)
 replace BQ:=zH (BQ.out.fut kb)
 clear kb
 clear hown hg QR
 go_loopw [19] (fun ii wr=>∃ k:Nat,k≤n∧ii=.int .i64 k∧Far w wr∧Blk wr w.heap.size 26 #[.int .i32 m,.int .i64 s,.int .i8 z]∧Own (tInt .i8) wr (fun _=>False) w1.heap.size 22 (.slice (some ⟨w2.heap.size,0,none⟩) n n) n (filling 0 (fun i=>heldQ (l.getD i 0) m s z lo hi) n k)) (fun ii _=>n - (intOf ii).toNat)
 case atStart=>exact ⟨0,Nat.zero_le _,rfl,FR.out,BQ.out,ON.out⟩
 case round =>
  obtain ⟨k,hk,rfl,hf,hbq,hon⟩:=hrel
  clear FR BQ ON
  have FR:=zH hf
  have BQ:=zH hbq
  have ON:=zH hon
  clear hf hbq hon
  by_cases hlt:k < n
  ·have p1:(k:Int) < (n:Int):=by omega
   go_wp2_with fail
   obtain ⟨b,o,rfl,-,-,cx,ix⟩:=((Old.now HL.out).fut FR.out.out).all.int_at k hlt
   have FS:=zH (filling_set 0 (fun i=>heldQ (l.getD i 0) m s z lo hi) n k hlt)
   obtain ⟨x,hx⟩:∃ x,l.getD k 0=x:=⟨_,rfl⟩
   rw [hx] at cx ix
   have CX:=zH (HD.out x ix)
   have FE:=zH (show heldQ (l.getD k 0) m s z lo hi=heldQ x m s z lo hi by rw [hx])
   obtain ⟨res,hres⟩:∃ r,heldQ x m s z lo hi=r:=⟨_,rfl⟩
   rw [hres] at CX FE
   have RE:=zH (show InK .i8 res by rw [← hres];exact heldQ_in _ _ _ _ _ _)
   clear hx hres
   refine wp_region_T (fun w'=>w'.cell? ⟨b,o+k,none⟩=some (.int .i32 x)∧Blk w' w.heap.size 26 #[.int .i32 m,.int .i64 s,.int .i8 z]∧Below wr.drew.heap.size wr.drew w') 10 (by kernel_rfl) ?_ (fun hS=>?_)
   ·exact ⟨cell_later ((Below.refl _ _).drew) cx,BQ.out.drew,Below.refl _ _⟩
   refine tkT 0 rfl (v:=?_) (Or.inl ⟨by rfl,?_⟩) hS ?_
   rotate_left
   ·intro w hSw;(try dsimp only at hSw);go_simp;try with_reducible rfl
   try simp only [pX]
   refine tkT 1 rfl (v:=?_) (Or.inl ⟨by rfl,?_⟩) hS ?_
   rotate_left
   ·intro w hSw;(try dsimp only at hSw);go_simp;try with_reducible rfl
   try simp only [pX]
   refine tkT 2 rfl (v:=?_) (Or.inl ⟨by rfl,?_⟩) hS ?_
   rotate_left
   ·intro w hSw;(try dsimp only at hSw);go_simp;try with_reducible rfl
   try simp only [pX]
   refine tkT 3 rfl (v:=?_) (Or.inl ⟨by rfl,?_⟩) hS ?_
   rotate_left
   ·intro w hSw;(try dsimp only at hSw);go_simp;try with_reducible rfl
   try simp only [pX]
   refine tkT 4 rfl (v:=?_) (Or.inl ⟨by rfl,?_⟩) hS ?_
   rotate_left
   ·intro w hSw;(try dsimp only at hSw);go_simp;try with_reducible rfl
   try simp only [pX]
   refine tkT 5 rfl (v:=?_) (Or.inl ⟨by rfl,?_⟩) hS ?_
   rotate_left
   ·intro w hSw;(try dsimp only at hSw);go_simp;try with_reducible rfl
   try simp only [pX]
   refine tkT 6 rfl (yieldsIf_load_blk (by rfl) 26 (.tmp 5) rfl w.heap.size 0 rfl _ _ #[.int .i32 m,.int .i64 s,.int .i8 z] _ (fun w hs=>hs.2.1) Tryz.underlying26 rfl (by kernel_rfl) rfl) hS ?_
   try simp only [pX]
   refine tkT 7 rfl (v:=?_) (Or.inl ⟨by rfl,?_⟩) hS ?_
   rotate_left
   ·intro w hSw;(try dsimp only at hSw);go_simp;try with_reducible rfl
   try simp only [pX]
   refine tkT 8 rfl (v:=?_) (Or.inl ⟨by rfl,?_⟩) hS ?_
   rotate_left
   ·intro w hSw;(try dsimp only at hSw);go_simp;try with_reducible rfl
   try simp only [pX]
   refine wpAnyT_one (i:=9) (by kernel_rfl) rfl rfl (fun K hK=>?_)
   go_simp
   refine (CX.out _).mono ?_;rintro e wm ⟨rfl,hb⟩
   refine hK.out _ _ ?_ (fun hS=>?_)
   ·exact ⟨(by first|exact cell_later hb hS.1|exact Blk.later hS.1 hb),(by first|exact cell_later hb hS.2.1|exact Blk.later hS.2.1 hb),(by first|exact below_later hb hS.2.2|exact grown_below hS.2.2 hb)⟩
   clear hK K
   try simp only [pX]
   refine wpAnyT_tail _ _ rfl rfl (by kernel_rfl) ?_
   have kd:=(show Below wr.heap.size wr wr.drew from (Below.refl _ _).drew).trans hb
   replace ON:=zH (ON.out.below kd (Nat.le_refl _) (fun _ h=>h.elim))
   replace FR:=zH (FR.out.fut kd)
   replace BQ:=zH (BQ.out.fut kd)
   clear hS hb kd cx
   obtain ⟨x1,u1,-,-,c5,c6,c7,-⟩:=ON.out.cell rfl k hlt
   go_wp2_with fail
   obtain ⟨o3,g3⟩:=ON.out.set1 rfl k (.int .i8 res) res ⟨rfl,RE.out⟩ (fun _ h=>h.elim)
   have fs:=FS.out
   rw [FE.out] at fs
   rw [fs] at o3
   have lg:=LG.out
   exact ⟨⟨k+1,by omega,by go_num,FR.out.away g3 (by omega),BQ.out.away g3 (.inl lg),o3⟩,by simp [intOf];omega⟩
  ·obtain rfl:k=n:=by omega
   go_wp2_with fail
   go_ret
   have e:=ON.out
   rw [filling_all] at e
   obtain ⟨A2,c2,hv,sl⟩:=e.sl (S':=bin w.heap.size _) (by decide) (fun b h1 h2=>⟨by omega,h2⟩) (fun b h=>h.elim)
   injection hv with hv1 hv2 hv3
   subst hv1 hv3
   exact ⟨_,_,_,rfl,sl,FR.out.out,own_un e⟩
end Go.Proofs.YtlbkekabmpienaaGreat
namespace Go.Proofs.YtlbkekabmpienaaGreat
set_option linter.unusedVariables false
set_option linter.unusedSimpArgs false
open Go.RowKit Go.ChangeShapes Go.WideShapes Fx
set_option maxRecDepth 100000
set_option maxHeartbeats 4000000
theorem actPut_anyW (a:Tensor) (A:Option Addr) (n cap:Nat) (d:Node) (W:Option Addr) (nw cw:Nat) (B:Option Addr) (nb cb:Nat) (w:World) (ht:TensorIn a) (hd:NodeIn d)
  (ha:Sl (tInt .i32) w (blo w.heap.size) A n cap a.data) (he:elems a.h a.v a.c=n) (hn:0 < n) (hn2:n≤1024) :
  Calls Tryz.prog 63 #[.agg #[.int .i64 a.h,.int .i64 a.v,.int .i64 a.c,.slice A n cap],.agg #[.int .i64 d.kind,.int .i64 d.a,.int .i64 d.b,.int .i64 d.k,.int .i64 d.s,.int .i64 d.p,.int .i64 d.out,.int .i8 d.za,.int .i8 d.zb,.slice W nw cw,.slice B nb cb,.int .i32 d.qm,.int .i64 d.qs,.int .i8 d.qz,.int .i32 d.rm,.int .i64 d.rs,.int .i8 d.rz,.int .i8 d.lo,.int .i8 d.hi]] w (RetW .i8 (putQ a d).1 (putQ a d).2 w):=by
 have EL:=zH (fun w=>elems_any a.h a.c a.v w ht.h ht.v ht.c)
 rw [he] at EL
 have QR:=zH (fun w=>fixRight_any d.qm d.qs d.qz w)
 have HA:=zH ha
 have HD:=zH hd
 have FR:=zH (Far.refl w)
 obtain ⟨w1,hw_w1,BA,k_w1⟩:=nB w #[.int .i64 a.h,.int .i64 a.v,.int .i64 a.c,.slice A n cap] 41
 replace FR:=zH (FR.out.fut k_w1)
 clear k_w1
 obtain ⟨w2,hw_w2,BN,k_w2⟩:=nB w1 #[.int .i64 d.kind,.int .i64 d.a,.int .i64 d.b,.int .i64 d.k,.int .i64 d.s,.int .i64 d.p,.int .i64 d.out,.int .i8 d.za,.int .i8 d.zb,.slice W nw cw,.slice B nb cb,.int .i32 d.qm,.int .i64 d.qs,.int .i8 d.qz,.int .i32 d.rm,.int .i64 d.rs,.int .i8 d.rz,.int .i8 d.lo,.int .i8 d.hi] 28
 replace FR:=zH (FR.out.fut k_w2)
 replace BA:=zH (BA.out.fut k_w2)
 clear k_w2
 obtain ⟨w3,hw_w3,BR,k_w3⟩:=nB w2 #[.int .i64 0,.int .i64 0,.int .i64 0,.slice none 0 0] 32
 replace FR:=zH (FR.out.fut k_w3)
 replace BA:=zH (BA.out.fut k_w3)
 replace BN:=zH (BN.out.fut k_w3)
 clear k_w3
 have l1:w.heap.size < w1.heap.size:=by rw [← hw_w1];simp
 have l2:w1.heap.size < w2.heap.size:=by rw [← hw_w2];simp
 have n0:¬ n=0:=by omega
 have HQ:=zH (show putQ a d=if quantOk d.qm d.qs=true then (⟨a.h,a.v,a.c,allQ a.data d.qm d.qs d.qz d.lo d.hi⟩,0) else (noTensor,7) from rfl)
 obtain ⟨x,hx⟩:∃ x,putQ a d=x:=⟨_,rfl⟩
 rw [hx] at HQ ⊢
 obtain ⟨q,hq⟩:∃ q,quantOk d.qm d.qs=q:=⟨_,rfl⟩
 rw [hq] at QR HQ
 have QQ:=zH hq
 have c3:=BA.out.cell 3
 clear ht hd ha he hx hq hn
 cases q with
 | false =>
  rw [if_neg (by decide)] at HQ
  rw [HQ.out]
  go_enter Tryz.func63,Tryz.ntmps63
  go_wp2_with (first|(refine wpList_load_blk rfl 30 (.tmp 7) rfl w.heap.size 0 rfl _ #[.int .i64 a.h,.int .i64 a.v,.int .i64 a.c,.slice A n cap] #[.int .i64 a.h,.int .i64 a.v,.int .i64 a.c] _ BA.out Tryz.underlying30 rfl (by kernel_rfl) rfl ?_)|(go_at_call 51;refine (EL.out _).mono ?_;rintro e wa ⟨rfl,hb⟩;replace FR:=zH (FR.out.fut hb);replace BA:=zH (BA.out.fut hb);replace BN:=zH (BN.out.fut hb);replace BR:=zH (BR.out.fut hb);clear hb;clear c3;have c3:=BA.out.cell 3)|(refine wpList_load_blk rfl 26 (.tmp 20) rfl w1.heap.size 11 rfl _ #[.int .i64 d.kind,.int .i64 d.a,.int .i64 d.b,.int .i64 d.k,.int .i64 d.s,.int .i64 d.p,.int .i64 d.out,.int .i8 d.za,.int .i8 d.zb,.slice W nw cw,.slice B nb cb,.int .i32 d.qm,.int .i64 d.qs,.int .i8 d.qz,.int .i32 d.rm,.int .i64 d.rs,.int .i8 d.rz,.int .i8 d.lo,.int .i8 d.hi] #[.int .i32 d.qm,.int .i64 d.qs,.int .i8 d.qz] _ BN.out Tryz.underlying26 rfl (by kernel_rfl) rfl ?_)|(go_at_call 50;refine (QR.out _).mono ?_;rintro e wb ⟨rfl,hb⟩;replace FR:=zH (FR.out.fut hb);replace BA:=zH (BA.out.fut hb);replace BN:=zH (BN.out.fut hb);replace BR:=zH (BR.out.fut hb);clear hb)|(refine sB 32 (.tmp 4) (.tmp 24) w2.heap.size #[.int .i64 0,.int .i64 0,.int .i64 0,.slice none 0 0] BR.out ?_;intro w9 B9 g9))
  refine ret_cell_tmp rfl B9 rfl Tryz.underlying32 (by kernel_rfl) rfl ?_
  exact RetW.none (FR.out.away g9 (by omega)).out
 | true =>
  rw [if_pos rfl] at HQ
  rw [HQ.out]
  go_enter Tryz.func63,Tryz.ntmps63
  go_wp2_with (first|(refine wpList_load_blk rfl 30 (.tmp 7) rfl w.heap.size 0 rfl _ #[.int .i64 a.h,.int .i64 a.v,.int .i64 a.c,.slice A n cap] #[.int .i64 a.h,.int .i64 a.v,.int .i64 a.c] _ BA.out Tryz.underlying30 rfl (by kernel_rfl) rfl ?_)|(go_at_call 51;refine (EL.out _).mono ?_;rintro e wa ⟨rfl,hb⟩;replace FR:=zH (FR.out.fut hb);replace BA:=zH (BA.out.fut hb);replace BN:=zH (BN.out.fut hb);replace BR:=zH (BR.out.fut hb);clear hb;clear c3;have c3:=BA.out.cell 3)|(refine wpList_load_blk rfl 26 (.tmp 20) rfl w1.heap.size 11 rfl _ #[.int .i64 d.kind,.int .i64 d.a,.int .i64 d.b,.int .i64 d.k,.int .i64 d.s,.int .i64 d.p,.int .i64 d.out,.int .i8 d.za,.int .i8 d.zb,.slice W nw cw,.slice B nb cb,.int .i32 d.qm,.int .i64 d.qs,.int .i8 d.qz,.int .i32 d.rm,.int .i64 d.rs,.int .i8 d.rz,.int .i8 d.lo,.int .i8 d.hi] #[.int .i32 d.qm,.int .i64 d.qs,.int .i8 d.qz] _ BN.out Tryz.underlying26 rfl (by kernel_rfl) rfl ?_)|(go_at_call 50;refine (QR.out _).mono ?_;rintro e wb ⟨rfl,hb⟩;replace FR:=zH (FR.out.fut hb);replace BA:=zH (BA.out.fut hb);replace BN:=zH (BN.out.fut hb);replace BR:=zH (BR.out.fut hb);clear hb))
  have fd:Below w.heap.size w wb.drew:=FR.out.out.drew
  refine wp_region_T (fun w'=>w'.cell? ⟨w.heap.size,3,none⟩=some (.slice A n cap)∧w'.cell? ⟨w1.heap.size,17,none⟩=some (.int .i8 d.lo)∧w'.cell? ⟨w1.heap.size,18,none⟩=some (.int .i8 d.hi)∧Blk w' w.heap.size 41 #[.int .i64 a.h,.int .i64 a.v,.int .i64 a.c,.slice A n cap]∧Blk w' w1.heap.size 28 #[.int .i64 d.kind,.int .i64 d.a,.int .i64 d.b,.int .i64 d.k,.int .i64 d.s,.int .i64 d.p,.int .i64 d.out,.int .i8 d.za,.int .i8 d.zb,.slice W nw cw,.slice B nb cb,.int .i32 d.qm,.int .i64 d.qs,.int .i8 d.qz,.int .i32 d.rm,.int .i64 d.rs,.int .i8 d.rz,.int .i8 d.lo,.int .i8 d.hi]∧Below wb.drew.heap.size wb.drew w') 12 (by kernel_rfl) ?_ (fun hS=>?_)
  ·exact ⟨BA.out.drew.cell 3,BN.out.drew.cell 17,BN.out.drew.cell 18,BA.out.drew,BN.out.drew,Below.refl _ _⟩
  refine tkT 0 rfl (v:=?_) (Or.inl ⟨by rfl,?_⟩) hS ?_
  rotate_left
  ·intro w hSw;(try dsimp only at hSw);go_simp;try with_reducible rfl
  try simp only [pX]
  refine tkT 1 rfl (yieldsIf_load_blk (by rfl) 30 (.tmp 25) rfl w.heap.size 0 rfl _ #[.int .i64 a.h,.int .i64 a.v,.int .i64 a.c,.slice A n cap] #[.int .i64 a.h,.int .i64 a.v,.int .i64 a.c] _ (fun w hs=>hs.2.2.2.1) Tryz.underlying30 rfl (by kernel_rfl) rfl) hS ?_
  try simp only [pX]
  refine tkT 2 rfl (v:=?_) (Or.inl ⟨by rfl,?_⟩) hS ?_
  rotate_left
  ·intro w hSw;(try dsimp only at hSw);go_simp;try with_reducible rfl
  try simp only [pX]
  refine tkT 3 rfl (v:=?_) (Or.inl ⟨by rfl,?_⟩) hS ?_
  rotate_left
  ·intro w hSw;(try dsimp only at hSw);go_simp;try with_reducible rfl
  try simp only [pX]
  refine tkT 4 rfl (v:=?_) (Or.inl ⟨by rfl,?_⟩) hS ?_
  rotate_left
  ·intro w hSw;(try dsimp only at hSw);go_simp;try with_reducible rfl
  try simp only [pX]
  refine tkT 5 rfl (yieldsIf_load_blk (by rfl) 26 (.tmp 29) rfl w1.heap.size 11 rfl _ #[.int .i64 d.kind,.int .i64 d.a,.int .i64 d.b,.int .i64 d.k,.int .i64 d.s,.int .i64 d.p,.int .i64 d.out,.int .i8 d.za,.int .i8 d.zb,.slice W nw cw,.slice B nb cb,.int .i32 d.qm,.int .i64 d.qs,.int .i8 d.qz,.int .i32 d.rm,.int .i64 d.rs,.int .i8 d.rz,.int .i8 d.lo,.int .i8 d.hi] #[.int .i32 d.qm,.int .i64 d.qs,.int .i8 d.qz] _ (fun w hs=>hs.2.2.2.2.1) Tryz.underlying26 rfl (by kernel_rfl) rfl) hS ?_
  try simp only [pX]
  refine tkT 6 rfl (v:=?_) (Or.inl ⟨by rfl,?_⟩) hS ?_
  rotate_left
  ·intro w hSw;(try dsimp only at hSw);go_simp;try with_reducible rfl
  try simp only [pX]
  refine tkT 7 rfl (v:=?_) (Or.inl ⟨by rfl,?_⟩) hS ?_
  rotate_left
  ·intro w hSw;(try dsimp only at hSw);go_simp;try with_reducible rfl
  try simp only [pX]
  refine tkT 8 rfl (v:=?_) (Or.inl ⟨by rfl,?_⟩) hS ?_
  rotate_left
  ·intro w hSw;(try dsimp only at hSw);go_simp;try with_reducible rfl
  try simp only [pX]
  refine tkT 9 rfl (v:=?_) (Or.inl ⟨by rfl,?_⟩) hS ?_
  rotate_left
  ·intro w hSw;(try dsimp only at hSw);go_simp;try with_reducible rfl
  try simp only [pX]
  refine wpAnyT_one (i:=10) (by kernel_rfl) rfl rfl (fun K hK=>?_)
  go_simp
  refine (fixAll_anyW A n cap a.data d.qm d.qs d.qz d.lo d.hi _ ((Old.now HA.out).fut fd).all (by omega) HD.out.qm HD.out.qz HD.out.lo HD.out.hi QQ.out).mono ?_;rintro e wm ⟨RA,rn,rc,rfl,rs,hb,un⟩;have UN:=zH un;clear un
  refine hK.out _ _ ?_ (fun hS=>?_)
  ·exact ⟨(by first|exact cell_later hb hS.1|exact Blk.later hS.1 hb),(by first|exact cell_later hb hS.2.1|exact Blk.later hS.2.1 hb),(by first|exact cell_later hb hS.2.2.1|exact Blk.later hS.2.2.1 hb),(by first|exact cell_later hb hS.2.2.2.1|exact Blk.later hS.2.2.2.1 hb),(by first|exact cell_later hb hS.2.2.2.2.1|exact Blk.later hS.2.2.2.2.1 hb),(by first|exact below_later hb hS.2.2.2.2.2|exact grown_below hS.2.2.2.2.2 hb)⟩
  clear hK K
  try simp only [pX]
  refine tkT 11 rfl (v:=?_) (Or.inl ⟨by rfl,?_⟩) hS ?_
  rotate_left
  ·intro w hSw;(try dsimp only at hSw);go_simp;try with_reducible rfl
  try simp only [pX]
  refine wpAnyT_tail _ _ rfl rfl (by kernel_rfl) ?_
  have kd:=(show Below wb.heap.size wb wb.drew from (Below.refl _ _).drew).trans hb
  have RS:=zH (show New wb (tInt .i8) wm RA rn rc (allQ a.data d.qm d.qs d.qz d.lo d.hi) from ⟨rs⟩)
  have BR5:=zH (BR.out.fut kd)
  replace FR:=zH (FR.out.fut kd)
  have lbr:=BR.out.lt
  clear hS hb rs kd
  go_wp2_with (refine sB 32 (.tmp 4) (.tmp 36) w2.heap.size #[.int .i64 a.h,.int .i64 a.v,.int .i64 a.c,.slice RA rn rc] BR5.out ?_;intro w9 B9 g9)
  refine ret_cell_tmp rfl B9 rfl Tryz.underlying32 (by kernel_rfl) rfl ?_
  exact ⟨RA,rn,rc,rfl,(RS.out.away g9 lbr).out.more (bin_more (by omega) (Nat.le_refl _)),(FR.out.away g9 (by omega)).out,un_away RS.out UN.out g9 lbr⟩
end Go.Proofs.YtlbkekabmpienaaGreat
namespace Go.Proofs.YtlbkekabmpienaaGreat
set_option linter.unusedVariables false
set_option linter.unusedSimpArgs false
open Go.RowKit Go.ChangeShapes Go.WideShapes
set_option maxRecDepth 100000
set_option maxHeartbeats 4000000
theorem summed_anyW (t:Tensor) (A:Option Addr) (n cap:Nat) (d:Node) (W:Option Addr) (nw cw:Nat) (B:Option Addr) (nb cb:Nat) (w:World) (ht:TensorIn t) (hd:NodeIn d)
  (ha:Sl (tInt .i8) w (blo w.heap.size) A n cap t.data) (hw:Sl (tInt .i8) w (blo w.heap.size) W nw cw d.w) (hb:Sl (tInt .i32) w (blo w.heap.size) B nb cb d.bias) (mw:nw≤2000∧nb≤200) :
  Calls Tryz.prog 24 #[.agg #[.int .i64 d.kind,.int .i64 d.a,.int .i64 d.b,.int .i64 d.k,.int .i64 d.s,.int .i64 d.p,.int .i64 d.out,.int .i8 d.za,.int .i8 d.zb,.slice W nw cw,.slice B nb cb,.int .i32 d.qm,.int .i64 d.qs,.int .i8 d.qz,.int .i32 d.rm,.int .i64 d.rs,.int .i8 d.rz,.int .i8 d.lo,.int .i8 d.hi],.agg #[.int .i64 t.h,.int .i64 t.v,.int .i64 t.c,.slice A n cap]] w (RetW .i8 (sumQ t d).1 (sumQ t d).2 w):=by
 have HA:=zH ha
 have HW:=zH hw
 have HB:=zH hb
 have SM:=zH (fun w (ha:Sl (tInt .i8) w (blo w.heap.size) A n cap t.data) (hw:Sl (tInt .i8) w (blo w.heap.size) W nw cw d.w) (hb:Sl (tInt .i32) w (blo w.heap.size) B nb cb d.bias)=>runSum_any t A n cap d W nw cw B nb cb w ht hd ha hw hb mw)
 have SN:=zH (sum_nat t d)
 unfold sumQ
 obtain ⟨⟨y,k⟩,hy⟩:∃ q,sumOf t d=q:=⟨_,rfl⟩
 rw [hy] at SM SN ⊢
 obtain ⟨x,hx⟩:∃ x,(if k=0 then putQ y d else (noTensor,k))=x:=⟨_,rfl⟩
 rw [show (if (y,k).2=0 then putQ (y,k).1 d else (noTensor,(y,k).2))=x from hx]
 have HX:=zH hx
 have HD:=zH hd
 have FR:=zH (Far.refl w)
 obtain ⟨w1,hw_w1,BN,k_w1⟩:=nB w #[.int .i64 d.kind,.int .i64 d.a,.int .i64 d.b,.int .i64 d.k,.int .i64 d.s,.int .i64 d.p,.int .i64 d.out,.int .i8 d.za,.int .i8 d.zb,.slice W nw cw,.slice B nb cb,.int .i32 d.qm,.int .i64 d.qs,.int .i8 d.qz,.int .i32 d.rm,.int .i64 d.rs,.int .i8 d.rz,.int .i8 d.lo,.int .i8 d.hi] 28
 replace FR:=zH (FR.out.fut k_w1)
 clear k_w1
 obtain ⟨w2,hw_w2,BA,k_w2⟩:=nB w1 #[.int .i64 t.h,.int .i64 t.v,.int .i64 t.c,.slice A n cap] 32
 replace FR:=zH (FR.out.fut k_w2)
 replace BN:=zH (BN.out.fut k_w2)
 clear k_w2
 obtain ⟨w3,hw_w3,BR,k_w3⟩:=nB w2 #[.int .i64 0,.int .i64 0,.int .i64 0,.slice none 0 0] 32
 replace FR:=zH (FR.out.fut k_w3)
 replace BN:=zH (BN.out.fut k_w3)
 replace BA:=zH (BA.out.fut k_w3)
 clear k_w3
 have l1:w.heap.size < w1.heap.size:=by rw [← hw_w1];simp
 have l2:w1.heap.size < w2.heap.size:=by rw [← hw_w2];simp
 have l3:w2.heap.size < w3.heap.size:=by rw [← hw_w3];simp
 clear ht hd ha hw hb hy mw hx
 go_enter Tryz.func24,Tryz.ntmps24
 go_wp2_with (first|(refine lB 28 (.tmp 2) w.heap.size BN.out Tryz.underlying28 ?_)|(refine lB 32 (.tmp 3) w1.heap.size BA.out Tryz.underlying32 ?_))
 refine (SM.out _ ((Old.now HA.out).fut FR.out.out).all ((Old.now HW.out).fut FR.out.out).all ((Old.now HB.out).fut FR.out.out).all).mono ?_
 rintro e w4 ⟨RA,rn,rc,rfl,rs,hb⟩
 have RS:=zH (show New w3 (tInt .i32) w4 RA rn rc y.data from ⟨rs⟩)
 have ern:=rs.n_eq
 have l4:=hb.size
 clear rs hw_w1 hw_w2 hw_w3
 replace FR:=zH (FR.out.fut hb)
 replace BN:=zH (BN.out.fut hb)
 replace BA:=zH (BA.out.fut hb)
 replace BR:=zH (BR.out.fut hb)
 clear hb
 obtain ⟨w5,hw_w5,BX,k_w5⟩:=nB w4 #[.int .i64 y.h,.int .i64 y.v,.int .i64 y.c,.slice RA rn rc] 41
 replace FR:=zH (FR.out.fut k_w5)
 replace BN:=zH (BN.out.fut k_w5)
 replace BA:=zH (BA.out.fut k_w5)
 replace BR:=zH (BR.out.fut k_w5)
 replace RS:=zH (RS.out.fut k_w5)
 clear k_w5
 have l5:w4.heap.size < w5.heap.size:=by rw [← hw_w5];simp
 by_cases k0:k=0
 ·subst k0
  have hx:=HX.out
  rw [if_pos rfl] at hx
  obtain ⟨e1,e2,e3,e4⟩:=SN.out rfl
  simp only [ern] at e1 e2 e3
  have AP:=zH (fun w ha=>actPut_anyW y RA rn rc d W nw cw B nb cb w e4 HD.out ha e1 e2 e3)
  rw [hx] at AP
  clear e1 e2 e3 e4 hx SN ern
  go_wp2_with (first|(refine lB 41 (.tmp 6) w4.heap.size BX.out Tryz.underlying41 ?_)|(refine lB 28 (.tmp 2) w.heap.size BN.out Tryz.underlying28 ?_))
  refine (AP.out _ RS.out.old).mono ?_
  rintro e wm ⟨RA,rn,rc,rfl,rs,hb,un⟩
  have UN:=zH un
  clear un
  have RS:=zH (show New w5 (tInt .i8) wm RA rn rc x.1.data from ⟨rs⟩)
  have lbr:=BR.out.lt
  have lfr:=FR.out.size
  replace BR:=zH (BR.out.fut hb)
  replace FR:=zH (FR.out.fut hb)
  clear hb rs hw_w5
  go_wp2_with (refine sB 32 (.tmp 4) (.tmp 21) w2.heap.size #[.int .i64 x.1.h,.int .i64 x.1.v,.int .i64 x.1.c,.slice RA rn rc] BR.out ?_;intro w9 B9 g9)
  refine ret_cell_tmp rfl B9 rfl Tryz.underlying32 (by kernel_rfl) rfl ?_
  exact ⟨RA,rn,rc,rfl,(RS.out.away g9 lbr).out.more (bin_more lfr (Nat.le_refl _)),(FR.out.away g9 (by omega)).out,un_away RS.out UN.out g9 lbr⟩
 ·have hx:=HX.out
  rw [if_neg k0] at hx
  subst hx
  have hk2:(k != 0)=true:=by rw [bne_iff_ne];exact k0
  clear k0 SN ern
  go_wp2_with (refine sB 32 (.tmp 4) (.tmp 16) w2.heap.size #[.int .i64 0,.int .i64 0,.int .i64 0,.slice none 0 0] BR.out ?_;intro w9 B9 g9)
  refine ret_cell_tmp rfl B9 rfl Tryz.underlying32 (by kernel_rfl) rfl ?_
  exact RetW.none (FR.out.away g9 (by omega)).out
end Go.Proofs.YtlbkekabmpienaaGreat
