/-
  A node that nobody takes changes nothing that goes out (the walk of the law GraphIdle).
-/
import Derived.Test.YtjkmjpjknmghlaaGreatKA04
set_option linter.unusedVariables false
set_option linter.unusedSimpArgs false
namespace Go.Proofs.YtjkmjpjknmghlaaGreat
open Go.RowKit Go.ChangeShapes Go.WideShapes
set_option maxRecDepth 100000
set_option maxHeartbeats 16000000
theorem node_rep {w:World} {S:Nat → Prop} {d:Node} {W:Option Addr} {nw cw:Nat} {B:Option Addr} {nb cb:Nat} (h:NodeIn d) (hw:Sl (tInt .i8) w S W nw cw d.w) (hb:Sl (tInt .i32) w S B nb cb d.bias):tNode.rep w S [.int .i64 d.kind,.int .i64 d.a,.int .i64 d.b,.int .i64 d.k,.int .i64 d.s,.int .i64 d.p,.int .i64 d.out,.int .i8 d.za,.int .i8 d.zb,.slice W nw cw,.slice B nb cb,.int .i32 d.qm,.int .i64 d.qs,.int .i8 d.qz,.int .i32 d.rm,.int .i64 d.rs,.int .i8 d.rz,.int .i8 d.lo,.int .i8 d.hi] d :=
 ⟨(d.kind,d.a,d.b,d.k,d.s,d.p,d.out,d.za,d.zb,d.w,d.bias,(d.qm,d.qs,d.qz),(d.rm,d.rs,d.rz),d.lo,d.hi),rfl,
  _,_,rfl,⟨rfl,h.kind⟩,_,_,rfl,⟨rfl,h.a⟩,_,_,rfl,⟨rfl,h.b⟩,_,_,rfl,⟨rfl,h.k⟩,_,_,rfl,⟨rfl,h.s⟩,_,_,rfl,⟨rfl,h.p⟩,_,_,rfl,⟨rfl,h.out⟩,_,_,rfl,⟨rfl,h.za⟩,_,_,rfl,⟨rfl,h.zb⟩,
  _,_,rfl,hw.rep,_,_,rfl,hb.rep,_,_,rfl,⟨_,_,rfl,⟨rfl,h.qm⟩,_,_,rfl,⟨rfl,h.qs⟩,rfl,h.qz⟩,_,_,rfl,⟨_,_,rfl,⟨rfl,h.rm⟩,_,_,rfl,⟨rfl,h.rs⟩,rfl,h.rz⟩,_,_,rfl,⟨rfl,h.lo⟩,rfl,h.hi⟩
theorem rep_as {w:World} {S:Nat → Prop} {d e:Node} {a' b':Int} {W:Option Addr} {nw cw:Nat} {B:Option Addr} {nb cb:Nat} (hs:e={ d with a:=a',b:=b' }) (h:NodeIn e) (hw:Sl (tInt .i8) w S W nw cw d.w) (hb:Sl (tInt .i32) w S B nb cb d.bias):tNode.rep w S [.int .i64 d.kind,.int .i64 a',.int .i64 b',.int .i64 d.k,.int .i64 d.s,.int .i64 d.p,.int .i64 d.out,.int .i8 d.za,.int .i8 d.zb,.slice W nw cw,.slice B nb cb,.int .i32 d.qm,.int .i64 d.qs,.int .i8 d.qz,.int .i32 d.rm,.int .i64 d.rs,.int .i8 d.rz,.int .i8 d.lo,.int .i8 d.hi] e:=by
 subst hs;exact node_rep h hw hb
theorem shift_in {d:Node} (h:NodeIn d) (ha:d.a≤9∧(d.kind=6 → d.b≤9)):NodeIn (shiftN d):=by
 have h1:=h.a
 have h2:=h.b
 rw [inK_i64] at h1 h2
 refine ⟨h.kind,?_,?_,h.k,h.s,h.p,h.out,h.za,h.zb,h.qm,h.qs,h.qz,h.rm,h.rs,h.rz,h.lo,h.hi⟩
 ·show InK .i64 (if 0 < d.a then d.a+1 else d.a);rw [inK_i64];split <;> omega
 ·show InK .i64 (if d.kind=6 then (if 0 < d.b then d.b+1 else d.b) else d.b);rw [inK_i64]
  by_cases q:d.kind=6
  ·have:=ha.2 q;rw [if_pos q];split <;> omega
  ·rw [if_neg q];exact h2
theorem idle_take {l:List Node} {k:Nat} {d:Node} (h:l[k]?=some d):(idleL l).take (k+1+1)=(idleL l).take (k+1) ++ [shiftN d]:=by
 apply take_snoc
 unfold idleL
 rw [List.getElem?_cons_succ,List.getElem?_map,h];rfl
theorem shift_ways (d:Node):∃ a' b',shiftN d={ d with a:=a',b:=b' }∧((0 < d.a∧a'=d.a+1) ∨ (¬ 0 < d.a∧a'=d.a))∧((d.kind=6∧0 < d.b∧b'=d.b+1) ∨ (d.kind=6∧¬ 0 < d.b∧b'=d.b) ∨ (¬ d.kind=6∧b'=d.b)):=by
 refine ⟨_,_,rfl,?_,?_⟩
 ·by_cases h:0 < d.a
  ·exact .inl ⟨h,by rw [if_pos h]⟩
  ·exact .inr ⟨h,by rw [if_neg h]⟩
 ·by_cases q:d.kind=6
  ·by_cases h:0 < d.b
   ·exact .inl ⟨q,h,by rw [if_pos q,if_pos h]⟩
   ·exact .inr (.inl ⟨q,h,by rw [if_pos q,if_neg h]⟩)
  ·exact .inr (.inr ⟨q,by rw [if_neg q]⟩)
theorem evalV_bad {l:List Node} {x:Tensor} (h:(evalV l x).2.2 ≠ 0):(evalV l x).1=noTensor:=by
 unfold evalV at *
 by_cases c:(valuesV l x).2.2=0
 ·rw [if_pos c] at h;exact absurd rfl h
 ·rw [if_neg c]
theorem evalV_zero {l:List Node} {x:Tensor} (h:(evalV l x).2.2=0):(valuesV l x).2.2=0:=by
 unfold evalV at h
 by_cases c:(valuesV l x).2.2=0
 ·exact c
 ·rw [if_neg c] at h;exact h
theorem graphIdle_any (A:Option Addr) (n cap:Nat) (l:List Node) (x:Tensor) (D:Option Addr) (m cm:Nat) (w:World) (hs:Sl tNode w (blo w.heap.size) A n cap l) (hx:TensorIn x) (hd:Sl (tInt .i8) w (blo w.heap.size) D m cm x.data) :
  Calls Tryz.prog 4 #[.slice A n cap,.agg #[.int .i64 x.h,.int .i64 x.v,.int .i64 x.c,.slice D m cm]] w fun e w'=>e=.returned (.bool true)∧Below w.heap.size w w':=by
 have hmx:n≤9223372036854775807:=Nat.le_trans hs.cap_le hs.max_le
 have FW:=zH (fun w hs=>few27_any A n cap l x.h x.v x.c D m cm w hs)
 have KN:=zH (fun w=>known27_any w)
 have EV:=zH (fun w hs hd h300 hf=>eval_any A n cap l x D m cm w hs hx hd h300 hf)
 have EI:=zH (eval_idle (l:=l) (x:=x))
 obtain ⟨⟨y,at1,k1⟩,hy⟩:∃ q,evalV l x=q:=⟨_,rfl⟩
 have EB:=zH (fun h=>evalV_bad (l:=l) (x:=x) h)
 have EK:=zH (fun h=>(shapes_there (values_ok (evalV_zero (l:=l) (x:=x) h)).2.1).2.2)
 rw [hy] at EV EI EB EK
 simp only at EI EB EK
 have HN:=zH hs.n_eq
 have HX:=zH hx
 have H:=zH hs
 have HS:=zH (Old.now hs)
 have HD:=zH (Old.now hd)
 have FR:=zH (Far.refl w)
 obtain ⟨w1,hw_w1,BA,k_w1⟩:=nB w #[.int .i64 x.h,.int .i64 x.v,.int .i64 x.c,.slice D m cm] 27
 replace FR:=zH (FR.out.fut k_w1)
 clear k_w1
 clear hs hd hx
 by_cases c7:7 < n
 ·have t1:decide ((7:Int) < (n:Int))=true:=by simp;omega
  clear c7
  go_enter Tryz.func4,Tryz.ntmps4
  go_wp2_with (first|(refine lB 27 (.tmp 3) w.heap.size BA.out Tryz.underlying27 ?_)|(go_at_call 5;refine (FW.out _ (HS.out.fut FR.out.out).all).mono ?_;rintro e w2 ⟨bb,rfl,hbb,hb⟩;have FB:=zH hbb;replace FR:=zH (FR.out.fut hb);replace BA:=zH (BA.out.fut hb);clear hb hbb hw_w1;cases bb))
  all_goals
   refine (KN.out _).mono ?_
   rintro e w5 ⟨rfl,hb⟩
   have F5:=zH (FR.out.fut hb)
   clear hb
   go_wp2_with fail
   go_ret
   exact ⟨rfl,F5.out.out⟩
 have t1:decide ((7:Int) < (n:Int))=false:=by simp;omega
 have hn7:n≤7:=by omega
 clear c7
 go_enter Tryz.func4,Tryz.ntmps4
 go_wp2_with (first|(refine lB 27 (.tmp 3) w.heap.size BA.out Tryz.underlying27 ?_)|(go_at_call 5;refine (FW.out _ (HS.out.fut FR.out.out).all).mono ?_;rintro e w2 ⟨bb,rfl,hbb,hb⟩;have FB:=zH hbb;replace FR:=zH (FR.out.fut hb);replace BA:=zH (BA.out.fut hb);clear hb hbb hw_w1;cases bb))
 ·refine (KN.out _).mono ?_
  rintro e w5 ⟨rfl,hb⟩
  have F5:=zH (FR.out.fut hb)
  clear hb
  go_wp2_with fail
  go_ret
  exact ⟨rfl,F5.out.out⟩
 obtain ⟨⟨h12,hf⟩,h300⟩:=FB.out (by trivial)
 have HF:=zH hf
 clear FB FW t1 h12 hf
 go_wp2_with (refine lB 27 (.tmp 3) w.heap.size BA.out Tryz.underlying27 ?_)
 refine (EV.out _ (HS.out.fut FR.out.out).all (HD.out.fut FR.out.out).all h300 HF.out).mono ?_
 rintro e w3 ⟨D1,m1,c1,rfl,s1,hb⟩
 simp only at s1 ⊢
 have S1:=zH s1.old
 clear s1
 replace FR:=zH (FR.out.fut hb)
 replace BA:=zH (BA.out.fut hb)
 clear hb
 by_cases ck:k1=0
 rotate_left
 ·have t4:(k1 != 0)=true:=by simpa using ck
  obtain rfl:=EB.out ck
  simp only [noTensor] at S1 ⊢
  clear ck EI EV EB EK
  obtain ⟨w4,hw_w4,BY,k_w4⟩:=nB w3 #[.int .i64 0,.int .i64 0,.int .i64 0,.slice D1 m1 c1] 27
  replace FR:=zH (FR.out.fut k_w4)
  replace BA:=zH (BA.out.fut k_w4)
  replace S1:=zH (S1.out.fut k_w4)
  clear k_w4
  go_wp2_with (first|(refine wpList_load_blk rfl 27 (.tmp 5) rfl w3.heap.size 0 rfl _ _ #[.int .i64 0,.int .i64 0,.int .i64 0,.slice D1 m1 c1] _ BY.out Tryz.underlying27 rfl (by kernel_rfl) rfl ?_)|(go_at_call 10;refine (same05_eq ⟨0,0,0,[]⟩ D1 none m1 c1 0 0 _ S1.out (Sl.nil _ _ _)).mono ?_;rintro e w5 ⟨rfl,hb⟩;replace FR:=zH (FR.out.fut hb);clear hb hw_w4)|(go_at_call 6;refine (KN.out _).mono ?_;rintro e w6 ⟨rfl,hb⟩;replace FR:=zH (FR.out.fut hb);clear hb))
  go_ret
  exact ⟨rfl,FR.out.out⟩
 subst ck
 have t4:((0:Int) != 0)=false:=rfl
 obtain ⟨ei1,ei2⟩:=EI.out (by rw [HN.out];exact hn7) rfl
 have TH:=zH (EK.out rfl)
 have E1:=zH ei1
 have E2:=zH ei2
 clear EI EB EK ei1 ei2 EV
 obtain ⟨w4,hw_w4,BY,k_w4⟩:=nB w3 #[.int .i64 y.h,.int .i64 y.v,.int .i64 y.c,.slice D1 m1 c1] 27
 replace FR:=zH (FR.out.fut k_w4)
 replace BA:=zH (BA.out.fut k_w4)
 replace S1:=zH (S1.out.fut k_w4)
 clear k_w4
 go_wp2_with (refine wpList_lit1 rfl (.tmp 39) rfl ei_node (nN 9 0 0 0 0 0 0 0 0 none 0 0 none 0 0 0 0 0 0 0 0 0 0) rfl rfl (by decide) ?_)
 have z4:=FR.out.size
 clear hw_w4
 go_loopw [8,9] (fun u i wr=>∃ k:Nat,k≤n∧i=.int .i64 k∧Own tNode wr (blo w.heap.size) w4.heap.size 44 u (k+1) ((idleL l).take (k+1))∧Below w4.heap.size w4 wr) (fun _ i _=>n - (intOf i).toNat)
 case atStart=>exact ⟨0,Nat.zero_le _,rfl,Own.one (Nat.le_refl _) (flatN_rep _ _),(Below.refl _ _).alloc (Nat.le_refl _) _⟩
 case round =>
  obtain ⟨k,hk,rfl,hown,hb⟩:=hrel
  have HB:=zH hb
  have ON:=zH hown
  have zr:=HB.out.size
  clear hown hb
  by_cases hlt:k < n
  ·have p1:(k:Int) < (n:Int):=by omega
   obtain ⟨d,b0,off,W,nw,cw,B,nb,cb,hd,rfl,_,_,hin,hw8,hw32,hrg⟩:=((HS.out.fut FR.out.out).out.below HB.out (fun b h=>Nat.lt_of_lt_of_le h z4)).node_at k hlt
   have TD:=zH (idle_take hd)
   obtain ⟨q1,q2,q3,q4⟩:=there_bd (TH.out k d hd)
   have RG:=zH hrg
   have HW:=zH hw8
   have HB32:=zH hw32
   have SI:=zH (shift_in hin ⟨by omega,fun h6=>by unfold secondV at q4;rw [if_pos h6] at q4;omega⟩)
   have qb9:d.kind=6 → d.b≤9:=fun h6=>by unfold secondV at q4;rw [if_pos h6] at q4;omega
   obtain ⟨a',b',hsh,wa,wb⟩:=shift_ways d
   have SH:=zH hsh
   clear hd hin hw8 hw32 hrg hsh q3 q4
   go_upto_if 53 with (first
    | (refine wpList_load_mid rfl 44 (.tmp 49) rfl b0 (off+k*19) rfl _ _ RG.out Tryz.underlying44 rfl (by kernel_rfl) ?_)
    | (refine wpList_store_all rfl 44 (.tmp 10) (.tmp 50) rfl wr.heap.size (nN d.kind d.a d.b d.k d.s d.p d.out d.za d.zb W nw cw B nb cb d.qm d.qs d.qz d.rm d.rs d.rz d.lo d.hi) rfl rfl _ _ (Blk.now _ _ _ _ rfl) rfl (by kernel_rfl) (by simp [Value.oneCell']) ?_;intro w7 B7 g7;have G7:=zH (show Below wr.heap.size wr w7 from ((Below.refl _ _).alloc (Nat.le_refl _) _).grown g7 (by simp) (fun k h=>by have:=Option.some.inj h;omega));have BD:=zH B7;have cA:w7.cell? ⟨wr.heap.size,1,none⟩=some (.int .i64 d.a):=B7.cell 1;clear B7 g7))
   go_cut [] (fun wx=>Blk wx wr.heap.size 44 (nN d.kind a' d.b d.k d.s d.p d.out d.za d.zb W nw cw B nb cb d.qm d.qs d.qz d.rm d.rs d.rz d.lo d.hi)∧Below wr.heap.size wr wx)
   case first =>
    rcases wa with ⟨h0,rfl⟩|⟨h0,rfl⟩
    ·have t5:decide (0 < d.a)=true:=by simpa using h0
     go_wp2_with (refine wpList_store_one rfl _ _ _ rfl wr.heap.size 1 (.int .i64 (d.a+1)) rfl rfl rfl rfl 44 _ (nN d.kind (d.a+1) d.b d.k d.s d.p d.out d.za d.zb W nw cw B nb cb d.qm d.qs d.qz d.rm d.rs d.rz d.lo d.hi) BD.out (by simp) (by kernel_rfl) rfl ?_;intro w8 B8 g8)
     go_meet
     case rel=>exact ⟨B8,G7.out.grown g8 (by have:=G7.out.size;omega) (fun k h=>by have:=Option.some.inj h;omega)⟩
    ·have t5:decide (0 < d.a)=false:=by simpa using h0
     go_wp2_with fail
     go_meet
     case rel=>exact ⟨BD.out,G7.out⟩
   case rest =>
    obtain ⟨hX,hG⟩:=hcut
    have BX:=zH hX
    have GX:=zH hG
    have cK:=hX.cell 0
    have cB:=hX.cell 2
    simp only [gX] at cK cB
    clear hX hG BD G7 cA wa
    have OL:=zH ON.out.lt
    rcases wb with ⟨q6,qb,rfl⟩|⟨q6,qb,rfl⟩|⟨q6,rfl⟩
    ·have t6:(d.kind == 6)=true:=by simp [q6]
     have t7:decide (0 < d.b)=true:=by simpa using qb
     have bb:=qb9 q6
     go_wp2_with (first
      | (refine wpList_store_one rfl _ _ _ rfl wr.heap.size 2 (.int .i64 (d.b+1)) rfl rfl rfl rfl 44 _ (nN d.kind a' (d.b+1) d.k d.s d.p d.out d.za d.zb W nw cw B nb cb d.qm d.qs d.qz d.rm d.rs d.rz d.lo d.hi) BX.out (by simp) (by kernel_rfl) rfl ?_;intro w9 B9 g9;have BZ:=zH B9;have GZ:=zH (GX.out.grown g9 (by have:=GX.out.size;omega) (fun k h=>by have:=Option.some.inj h;omega));clear B9 g9)
      | (refine wpList_load_row rfl 44 (.tmp 10) rfl wr.heap.size rfl _ _ (0,0) _ BZ.out.heap Tryz.underlying44 rfl (by kernel_rfl) ?_)
      | (refine wpList_lit1 rfl (.tmp 71) rfl ei_node (nN d.kind a' (d.b+1) d.k d.s d.p d.out d.za d.zb W nw cw B nb cb d.qm d.qs d.qz d.rm d.rs d.rz d.lo d.hi) rfl rfl (by decide) ?_)
      | (at_builtin;refine wpList_push (W:=w9) (cs:=(nN d.kind a' (d.b+1) d.k d.s d.p d.out d.za d.zb W nw cw B nb cb d.qm d.qs d.qz d.rm d.rs d.rz d.lo d.hi)) (E:=44) (t:=tNode) (S:=blo w.heap.size) (base:=w4.heap.size) rfl (.tmp 70) (.tmp 72) rfl ei_node rfl (ON.out.below GZ.out (Nat.le_refl _) (fun b h=>Nat.lt_of_lt_of_le (Nat.lt_of_lt_of_le h z4) zr)) 1 rfl (shiftN d) (rep_as SH.out SI.out (HW.out.below GZ.out (fun b h=>Nat.lt_of_lt_of_le (Nat.lt_of_lt_of_le h z4) zr)) (HB32.out.below GZ.out (fun b h=>Nat.lt_of_lt_of_le (Nat.lt_of_lt_of_le h z4) zr))) (by unfold maxLen;omega) (by omega) (Nat.le_trans zr GZ.out.size) (fun b h=>⟨Nat.lt_of_lt_of_le (Nat.lt_of_lt_of_le (Nat.lt_of_lt_of_le h z4) zr) GZ.out.size,fun e=>absurd (OL.out b e.symm).1 (Nat.not_le.2 (Nat.lt_of_lt_of_le h z4))⟩) ?_;intro v' wz ownz gz atz))
     have b8:=below_later GZ.out HB.out
     exact ⟨⟨k+1,by omega,by go_num,by rw [TD.out];exact ownz,b8.grown gz b8.size (fun j hj=>(OL.out j hj).1)⟩,by simp [intOf];omega⟩
    ·have t6:(d.kind == 6)=true:=by simp [q6]
     have t7:decide (0 < d.b)=false:=by simpa using qb
     go_wp2_with (first
      | (refine wpList_load_row rfl 44 (.tmp 10) rfl wr.heap.size rfl _ _ (0,0) _ BX.out.heap Tryz.underlying44 rfl (by kernel_rfl) ?_)
      | (refine wpList_lit1 rfl (.tmp 71) rfl ei_node (nN d.kind a' d.b d.k d.s d.p d.out d.za d.zb W nw cw B nb cb d.qm d.qs d.qz d.rm d.rs d.rz d.lo d.hi) rfl rfl (by decide) ?_)
      | (at_builtin;refine wpList_push (W:=wc) (cs:=(nN d.kind a' d.b d.k d.s d.p d.out d.za d.zb W nw cw B nb cb d.qm d.qs d.qz d.rm d.rs d.rz d.lo d.hi)) (E:=44) (t:=tNode) (S:=blo w.heap.size) (base:=w4.heap.size) rfl (.tmp 70) (.tmp 72) rfl ei_node rfl (ON.out.below GX.out (Nat.le_refl _) (fun b h=>Nat.lt_of_lt_of_le (Nat.lt_of_lt_of_le h z4) zr)) 1 rfl (shiftN d) (rep_as SH.out SI.out (HW.out.below GX.out (fun b h=>Nat.lt_of_lt_of_le (Nat.lt_of_lt_of_le h z4) zr)) (HB32.out.below GX.out (fun b h=>Nat.lt_of_lt_of_le (Nat.lt_of_lt_of_le h z4) zr))) (by unfold maxLen;omega) (by omega) (Nat.le_trans zr GX.out.size) (fun b h=>⟨Nat.lt_of_lt_of_le (Nat.lt_of_lt_of_le (Nat.lt_of_lt_of_le h z4) zr) GX.out.size,fun e=>absurd (OL.out b e.symm).1 (Nat.not_le.2 (Nat.lt_of_lt_of_le h z4))⟩) ?_;intro v' wz ownz gz atz))
     have b8:=below_later GX.out HB.out
     exact ⟨⟨k+1,by omega,by go_num,by rw [TD.out];exact ownz,b8.grown gz b8.size (fun j hj=>(OL.out j hj).1)⟩,by simp [intOf];omega⟩
    ·have t6:(d.kind == 6)=false:=by simp [q6]
     go_wp2_with (first
      | (refine wpList_load_row rfl 44 (.tmp 10) rfl wr.heap.size rfl _ _ (0,0) _ BX.out.heap Tryz.underlying44 rfl (by kernel_rfl) ?_)
      | (refine wpList_lit1 rfl (.tmp 71) rfl ei_node (nN d.kind a' d.b d.k d.s d.p d.out d.za d.zb W nw cw B nb cb d.qm d.qs d.qz d.rm d.rs d.rz d.lo d.hi) rfl rfl (by decide) ?_)
      | (at_builtin;refine wpList_push (W:=wc) (cs:=(nN d.kind a' d.b d.k d.s d.p d.out d.za d.zb W nw cw B nb cb d.qm d.qs d.qz d.rm d.rs d.rz d.lo d.hi)) (E:=44) (t:=tNode) (S:=blo w.heap.size) (base:=w4.heap.size) rfl (.tmp 70) (.tmp 72) rfl ei_node rfl (ON.out.below GX.out (Nat.le_refl _) (fun b h=>Nat.lt_of_lt_of_le (Nat.lt_of_lt_of_le h z4) zr)) 1 rfl (shiftN d) (rep_as SH.out SI.out (HW.out.below GX.out (fun b h=>Nat.lt_of_lt_of_le (Nat.lt_of_lt_of_le h z4) zr)) (HB32.out.below GX.out (fun b h=>Nat.lt_of_lt_of_le (Nat.lt_of_lt_of_le h z4) zr))) (by unfold maxLen;omega) (by omega) (Nat.le_trans zr GX.out.size) (fun b h=>⟨Nat.lt_of_lt_of_le (Nat.lt_of_lt_of_le (Nat.lt_of_lt_of_le h z4) zr) GX.out.size,fun e=>absurd (OL.out b e.symm).1 (Nat.not_le.2 (Nat.lt_of_lt_of_le h z4))⟩) ?_;intro v' wz ownz gz atz))
     have b8:=below_later GX.out HB.out
     exact ⟨⟨k+1,by omega,by go_num,by rw [TD.out];exact ownz,b8.grown gz b8.size (fun j hj=>(OL.out j hj).1)⟩,by simp [intOf];omega⟩
  ·obtain rfl:k=n:=by omega
   have hl:(idleL l).take (k+1)=idleL l:=List.take_of_length_le (by unfold idleL;simp [HN.out])
   have O2:=ON.out
   rw [hl] at O2
   obtain ⟨A2,ca,rfl,sl⟩:=O2.sl (S':=blo wr.heap.size) (by decide) (fun b _ h=>h) (fun b h=>Nat.lt_of_lt_of_le (Nat.lt_of_lt_of_le h z4) zr)
   have HI:=zH (show ∀ d ∈ idleL l,d.w.length≤1000∧d.bias.length≤100 from fun d hd=>by
    unfold idleL at hd
    rcases List.mem_cons.1 hd with rfl|hd
    ·exact ⟨by decide,by decide⟩
    ·obtain ⟨d0,h0,rfl⟩:=List.mem_map.1 hd
     exact HF.out d0 h0)
   have SN:=zH sl
   replace FR:=zH (FR.out.fut HB.out)
   replace BA:=zH (BA.out.fut HB.out)
   replace BY:=zH (BY.out.fut HB.out)
   replace S1:=zH (S1.out.fut HB.out)
   have EN:=zH (fun w hs hd=>eval_any A2 (k+1) ca (idleL l) x D m cm w hs HX.out hd h300 HI.out)
   obtain ⟨⟨z,at2,k2⟩,hz⟩:∃ q,evalV (idleL l) x=q:=⟨_,rfl⟩
   rw [hz] at EN
   obtain rfl:z=y:=by have:=E1.out;rw [hz] at this;exact this
   obtain rfl:k2=0:=by have:=E2.out;rw [hz] at this;exact this
   clear O2 sl ON hl hz E1 E2 TH hlt
   go_wp2_with (refine lB 27 (.tmp 3) w.heap.size BA.out Tryz.underlying27 ?_)
   refine (EN.out _ SN.out (HD.out.fut FR.out.out).all).mono ?_
   rintro e w6 ⟨D2,m2,c2,rfl,s2,hb⟩
   simp only at s2 ⊢
   have S2:=zH s2.old
   clear s2 EN
   replace FR:=zH (FR.out.fut hb)
   replace BY:=zH (BY.out.fut hb)
   replace S1:=zH (S1.out.fut hb)
   clear hb
   obtain ⟨w7,hw_w7,BZ,k_w7⟩:=nB w6 #[.int .i64 z.h,.int .i64 z.v,.int .i64 z.c,.slice D2 m2 c2] 27
   replace FR:=zH (FR.out.fut k_w7)
   replace BY:=zH (BY.out.fut k_w7)
   replace S1:=zH (S1.out.fut k_w7)
   replace S2:=zH (S2.out.fut k_w7)
   clear k_w7
   go_wp2_with (first|(refine wpList_load_midw (by kernel_rfl) 27 (.tmp 5) rfl w3.heap.size 0 rfl _ _ (range_blk (vs:=[.int .i64 z.h,.int .i64 z.v,.int .i64 z.c,.slice D1 m1 c1]) BY.out rfl) Tryz.underlying27 rfl (by kernel_rfl) ?_)|(refine wpList_load_midw (by kernel_rfl) 27 (.tmp 11) rfl w6.heap.size 0 rfl _ _ (range_blk (vs:=[.int .i64 z.h,.int .i64 z.v,.int .i64 z.c,.slice D2 m2 c2]) BZ.out rfl) Tryz.underlying27 rfl (by kernel_rfl) ?_)|(go_at_call 10;refine (same05_eq z D1 D2 m1 c1 m2 c2 _ S1.out S2.out).mono ?_;rintro e w8 ⟨rfl,hb⟩;replace FR:=zH (FR.out.fut hb);clear hb hw_w7)|(go_at_call 6;refine (KN.out _).mono ?_;rintro e w9 ⟨rfl,hb⟩;replace FR:=zH (FR.out.fut hb);clear hb))
   go_ret
   exact ⟨rfl,FR.out.out⟩
theorem graphIdle_walk (A:Option Addr) (n cap:Nat) (l:List Node) {W:World} (hs:Sl tNode W (blo W.heap.size) A n cap l) (cs:Array Value) (x:Tensor) (hx:tTensor.rep W (blo W.heap.size) cs.toList x) (w:World) (e:W=w) :
  Calls Tryz.prog 4 #[.slice A n cap,.agg cs] w fun e w'=>e=.returned (.bool true)∧Below w.heap.size w w':=by
 subst e
 obtain ⟨D,m,cm,e1,k1,k2⟩:=topen hx
 obtain ⟨cs⟩:=cs
 simp only at e1
 subst e1
 exact graphIdle_any A n cap l x D m cm _ hs k1 k2
end Go.Proofs.YtjkmjpjknmghlaaGreat
