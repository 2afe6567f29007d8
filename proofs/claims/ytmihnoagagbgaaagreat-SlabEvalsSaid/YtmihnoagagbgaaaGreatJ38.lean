/-
  Sums by kind (layer 26): run.Sum.
  What a node makes that sums (layer 26: run.summed).
  Blocks of a size that is gone through (layer 27): the document's Few.
  The document's comparison of equal tensors (layer 5).
-/
import Derived.Test.YtmihnoagagbgaaaGreatJ34
import Derived.Test.YtmihnoagagbgaaaGreatJ37
set_option linter.unusedVariables false
set_option linter.unusedSimpArgs false
set_option maxRecDepth 100000
set_option maxHeartbeats 16000000
namespace Go.Proofs.YtmihnoagagbgaaaGreat
open Go.RowKit Go.ChangeShapes Go.WideShapes Tryz
set_option maxRecDepth 100000
set_option maxHeartbeats 16000000
theorem pZ (t:ae) (A:QA) (n cap:Nat) (d:af) (W:QA) (nw cw:Nat) (B:QA) (nb cb:Nat) (w:World) (ht:ak t) (hd:aE d)
  (ha:xA w A n cap t.data) (hw:xA w W nw cw d.w) (hb:xB w B nb cb d.bias) (mw:nw≤2000∧nb≤200) :
  Calls prog 92 #[.agg (nD d W nw cw B nb cb),.agg (tN t.h t.v t.c A n cap)] w (ar .i32 (bX t d).1 (bX t d).2 w):=by
 have HA:=zH ha
 have HW:=zH hw
 have HB:=zH hb
 have FT:=zH (fun w=>lW d W nw cw B nb cb w)
 have S0:=zH (fun (h3:d.k=3) (h1:d.s=1) w (ha:xA w A n cap t.data) (hw:xA w W nw cw d.w) (hb:xB w B nb cb d.bias)=>pv t A n cap d W nw cw B nb cb w ht hd ha hw hb mw h3 h1)
 have S1:=zH (fun w (ha:xA w A n cap t.data) (hw:xA w W nw cw d.w) (hb:xB w B nb cb d.bias)=>nI t A n cap d W nw cw B nb cb w ht hd ha hw hb mw)
 have S2:=zH (fun w (ha:xA w A n cap t.data) (hw:xA w W nw cw d.w) (hb:xB w B nb cb d.bias)=>nk t A n cap d W nw cw B nb cb w ht hd ha hw hb mw)
 have S3:=zH (fun w (ha:xA w A n cap t.data) (hw:xA w W nw cw d.w) (hb:xB w B nb cb d.bias)=>ng t A n cap d W nw cw B nb cb w ht hd ha hw hb)
 have FR:=zW w
 obtain ⟨w1,w2,w3,yw1,yw2,yw3,l1,l2,l3,BN,BA,BR,yk3⟩:=bk3 w (nD d W nw cw B nb cb) 42 (tN t.h t.v t.c A n cap) 27 (tN 0 0 0 none 0 0) 80
 replace FR:=zF yk3 FR
 clear yk3
 have c0:=BN.o.cell 0
 simp only [gX] at c0
 have SO:=zH (show bX t d=if d.kind=1 then aS t d else if d.kind=2 then aY t d else if d.kind=3 then bk t d else (aj,6) from rfl)
 obtain ⟨x,hx⟩:∃ x,bX t d=x:=⟨_,rfl⟩
 rw [hx] at SO ⊢
 have HM:=zH mw
 clear ht hd ha hw hb hx mw
 by_cases k1:d.kind=1
 ·rw [if_pos k1] at SO
  rw [SO.o]
  have KE:=zH k1
  have c0':w3.cell? ⟨w.heap.size,0,none⟩=some (.int .i64 1):=by rw [← k1];exact c0
  replace c0:=c0'
  clear c0' k1  SO
  by_cases kf:d.k=3∧d.s=1
  ·have S0:=zH (S0.o kf.1 kf.2)
   rw [show decide (d.k=3∧d.s=1)=true from qT kf] at FT
   clear kf
   obtain ⟨y,hy⟩:∃ y,aS t d=y:=⟨_,rfl⟩
   rw [hy] at S0 ⊢
   clear hy
   go_in
   go_wp2_with (first|(refine ep kM 42 (.tmp 2) rfl w.heap.size 0 rfl _ _ (kr (vs:=[.int .i64 d.kind,.int .i64 d.a,.int .i64 d.b,.int .i64 d.k,.int .i64 d.s,.int .i64 d.p,.int .i64 d.out,.int .i8 d.za,.int .i8 d.zb,.slice W nw cw,.slice B nb cb,.int .i32 d.qm,.int .i64 d.qs,.int .i8 d.qz,.int .i32 d.rm,.int .i64 d.rs,.int .i8 d.rz,.int .i8 d.lo,.int .i8 d.hi]) BN.o rfl) underlying42 rfl kM ?_)|(refine lGJ19 BN.o ?_)|(refine lGJ19 BA.o ?_)|(go_at_call 128;refine qM (FT.o _) fun w4 hb=>?_;have l4:=hb.size;obtain ⟨FR,BN,BA,BR⟩:=uz4 hb FR BN BA BR;clear hb yw1 yw2 yw3 c0;have c0:=BN.o.cell 0;simp only [gX] at c0;rw [KE.o] at c0))
   refine (S0.o _ (zO HA FR) (zO HW FR) (zO HB FR)).mono ?_
   rintro e wm ⟨RA,rn,rc,rfl,rs,hb⟩
   have RS:=zH (show New w4 (aa .i32) wm RA rn rc y.1.data from ⟨rs⟩)
   have lbr:=BR.o.lt
   have lfr:=FR.o.size
   obtain ⟨BR,FR⟩:=uz2 hb BR FR
   clear hb rs c0
   go_wp2_with (refine sGJ19 (tN y.1.h y.1.v y.1.c RA rn rc) BR.o ?_;intro w9 B9 g9)
   refine rG B9 ?_
   exact ⟨RA,rn,rc,rfl,(RS.o.away g9 lbr).out.more (aO lfr (lR _)),(FR.o.away g9 oM).out⟩
  ·rw [show decide (d.k=3∧d.s=1)=false from dF kf] at FT
   clear kf S0
   obtain ⟨y,hy⟩:∃ y,aS t d=y:=⟨_,rfl⟩
   rw [hy] at S1 ⊢
   clear hy
   go_in
   go_wp2_with (first|(refine ep kM 42 (.tmp 2) rfl w.heap.size 0 rfl _ _ (kr (vs:=[.int .i64 d.kind,.int .i64 d.a,.int .i64 d.b,.int .i64 d.k,.int .i64 d.s,.int .i64 d.p,.int .i64 d.out,.int .i8 d.za,.int .i8 d.zb,.slice W nw cw,.slice B nb cb,.int .i32 d.qm,.int .i64 d.qs,.int .i8 d.qz,.int .i32 d.rm,.int .i64 d.rs,.int .i8 d.rz,.int .i8 d.lo,.int .i8 d.hi]) BN.o rfl) underlying42 rfl kM ?_)|(refine lGJ19 BN.o ?_)|(refine lGJ19 BA.o ?_)|(go_at_call 128;refine qM (FT.o _) fun w4 hb=>?_;have l4:=hb.size;obtain ⟨FR,BN,BA,BR⟩:=uz4 hb FR BN BA BR;clear hb yw1 yw2 yw3 c0;have c0:=BN.o.cell 0;simp only [gX] at c0;rw [KE.o] at c0))
   refine (S1.o _ (zO HA FR) (zO HW FR) (zO HB FR)).mono ?_
   rintro e wm ⟨RA,rn,rc,rfl,rs,hb⟩
   have RS:=zH (show New w4 (aa .i32) wm RA rn rc y.1.data from ⟨rs⟩)
   have lbr:=BR.o.lt
   have lfr:=FR.o.size
   obtain ⟨BR,FR⟩:=uz2 hb BR FR
   clear hb rs c0
   go_wp2_with (refine sGJ19 (tN y.1.h y.1.v y.1.c RA rn rc) BR.o ?_;intro w9 B9 g9)
   refine rG B9 ?_
   exact ⟨RA,rn,rc,rfl,(RS.o.away g9 lbr).out.more (aO lfr (lR _)),(FR.o.away g9 oM).out⟩
 rw [if_neg k1] at SO
 have t1:(d.kind == 1)=false:=by simpa using k1
 by_cases k2:d.kind=2
 ·rw [if_pos k2] at SO
  rw [SO.o]
  have KE:=zH k2
  have c0':w3.cell? ⟨w.heap.size,0,none⟩=some (.int .i64 2):=by rw [← k2];exact c0
  replace c0:=c0'
  clear c0' k2 t1 k1 SO
  obtain ⟨y,hy⟩:∃ y,aY t d=y:=⟨_,rfl⟩
  rw [hy] at S2 ⊢
  clear hy
  go_in
  go_wp2_with (first|(refine lGJ19 BN.o ?_)|(refine lGJ19 BA.o ?_))
  refine (S2.o _ (zO HA FR) (zO HW FR) (zO HB FR)).mono ?_
  rintro e wm ⟨RA,rn,rc,rfl,rs,hb⟩
  have RS:=zH (show New w3 (aa .i32) wm RA rn rc y.1.data from ⟨rs⟩)
  have lbr:=BR.o.lt
  have lfr:=FR.o.size
  obtain ⟨BR,FR⟩:=uz2 hb BR FR
  clear hb rs c0 yw1 yw2 yw3
  go_wp2_with (refine sGJ19 (tN y.1.h y.1.v y.1.c RA rn rc) BR.o ?_;intro w9 B9 g9)
  refine rG B9 ?_
  exact ⟨RA,rn,rc,rfl,(RS.o.away g9 lbr).out.more (aO lfr (lR _)),(FR.o.away g9 oM).out⟩
 rw [if_neg k2] at SO
 have t2:(d.kind == 2)=false:=by simpa using k2
 by_cases k3:d.kind=3
 ·rw [if_pos k3] at SO
  rw [SO.o]
  have KE:=zH k3
  have c0':w3.cell? ⟨w.heap.size,0,none⟩=some (.int .i64 3):=by rw [← k3];exact c0
  replace c0:=c0'
  clear c0' k3 t1 t2 k1 k2 SO
  obtain ⟨y,hy⟩:∃ y,bk t d=y:=⟨_,rfl⟩
  rw [hy] at S3 ⊢
  clear hy
  go_in
  go_wp2_with (first|(refine lGJ19 BN.o ?_)|(refine lGJ19 BA.o ?_))
  refine (S3.o _ (zO HA FR) (zO HW FR) (zO HB FR)).mono ?_
  rintro e wm ⟨RA,rn,rc,rfl,rs,hb⟩
  have RS:=zH (show New w3 (aa .i32) wm RA rn rc y.1.data from ⟨rs⟩)
  have lbr:=BR.o.lt
  have lfr:=FR.o.size
  obtain ⟨BR,FR⟩:=uz2 hb BR FR
  clear hb rs c0 yw1 yw2 yw3
  go_wp2_with (refine sGJ19 (tN y.1.h y.1.v y.1.c RA rn rc) BR.o ?_;intro w9 B9 g9)
  refine rG B9 ?_
  exact ⟨RA,rn,rc,rfl,(RS.o.away g9 lbr).out.more (aO lfr (lR _)),(FR.o.away g9 oM).out⟩
 rw [if_neg k3] at SO
 have t3:(d.kind == 3)=false:=by simpa using k3
 rw [SO.o]
 clear k1 k2 k3
 go_in
 go_wp2_with (refine sGJ19 (tN 0 0 0 none 0 0) BR.o ?_;intro w9 B9 g9)
 refine rG B9 ?_
 exact ar.none (FR.o.away g9 oM).out
theorem jU (t:ae) (d:af) (h:(bX t d).2=0):ab (bX t d).1.h (bX t d).1.v (bX t d).1.c=((bX t d).1.data.length:Int)∧0 < (bX t d).1.data.length∧(bX t d).1.data.length≤1024∧ak (bX t d).1:=by
 unfold bX at h ⊢
 by_cases k1:d.kind=1
 ·rw [if_pos k1] at h ⊢
  unfold aS at h
  by_cases c1:t.ok=true
  ·rw [if_pos c1] at h
   by_cases c2:(aN t.h t.v t.c d).2=0
   ·obtain ⟨H,V,C,K,S,P,Ho,Wo,Co,TK,WK,hx,lw,lb,ho,el,ev⟩:=fO c1 c2
    rw [ev]
    have p1:=WK.ho1
    have p2:=WK.wo1
    have p3:=WK.co1
    have p4:=WK.no
    have p5:0 < Ho*Wo*Co:=Nat.mul_pos (Nat.mul_pos oM oM) oM
    simp only [List.length_map,List.length_range]
    exact ⟨el,p5,p4,⟨show InK .i64 (Ho:Int) by rw [ah];omega,show InK .i64 (Wo:Int) by rw [ah];omega,show InK .i64 (Co:Int) by rw [ah];omega⟩⟩
   ·rw [if_neg c2] at h;exact absurd h c2
  ·rw [if_neg c1] at h;cases h
 rw [if_neg k1] at h ⊢
 by_cases k2:d.kind=2
 ·rw [if_pos k2] at h ⊢
  unfold aY at h
  by_cases c1:t.ok=true
  ·rw [if_pos c1] at h
   by_cases c2:(aM t.h t.v t.c d).2=0
   ·obtain ⟨H,V,C,K,S,P,Ho,Wo,TK,WK,hx,lw,lb,el,ev⟩:=f7 c1 c2
    rw [ev]
    have p1:=WK.ho1
    have p2:=WK.wo1
    have p3:=WK.co1
    have p4:=WK.no
    have p5:0 < Ho*Wo*C:=Nat.mul_pos (Nat.mul_pos oM oM) oM
    simp only [List.length_map,List.length_range]
    exact ⟨el,p5,p4,⟨show InK .i64 (Ho:Int) by rw [ah];omega,show InK .i64 (Wo:Int) by rw [ah];omega,show InK .i64 (C:Int) by rw [ah];omega⟩⟩
   ·rw [if_neg c2] at h;exact absurd h c2
  ·rw [if_neg c1] at h;cases h
 rw [if_neg k2] at h ⊢
 by_cases k3:d.kind=3
 ·rw [if_pos k3] at h ⊢
  unfold bk at h ⊢
  by_cases c1:t.ok=true
  ·rw [if_pos c1] at h ⊢
   by_cases c2:ap t.h t.v t.c d=0
   ·rw [if_pos c2]
    have c3:=c2
    unfold ap at c3
    split at c3
    ·cases c3
    ·rename_i q
     split at c3
     ·cases c3
     ·rename_i r
      have e1:¬ ab 1 1 d.out=0:=fun e=>q (.inr e)
      have e2:(d.bias.length:Int)=d.out:=Decidable.byContradiction fun e=>r (.inr (.inr e))
      obtain ⟨a1,a2,a3,b1,b2,b3,b4,b5,b6,b7,b8⟩:=et e1
      have c4:=c1
      simp only [ae.ok,decide_eq_true_eq] at c4
      have e6:(d.w.length:Int)=d.out*ab t.h t.v t.c:=Decidable.byContradiction fun e=>r (.inl e)
      have e7:d.w.length=t.data.length*d.bias.length:=by
       rw [c4.2,← e2,← Int.natCast_mul,Nat.mul_comm] at e6
       omega
      have hl:(cz t.data d.w d.bias d.za).length=d.bias.length:=by
       unfold cz
       rw [if_neg (by rintro (h|h|h) <;> first|omega|exact h e7)]
       simp
      have e3:a1=1:=oM
      have e4:a2=1:=oM
      subst e3 e4
      simp only [Nat.one_mul] at b7 b8
      refine ⟨?_,?_,?_,⟨show InK .i64 (1:Int) by rw [ah];omega,show InK .i64 (1:Int) by rw [ah];omega,?_⟩⟩
      ·show ab 1 1 d.out=_
       rw [b7,hl];omega
      ·show 0 < (cz t.data d.w d.bias d.za).length
       rw [hl];omega
      ·show (cz t.data d.w d.bias d.za).length≤1024
       rw [hl];omega
      ·show InK .i64 d.out
       rw [ah];omega
   ·rw [if_neg c2] at h;exact absurd h c2
  ·rw [if_neg c1] at h;cases h
 rw [if_neg k3] at h
 cases h
def iw (t:ae) (d:af):ae × Int:=if (bX t d).2=0 then fa (bX t d).1 d else (aj,(bX t d).2)
theorem qg (t:ae) (A:QA) (n cap:Nat) (d:af) (W:QA) (nw cw:Nat) (B:QA) (nb cb:Nat) (w:World) (ht:ak t) (hd:aE d)
  (ha:xA w A n cap t.data) (hw:xA w W nw cw d.w) (hb:xB w B nb cb d.bias) (mw:nw≤2000∧nb≤200) :
  Calls prog 51 #[.agg (nD d W nw cw B nb cb),.agg (tN t.h t.v t.c A n cap)] w (ar .i8 (iw t d).1 (iw t d).2 w):=by
 have HA:=zH ha
 have HW:=zH hw
 have HB:=zH hb
 have SM:=zH (fun w (ha:xA w A n cap t.data) (hw:xA w W nw cw d.w) (hb:xB w B nb cb d.bias)=>pZ t A n cap d W nw cw B nb cb w ht hd ha hw hb mw)
 have SN:=zH (jU t d)
 unfold iw
 obtain ⟨⟨y,k⟩,hy⟩:∃ q,bX t d=q:=⟨_,rfl⟩
 rw [hy] at SM SN ⊢
 obtain ⟨x,hx⟩:∃ x,(if k=0 then fa y d else (aj,k))=x:=⟨_,rfl⟩
 rw [show (if (y,k).2=0 then fa (y,k).1 d else (aj,(y,k).2))=x from hx]
 have HX:=zH hx
 have HD:=zH hd
 have FR:=zW w
 obtain ⟨w1,w2,w3,yw1,yw2,yw3,l1,l2,l3,BN,BA,BR,yk3⟩:=bk3 w (nD d W nw cw B nb cb) 42 (tN t.h t.v t.c A n cap) 27 (tN 0 0 0 none 0 0) 27
 replace FR:=zF yk3 FR
 clear yk3
 clear ht hd ha hw hb hy mw hx
 go_in
 go_wp2_with (first|(refine lGJ19 BN.o ?_)|(refine lGJ19 BA.o ?_))
 refine (SM.o _ (zO HA FR) (zO HW FR) (zO HB FR)).mono ?_
 rintro e w4 ⟨RA,rn,rc,rfl,rs,hb⟩
 have RS:=zH (show New w3 (aa .i32) w4 RA rn rc y.data from ⟨rs⟩)
 have ern:=rs.n_eq
 have l4:=hb.size
 clear rs yw1 yw2 yw3
 obtain ⟨FR,BN,BA,BR⟩:=uz4 hb FR BN BA BR
 clear hb
 obtain ⟨w5,yw5,BX,yk5⟩:=nB w4 (tN y.h y.v y.c RA rn rc) 80
 obtain ⟨FR,BN,BA,BR,RS⟩:=uz5 yk5 FR BN BA BR RS
 clear yk5
 have l5:=zL yw5
 by_cases k0:k=0
 ·subst k0
  have hx:=HX.o
  rw [if_pos rfl] at hx
  obtain ⟨e1,e2,e3,e4⟩:=SN.o rfl
  simp only [ern] at e1 e2 e3
  have AP:=zH (fun w ha=>oY y RA rn rc d W nw cw B nb cb w e4 HD.o ha e1 e2 e3)
  rw [hx] at AP
  clear e1 e2 e3 e4 hx SN ern
  go_wp2_with (first|(refine lGJ19 BX.o ?_)|(refine lGJ19 BN.o ?_))
  refine (AP.o _ RS.o.old).mono ?_
  rintro e wm ⟨RA,rn,rc,rfl,rs,hb⟩
  have RS:=zH (show New w5 (aa .i8) wm RA rn rc x.1.data from ⟨rs⟩)
  have lbr:=BR.o.lt
  have lfr:=FR.o.size
  obtain ⟨BR,FR⟩:=uz2 hb BR FR
  clear hb rs yw5
  go_wp2_with (refine sGJ19 (tN x.1.h x.1.v x.1.c RA rn rc) BR.o ?_;intro w9 B9 g9)
  refine rG B9 ?_
  exact ⟨RA,rn,rc,rfl,(RS.o.away g9 lbr).out.more (aO lfr (lR _)),(FR.o.away g9 oM).out⟩
 ·have hx:=HX.o
  rw [if_neg k0] at hx
  subst hx
  have hk2:(k != 0)=true:=by rw [bne_iff_ne];exact k0
  clear k0 SN ern
  go_wp2_with (refine sGJ19 (tN 0 0 0 none 0 0) BR.o ?_;intro w9 B9 g9)
  refine rG B9 ?_
  exact ar.none (FR.o.away g9 oM).out
def r4 (l:List af):Prop:=l.length≤12∧∀ d ∈ l,d.w.length≤1000∧d.bias.length≤100
theorem qK (A:QA) (n cap:Nat) (l:List af) (h v c:Int) (D:QA) (m cm:Nat) (w:World) (hs:Sl ee w (blo w) A n cap l) :
  Calls prog 4 #[.slice A n cap,.agg (tN h v c D m cm)] w fun e w'=>∃ b:Bool,e=.returned (.bool b)∧(b=true → r4 l∧m≤300)∧Below w w w':=by
 have hn:=hs.n_eq
 have hmax:n≤9223372036854775807:=lT hs.cap_le hs.max_le
 have FR:=zW w
 obtain ⟨w1,yw1,BA,FR⟩:=nF FR (tN h v c D m cm) 27
 have c3:=BA.o.cell 3
 have l1:=zL yw1
 have H:=zH (hs.later FR.u (lR _))
 have HN:=zH hn
 clear hs hn
 by_cases c1:12 < n
 ·have t1:decide (12 < (n:Int))=true:=by simp;omega
  go_in
  go_wp2
  go_ret
  exact ⟨false,rfl,(fun h=>by cases h),FR.u⟩
 have t1:decide (12 < (n:Int))=false:=by simp;omega
 by_cases c2:300 < m
 ·have t2:decide (300 < (m:Int))=true:=by simp;omega
  go_in
  go_wp2
  go_ret
  exact ⟨false,rfl,(fun h=>by cases h),FR.u⟩
 have t2:decide (300 < (m:Int))=false:=by simp;omega
 go_in
 go_wp2_with fail
 clear c3 t1 t2 yw1
 go_loopw [5] (fun i wr=>∃ k:Nat,k≤n∧i=.int .i64 k∧Below w1 w1 wr∧∀ j d,j < k → l[j]?=some d → d.w.length≤1000∧d.bias.length≤100) (fun i _=>n - (intOf i).toNat)
 case atStart=>exact ⟨0,zl _,rfl,qB _ _,fun j d hj=>absurd hj (Nat.not_lt_zero _)⟩
 case round =>
  obtain ⟨k,hk,rfl,hb,hq⟩:=hrel
  have HB:=zH hb
  have HQ:=zH hq
  clear hb hq
  by_cases hlt:k < n
  ·have p1:(k:Int) < (n:Int):=oM
   obtain ⟨d,b0,off,W,nw,cw,B,nb,cb,hd,rfl,_,_,hin,hw8,hw32,hrg⟩:=(H.o.below HB.o (fun _ h=>h)).node_at k hlt
   have c9:=hrg 9 _ rfl
   have c10:=hrg 10 _ rfl
   have q8:=hw8.n_eq
   have q32:=hw32.n_eq
   have m8:=lT hw8.cap_le hw8.max_le
   have m32:=lT hw32.cap_le hw32.max_le
   have HD:=zH hd
   clear hd hin hw8 hw32 hrg
   by_cases g1:1000 < nw
   ·have t3:decide (1000 < (nw:Int))=true:=by simp;omega
    clear q8 q32
    go_wp2
    go_ret
    exact ⟨false,rfl,(fun h=>by cases h),ag HB.o FR.u⟩
   have t3:decide (1000 < (nw:Int))=false:=by simp;omega
   by_cases g2:100 < nb
   ·have t4:decide (100 < (nb:Int))=true:=by simp;omega
    clear q8 q32
    go_wp2
    go_ret
    exact ⟨false,rfl,(fun h=>by cases h),ag HB.o FR.u⟩
   have t4:decide (100 < (nb:Int))=false:=by simp;omega
   have Q:=zH (show d.w.length≤1000∧d.bias.length≤100 by omega)
   clear q8 q32
   go_wp2_with fail
   refine ⟨⟨k+1,by omega,by go_num,HB.o,fun j d' hj hd'=>?_⟩,by simp [intOf];omega⟩
   by_cases hjk:j < k
   ·exact HQ.o j d' hjk hd'
   ·obtain rfl:j=k:=oM
    rw [HD.o] at hd'
    cases hd'
    exact Q.o
  ·obtain rfl:k=n:=oM
   have FN:=zH (show r4 l from ⟨by rw [HN.o];omega,fun d hd=>by
    obtain ⟨j,hj⟩:=List.getElem?_of_mem hd
    exact HQ.o j d (by have:=(List.getElem?_eq_some_iff.1 hj).1;rw [HN.o] at this;exact this) hj⟩)
   have MM:=zH (show m≤300 by omega)
   clear hlt hk
   go_wp2
   go_ret
   exact ⟨true,rfl,fun _=>⟨FN.o,MM.o⟩,ag HB.o FR.u⟩
theorem rJ (t:ae) (A B:QA) (n c m d:Nat) (w:World) (h:xA w A n c t.data) (h':xA w B m d t.data) :
  Calls prog 8 #[.agg (tN t.h t.v t.c A n c),.agg (tN t.h t.v t.c B m d)] w fun e w'=>e=.returned (.bool true)∧Below w w w':=by
 have hm:n≤9223372036854775807:=lT h.cap_le h.max_le
 have hnm:m=n:=h'.n_eq.symm.trans h.n_eq
 subst hnm
 have H:=zH h
 have H':=zH h'
 clear h h'
 obtain ⟨W2,hW2⟩:∃ W2,(w.alloc (.cells (tN t.h t.v t.c A m c) 27)).alloc (.cells (tN t.h t.v t.c B m d) 27)=W2:=⟨_,rfl⟩
 have g2:Below w w W2:=by rw [← hW2];exact ((qB _ _).alloc (lR _) _).alloc sM _
 have BA:=zH (show Blk W2 w.heap.size 27 (tN t.h t.v t.c A m c) by rw [← hW2];exact (Blk.now _ _ _ _ rfl).past _)
 have BB:=zH (show Blk W2 (w.heap.size+1) 27 (tN t.h t.v t.c B m d) by rw [← hW2];exact Blk.now _ _ _ _ sM)
 have HW:=zH hW2
 clear hW2
 go_in
 go_wp2_with fail
 rw [HW.o]
 clear HW
 have G2:=zH g2
 clear g2
 go_loopw [5] (fun i wr=>∃ k:Nat,k≤m∧i=.int .i64 k∧Below W2.heap.size W2 wr) (fun i _=>m - (intOf i).toNat)
 case atStart=>exact ⟨0,zl _,rfl,qB _ _⟩
 case round =>
  obtain ⟨k,hk,rfl,hb⟩:=hrel
  have HB:=zH hb
  have bA:=BA.o.later hb
  have bB:=BB.o.later hb
  have a3:wr.cell? ⟨w.heap.size,3,none⟩=some (.slice A m c):=bA.cell 3
  have b3:wr.cell? ⟨w.heap.size+1,3,none⟩=some (.slice B m d):=bB.cell 3
  have g3:=ai G2.o hb G2.o.size
  have G3:=zH g3
  by_cases hlt:k < m
  ·have t1:decide ((k:Int) < (m:Int))=true:=by simp;omega
   obtain ⟨b1,o1,rfl,_,_,c1,_⟩:=(H.o.later g3 (lR _)).int_at k hlt
   obtain ⟨b2,o2,rfl,_,_,c2,_⟩:=(H'.o.later g3 (lR _)).int_at k hlt
   generalize t.data.getD k 0=y at *
   have ty:(y != y)=false:=by simp
   have p0:(0:Int)≤(k:Int):=oM
   have p1:(k:Int) < (m:Int):=oM
   clear hb bA bB g3 hlt
   go_wp2_with fail
   go_quiet (fail)
   have hq:Below W2.heap.size W2 (wr.drewN nq):=am HB.o nq
   generalize wr.drewN nq=wq at *
   go_wp2
   exact ⟨⟨k+1,by omega,by go_num,hq⟩,by simp [intOf];omega⟩
  ·obtain rfl:k=m:=oM
   have t1:decide ((k:Int) < (k:Int))=false:=by simp
   clear hb bA bB g3 hlt
   go_wp2
   go_ret
   exact ⟨rfl,G3.o⟩
end Go.Proofs.YtmihnoagagbgaaaGreat
