/-
  Two tensors joined (layer 20): the document's Of, the first tensor right.
-/
import Derived.Test.YtmihnoagagbgaaaGreatJ32
set_option linter.unusedVariables false
set_option linter.unusedSimpArgs false
set_option maxRecDepth 100000
set_option maxHeartbeats 16000000
namespace Go.Proofs.YtmihnoagagbgaaaGreat
open Go.RowKit Go.ChangeShapes Go.WideShapes Fx Tryz
set_option maxRecDepth 100000
set_option maxHeartbeats 16000000
def dH (a b:ae) (d:af):ae × Int:=if b.ok=false then (aj,5) else if ([a.h,a.v,a.c] == [b.h,b.v,b.c])=false then (aj,5) else if aq d.qm d.qs=false then (aj,7) else if aq d.rm d.rs=false then (aj,7)
 else (⟨a.h,a.v,a.c,(List.range a.data.length).map fun i=>cG d (a.data.getD i 0) (b.data.getD i 0)⟩,0)
theorem oh (a b:ae) (A A':QA) (n cap n' cap':Nat) (d:af) (W:QA) (nw cw:Nat) (B:QA) (nb cb:Nat) (w:World) (ht:ak a) (hu:ak b) (hd:aE d)
  (ha:xA w A n cap a.data) (hbs:xA w A' n' cap' b.data) (c1:a.ok=true) :
  Calls prog 30 #[.agg (tN a.h a.v a.c A n cap),.agg (tN b.h b.v b.c A' n' cap'),.agg (nD d W nw cw B nb cb)] w (ar .i8 (dH a b d).1 (dH a b d).2 w):=by
 have HA:=zH ha
 have HB:=zH hbs
 have HD:=zH hd
 obtain ⟨H,V,C,TK⟩:=cY c1
 have hn2:n≤1024:=by have:=TK.n_le;rw [ha.n_eq] at this;exact this
 have c1':decide (0 < ab a.h a.v a.c∧ab a.h a.v a.c=n)=true:=by rw [← HA.o.n_eq];simpa [ae.ok] using c1
 have RA:=zH (fun w=>aF a.h a.v a.c A n cap w ht.h ht.v ht.c (lT ha.cap_le ha.max_le))
 rw [c1'] at RA
 have RB:=zH (fun w=>aF b.h b.v b.c A' n' cap' w hu.h hu.v hu.c (lT hbs.cap_le hbs.max_le))
 have c2':decide (0 < ab b.h b.v b.c∧ab b.h b.v b.c=n')=b.ok:=by unfold ae.ok;rw [HB.o.n_eq]
 rw [c2'] at RB
 have mx:n≤9223372036854775807:=oM
 have Q1:=zH (fun w=>bK d.qm d.qs d.qz w)
 have Q2:=zH (fun w=>bK d.rm d.rs d.rz w)
 have QE:=zH (fun w=>eo w a.h a.v a.c b.h b.v b.c)
 have NN:=zH (show b.ok=true → ([a.h,a.v,a.c] == [b.h,b.v,b.c])=true → n'=n by
  intro h1 h2
  simp only [List.cons_beq_cons,Bool.and_eq_true,beq_iff_eq,List.beq_nil_eq,and_true] at h2
  have e1:a.h=b.h:=by simpa using h2.1
  have e2:a.v=b.v:=by simpa using h2.2.1
  have e3:a.c=b.c:=by simpa using h2.2.2.1
  rw [h1] at c2'
  simp only [decide_eq_true_eq] at c1' c2'
  rw [e1,e2,e3] at c1'
  omega)
 have HQ:=zH (show dH a b d=if b.ok=false then (aj,5) else if ([a.h,a.v,a.c] == [b.h,b.v,b.c])=false then (aj,5) else if aq d.qm d.qs=false then (aj,7) else if aq d.rm d.rs=false then (aj,7) else (⟨a.h,a.v,a.c,(List.range n).map fun i=>cG d (a.data.getD i 0) (b.data.getD i 0)⟩,0) by unfold dH;rw [ha.n_eq])
 have MY:=zH (show ie d=(aq d.qm d.qs && aq d.rm d.rs) from rfl)
 obtain ⟨x,hx⟩:∃ x,dH a b d=x:=⟨_,rfl⟩
 rw [hx] at HQ ⊢
 have FR:=zW w
 obtain ⟨w1,w2,w3,w4,yw1,yw2,yw3,yw4,l1,l2,l3,l4,BA,BB,BN,BR,yk4⟩:=bk4 w (tN a.h a.v a.c A n cap) 27 (tN b.h b.v b.c A' n' cap') 27 (nD d W nw cw B nb cb) 42 (tN 0 0 0 none 0 0) 27
 replace FR:=zF yk4 FR
 clear yk4
 obtain ⟨ok,hok⟩:∃ q,b.ok=q:=⟨_,rfl⟩
 obtain ⟨sm,hsm⟩:∃ q,([a.h,a.v,a.c] == [b.h,b.v,b.c])=q:=⟨_,rfl⟩
 obtain ⟨k1,hk1⟩:∃ q,aq d.qm d.qs=q:=⟨_,rfl⟩
 obtain ⟨k2,hk2⟩:∃ q,aq d.rm d.rs=q:=⟨_,rfl⟩
 rw [hok] at RB HQ NN
 rw [hsm] at QE HQ NN
 rw [hk1] at Q1 HQ MY
 rw [hk2] at Q2 HQ MY
 clear ht hu hd ha hbs c1 c1' c2' TK hx hok hsm hk1 hk2
 by_cases q1:ok=false
 ·subst q1
  rw [if_pos rfl] at HQ
  rw [HQ.o]
  go_in
  go_wp2_with (first|(refine lGJ19 BA.o ?_)|(go_at_call 15;with_reducible refine (RA.o _).mono ?_;rintro e w5 ⟨rfl,hb⟩;have l5:=hb.size;obtain ⟨FR,BA,BB,BN,BR⟩:=uz5 hb FR BA BB BN BR;clear hb yw1 yw2 yw3 yw4;obtain ⟨b0,b1,b2,b3⟩:=uc4 BB 0 1 2 3)|(go_at_call 15;with_reducible refine (RB.o _).mono ?_;rintro e w6 ⟨rfl,hb⟩;have l6:=hb.size;obtain ⟨FR,BA,BB,BN,BR⟩:=uz5 hb FR BA BB BN BR;clear hb b0 b1 b2 b3;obtain ⟨a0,a1,a2⟩:=uc3 BA 0 1 2;obtain ⟨b0,b1,b2⟩:=uc3 BB 0 1 2)|(refine sGJ19 (tN 0 0 0 none 0 0) BR.o ?_;intro wy By gy))
  refine rG By ?_
  exact ar.none (FR.o.away gy oM).out
 rw [Bool.not_eq_false] at q1
 subst q1
 rw [if_neg dM] at HQ
 by_cases q2:sm=false
 ·subst q2
  rw [if_pos rfl] at HQ
  rw [HQ.o]
  go_in
  go_wp2_with (first|(refine lGJ19 BA.o ?_)|(go_at_call 15;with_reducible refine (RA.o _).mono ?_;rintro e w5 ⟨rfl,hb⟩;have l5:=hb.size;obtain ⟨FR,BA,BB,BN,BR⟩:=uz5 hb FR BA BB BN BR;clear hb yw1 yw2 yw3 yw4;obtain ⟨b0,b1,b2,b3⟩:=uc4 BB 0 1 2 3)|(go_at_call 15;with_reducible refine (RB.o _).mono ?_;rintro e w6 ⟨rfl,hb⟩;have l6:=hb.size;obtain ⟨FR,BA,BB,BN,BR⟩:=uz5 hb FR BA BB BN BR;clear hb b0 b1 b2 b3;obtain ⟨a0,a1,a2⟩:=uc3 BA 0 1 2;obtain ⟨b0,b1,b2⟩:=uc3 BB 0 1 2)|(refine bq 24 _ (.tmp 20) (.tmp 22) rfl _ _ rfl rfl (by rfl) kM _ (QE.o _) ?_;try simp only [Bool.not_true,Bool.not_false])|(refine sGJ19 (tN 0 0 0 none 0 0) BR.o ?_;intro wy By gy))
  refine rG By ?_
  exact ar.none (FR.o.away gy oM).out
 rw [Bool.not_eq_false] at q2
 subst q2
 rw [if_neg dM] at HQ
 by_cases q3:k1=false
 ·subst q3
  rw [if_pos rfl] at HQ
  rw [HQ.o]
  go_in
  go_wp2_with (first|(refine lGJ19 BA.o ?_)|(go_at_call 15;with_reducible refine (RA.o _).mono ?_;rintro e w5 ⟨rfl,hb⟩;have l5:=hb.size;obtain ⟨FR,BA,BB,BN,BR⟩:=uz5 hb FR BA BB BN BR;clear hb yw1 yw2 yw3 yw4;obtain ⟨b0,b1,b2,b3⟩:=uc4 BB 0 1 2 3)|(go_at_call 15;with_reducible refine (RB.o _).mono ?_;rintro e w6 ⟨rfl,hb⟩;have l6:=hb.size;obtain ⟨FR,BA,BB,BN,BR⟩:=uz5 hb FR BA BB BN BR;clear hb b0 b1 b2 b3;obtain ⟨a0,a1,a2⟩:=uc3 BA 0 1 2;obtain ⟨b0,b1,b2⟩:=uc3 BB 0 1 2)|(refine bq 24 _ (.tmp 20) (.tmp 22) rfl _ _ rfl rfl (by rfl) kM _ (QE.o _) ?_;try simp only [Bool.not_true,Bool.not_false])|(refine lQJ 40 #[.int .i32 d.qm,.int .i64 d.qs,.int .i8 d.qz] BN.o ?_)|(go_at_call 55;with_reducible refine (Q1.o _).mono ?_;rintro e w7 ⟨rfl,hb⟩;have l7:=hb.size;obtain ⟨FR,BA,BB,BN,BR⟩:=uz5 hb FR BA BB BN BR;clear hb a0 a1 a2 b0 b1 b2;obtain ⟨c14,c15,c16⟩:=uc3 BN 14 15 16;simp only [gX] at c14 c15 c16)|(refine sGJ19 (tN 0 0 0 none 0 0) BR.o ?_;intro wy By gy))
  refine rG By ?_
  exact ar.none (FR.o.away gy oM).out
 rw [Bool.not_eq_false] at q3
 subst q3
 rw [if_neg dM] at HQ
 by_cases q4:k2=false
 ·subst q4
  rw [if_pos rfl] at HQ
  rw [HQ.o]
  go_in
  go_wp2_with (first|(refine lGJ19 BA.o ?_)|(go_at_call 15;with_reducible refine (RA.o _).mono ?_;rintro e w5 ⟨rfl,hb⟩;have l5:=hb.size;obtain ⟨FR,BA,BB,BN,BR⟩:=uz5 hb FR BA BB BN BR;clear hb yw1 yw2 yw3 yw4;obtain ⟨b0,b1,b2,b3⟩:=uc4 BB 0 1 2 3)|(go_at_call 15;with_reducible refine (RB.o _).mono ?_;rintro e w6 ⟨rfl,hb⟩;have l6:=hb.size;obtain ⟨FR,BA,BB,BN,BR⟩:=uz5 hb FR BA BB BN BR;clear hb b0 b1 b2 b3;obtain ⟨a0,a1,a2⟩:=uc3 BA 0 1 2;obtain ⟨b0,b1,b2⟩:=uc3 BB 0 1 2)|(refine bq 24 _ (.tmp 20) (.tmp 22) rfl _ _ rfl rfl (by rfl) kM _ (QE.o _) ?_;try simp only [Bool.not_true,Bool.not_false])|(refine lQJ 40 #[.int .i32 d.qm,.int .i64 d.qs,.int .i8 d.qz] BN.o ?_)|(go_at_call 55;with_reducible refine (Q1.o _).mono ?_;rintro e w7 ⟨rfl,hb⟩;have l7:=hb.size;obtain ⟨FR,BA,BB,BN,BR⟩:=uz5 hb FR BA BB BN BR;clear hb a0 a1 a2 b0 b1 b2;obtain ⟨c14,c15,c16⟩:=uc3 BN 14 15 16;simp only [gX] at c14 c15 c16)|(go_at_call 55;with_reducible refine (Q2.o _).mono ?_;rintro e w8 ⟨rfl,hb⟩;have l8:=hb.size;obtain ⟨FR,BA,BB,BN,BR⟩:=uz5 hb FR BA BB BN BR;clear hb c14 c15 c16)|(refine sGJ19 (tN 0 0 0 none 0 0) BR.o ?_;intro wy By gy))
  refine rG By ?_
  exact ar.none (FR.o.away gy oM).out
 rw [Bool.not_eq_false] at q4
 subst q4
 rw [if_neg dM] at HQ
 rw [HQ.o]
 obtain rfl:n=n':=(NN.o rfl rfl).symm
 have OV:=zH (fun x y (h:InK .i8 x) (h':InK .i8 y) w=>mJ x y d W nw cw B nb cb w h h' HD.o MY.o)
 ·go_in
  go_wp2_with (first|(refine lGJ19 BA.o ?_)|(go_at_call 15;with_reducible refine (RA.o _).mono ?_;rintro e w5 ⟨rfl,hb⟩;have l5:=hb.size;obtain ⟨FR,BA,BB,BN,BR⟩:=uz5 hb FR BA BB BN BR;clear hb yw1 yw2 yw3 yw4;obtain ⟨b0,b1,b2,b3⟩:=uc4 BB 0 1 2 3)|(go_at_call 15;with_reducible refine (RB.o _).mono ?_;rintro e w6 ⟨rfl,hb⟩;have l6:=hb.size;obtain ⟨FR,BA,BB,BN,BR⟩:=uz5 hb FR BA BB BN BR;clear hb b0 b1 b2 b3;obtain ⟨a0,a1,a2⟩:=uc3 BA 0 1 2;obtain ⟨b0,b1,b2⟩:=uc3 BB 0 1 2)|(refine bq 24 _ (.tmp 20) (.tmp 22) rfl _ _ rfl rfl (by rfl) kM _ (QE.o _) ?_;try simp only [Bool.not_true,Bool.not_false])|(refine lQJ 40 #[.int .i32 d.qm,.int .i64 d.qs,.int .i8 d.qz] BN.o ?_)|(go_at_call 55;with_reducible refine (Q1.o _).mono ?_;rintro e w7 ⟨rfl,hb⟩;have l7:=hb.size;obtain ⟨FR,BA,BB,BN,BR⟩:=uz5 hb FR BA BB BN BR;clear hb a0 a1 a2 b0 b1 b2;obtain ⟨c14,c15,c16⟩:=uc3 BN 14 15 16;simp only [gX] at c14 c15 c16)|(go_at_call 55;with_reducible refine (Q2.o _).mono ?_;rintro e w8 ⟨rfl,hb⟩;have l8:=hb.size;obtain ⟨FR,BA,BB,BN,BR⟩:=uz5 hb FR BA BB BN BR;clear hb c14 c15 c16;obtain ⟨w9,yw9⟩:∃ x,w8.alloc (.cells (tN 0 0 0 none 0 0) 27)=x:=⟨_,rfl⟩;have hb:Below w8 w8 w9:=(by rw [← yw9];exact (qB _ _).alloc (lR _) _);have BG:=zH (show Blk w9 w8.heap.size 27 (tN 0 0 0 none 0 0) by rw [← yw9];exact Blk.now _ _ _ _ rfl);have BA5:=zH BA.o;obtain ⟨FR,BA,BB,BN,BR⟩:=uz5 hb FR BA BB BN BR;clear hb)|(refine lQJ 24 (sN a.h a.v a.c) BA5.o ?_)|(refine sGJ19 (tN a.h a.v a.c none 0 0) BG.o ?_;intro wy By gy))
  have l9:w9.heap.size=w8.heap.size+1:=by rw [← yw9];simp
  clear yw9 BA5 BG
  replace FR:=zA gy FR
  replace BA:=zA gy BA
  replace BB:=zA gy BB
  replace BN:=zA gy BN
  replace BR:=zA gy BR
  have BG:=zH By
  clear By gy
  have ON:=zH (show Own (aa .i8) wy (fun _=>False) w9.heap.size 37 (.slice none 0 0) 0 ((List.range 0).map (fun i=>cG d (a.data.getD i 0) (b.data.getD i 0))) from Own.nil _ _ _ _ _)
  go_loopw [9] (fun ii wr=>∃ k:Nat,k≤n∧ii=.int .i64 k∧Far w wr∧Blk wr w.heap.size 27 (tN a.h a.v a.c A n cap)∧Blk wr w1.heap.size 27 (tN b.h b.v b.c A' n cap')∧Blk wr w2.heap.size 42 (nD d W nw cw B nb cb)∧Blk wr w3.heap.size 27 (tN 0 0 0 none 0 0)∧∃ u,Blk wr w8.heap.size 27 #[.int .i64 a.h,.int .i64 a.v,.int .i64 a.c,u]∧Own (aa .i8) wr (fun _=>False) w9.heap.size 37 u k ((List.range k).map (fun i=>cG d (a.data.getD i 0) (b.data.getD i 0)))) (fun ii _=>n - (intOf ii).toNat)
  case atStart=>exact ⟨0,zl _,rfl,FR.o,BA.o,BB.o,BN.o,BR.o,_,BG.o,ON.o⟩
  case round =>
   obtain ⟨k,hk,rfl,f0,f1,f2,f3,f4,u,f5,f6⟩:=hrel
   clear FR BA BB BN BR BG ON
   have FR:=zH f0
   have BA:=zH f1
   have BB:=zH f2
   have BN:=zH f3
   have BR:=zH f4
   have BG:=zH f5
   have ON:=zH f6
   clear f0 f1 f2 f3 f4 f5 f6
   have a3:=BA.o.cell 3
   by_cases hlt:k < n
   ·have p1:(k:Int) < (n:Int):=oM
    go_wp2_with fail
    clear a3
    obtain ⟨ba,oa,rfl,-,-,cx,ix⟩:=(zO HA FR).int_at k hlt
    obtain ⟨bz,oz,rfl,-,-,cy,iy⟩:=(zO HB FR).int_at k hlt
    have hb8:ba < w.heap.size:=by
     obtain ⟨b',o',e',q1,q2,-,-⟩:=HA.o.int_at k hlt
     simp only [Option.some.injEq,Addr.mk.injEq,and_true] at e'
     rw [e'.1]
     exact q1
    have hb9:bz < w.heap.size:=by
     obtain ⟨b',o',e',q1,q2,-,-⟩:=HB.o.int_at k hlt
     simp only [Option.some.injEq,Addr.mk.injEq,and_true] at e'
     rw [e'.1]
     exact q1
    have FS:=zH (dz (fun i=>cG d (a.data.getD i 0) (b.data.getD i 0)) k)
    obtain ⟨x,hx⟩:∃ x,a.data.getD k 0=x:=⟨_,rfl⟩
    obtain ⟨y,hy⟩:∃ x,b.data.getD k 0=x:=⟨_,rfl⟩
    rw [hx] at cx ix
    rw [hy] at cy iy
    have FE:=zH (show cG d (a.data.getD k 0) (b.data.getD k 0)=cG d x y by rw [hx,hy])
    have CX:=zH (OV.o x y ix iy)
    obtain ⟨v,hv⟩:∃ v,cG d x y=v:=⟨_,rfl⟩
    have RE:=zH (show InK .i8 v by rw [← hv];exact ma d x y)
    rw [hv] at FE CX
    have OD:=zH (ON.o.heap (w':=wr.drew) rfl)
    have fd:Below w w wr.drew:=FR.u.drew
    have bd:=BG.o.lt
    have cd:=ao ((show Below wr wr wr.drew from (qB _ _).drew)) cx
    have cd2:=ao ((show Below wr wr wr.drew from (qB _ _).drew)) cy
    have nu:=zH (show ∀ b,b < w9.heap.size → some b ≠ u.ownBlock from fun b hb e=>absurd (ON.o.lt b e.symm).1 oM)
    clear hx hy hv cx cy
    refine aJ (fun w'=>w'.cell? ⟨w8.heap.size,3,none⟩=some u∧w'.cell? ⟨w.heap.size,3,none⟩=some (.slice (some ⟨ba,oa,none⟩) n cap)∧w'.cell? ⟨w1.heap.size,3,none⟩=some (.slice (some ⟨bz,oz,none⟩) n cap')∧w'.cell? ⟨ba,oa+k,none⟩=some (.int .i8 x)∧w'.cell? ⟨bz,oz+k,none⟩=some (.int .i8 y)∧Blk w' w2.heap.size 42 (nD d W nw cw B nb cb)∧Below w w w') 16 kM ?_ (fun hS=>?_)
    ·exact ⟨BG.o.drew.cell 3,BA.o.drew.cell 3,BB.o.drew.cell 3,cd,cd2,BN.o.drew,fd⟩
    refine kT' 0 hS ?_
    refine kT' 1 hS ?_
    refine kT' 2 hS ?_
    refine kT' 3 hS ?_
    refine kT' 4 hS ?_
    refine kT' 5 hS ?_
    refine kT' 6 hS ?_
    refine kT' 7 hS ?_
    refine kT' 8 hS ?_
    refine kT' 9 hS ?_
    refine kT' 10 hS ?_
    refine kT' 11 hS ?_
    refine tkT 12 rfl (yP (nD d W nw cw B nb cb) (fun w hs=>hs.2.2.2.2.2.1)) hS ?_
    try simp only [pX]
    refine rT 13 (fun K hK=>?_)
    go_simp
    refine qM (CX.o _) fun wa hb=>?_;have OA:=zH (OD.o.below hb (lR _) (fun _ h=>h.elim));have za:w9.heap.size≤wa.heap.size:=(by have:=hb.size;have:wr.drew.heap.size=wr.heap.size:=rfl;omega);have XX:=zH (And.intro (ao hb cd) (And.intro (BA.o.drew.later hb) (ai fd hb fd.size)));have YY:=zH (And.intro (BN.o.drew.later hb) (And.intro (BR.o.drew.later hb) (BG.o.drew.later hb)));have ZZ:=zH (And.intro (ao hb cd2) (BB.o.drew.later hb))
    refine xK hK (zR hb hS) fun hS=>?_
    clear hK K
    refine rT 14 (fun K hK=>?_)
    go_simp
    have hb:Below wa wa (wa.alloc (.cells #[.int .i8 v] 37)):=(qB _ _).alloc (lR _) _
    refine xK hK (zR hb hS) fun hS=>?_
    clear hK K
    refine rT 15 (fun K hK=>?_)
    (rw [if_pos (by rfl)];refine cU (W:=wa) (cs:=#[.int .i8 v]) (E:=37) (t:=aa .i8) (.tmp 48) (.tmp 61) rfl dy rfl OA.o 1 rfl v ⟨rfl,RE.o⟩ (by unfold maxLen;omega) oM za (fun _ h=>h.elim) ?_;intro u' w7 own7 g7 at7;have B7:=zH (YY.o.2.2.rowR g7 (nu.out _ oM));have T7:=zH (XX.o.2.1.rowR g7 (nu.out _ oM));have U7:=zH (ZZ.o.2.rowR g7 (nu.out _ oM));refine hK.out _ _ ⟨B7.o.cell 3,T7.o.cell 3,U7.o.cell 3,bF g7 XX.o.1 (nu.out ba oM),bF g7 ZZ.o.1 (nu.out bz oM),YY.o.1.rowR g7 (nu.out _ oM),XX.o.2.2.grown g7 XX.o.2.2.size (fun j hj=>lT oM (OA.o.lt j hj).1)⟩ (fun hS=>?_))
    clear hK K
    try simp only [pX]
    refine wpAnyT_tail _ _ rfl rfl kM ?_
    have FZ:=hS.2.2.2.2.2.2
    have XB:=zH hS.2.2.2.2.2.1
    have XR:=zH (YY.o.2.1.rowR g7 (nu.out _ oM))
    have NU:=zH (show u'.ownBlock=none ∨ u'.ownBlock ≠ some w8.heap.size by
     cases hu:u'.ownBlock with
     | none=>exact .inl rfl
     | some m=>right;intro e;have:=(own7.lt m hu).1;have:=sI e;omega)
    obtain ⟨A7,c7,rfl,-⟩:=own7.sl (S':=fun _=>True) dM (fun _ _ _=>trivial) (fun _ _=>trivial)
    clear hS hb nu at7
    go_wp2_with (refine wpList_store_one rfl 25 (.tmp 63) (.tmp 62) rfl w8.heap.size 3 (.slice A7 (k+1) c7) rfl rfl rfl rfl _ #[.int .i64 a.h,.int .i64 a.v,.int .i64 a.c,u] (tN a.h a.v a.c A7 (k+1) c7) B7.o sM kM rfl ?_;intro wq8 B8 g8)
    have F8:=(show Far w w7 from ⟨FZ⟩).away g8 oM
    have O8:=own7.flat g8 (by rcases NU.o with e|e;exact .inl e;exact .inr e) (fun _ h=>h)
    have fs:=FS.o
    rw [FE.out] at fs
    rw [fs] at O8
    exact ⟨⟨k+1,by omega,by go_num,F8,T7.o.away g8 (.inl oM),U7.o.away g8 (.inl oM),XB.o.away g8 (.inl oM),XR.o.away g8 (.inl oM),_,B8,O8⟩,by simp [intOf];omega⟩
   ·obtain rfl:k=n:=oM
    obtain ⟨A9,c9,rfl,-⟩:=ON.o.sl (S':=fun _=>True) dM (fun _ _ _=>trivial) (fun _ _=>trivial)
    go_wp2_with (first|(refine lGJ19 BG.o ?_)|(refine sGJ19 (tN a.h a.v a.c A9 k c9) BR.o ?_;intro wy By gy))
    have e2:=ON.o.flat gy (by
     cases hu:(Value.slice A9 k c9).ownBlock with
     | none=>exact .inl rfl
     | some m=>right;intro e;have:=(ON.o.lt m hu).1;have:=sI e;omega) (fun _ h=>h)
    refine rG By ?_
    have FE:=FR.o.away gy oM
    obtain ⟨A2,c2,hv,s⟩:=e2.sl (S':=bin w.heap.size _) dM (fun b h1 h2=>⟨by omega,h2⟩) (fun b h=>h.elim)
    injection hv with hv1 hv2 hv3
    subst hv1 hv3
    exact ⟨_,_,_,rfl,s,FE.out⟩
end Go.Proofs.YtmihnoagagbgaaaGreat
