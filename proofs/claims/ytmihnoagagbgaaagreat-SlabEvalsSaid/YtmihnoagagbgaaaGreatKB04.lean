/-
  In one piece of room a block makes what it makes (the walk of the law SlabEvals).
-/
import Derived.Test.YtmihnoagagbgaaaGreatKB03
import Derived.Test.YtmihnoagagbgaaaGreatJ49
set_option linter.unusedVariables false
set_option linter.unusedSimpArgs false
set_option maxRecDepth 100000
set_option maxHeartbeats 16000000
namespace Go.Proofs.YtmihnoagagbgaaaGreat
open Go.RowKit Go.ChangeShapes Go.WideShapes Tryz
set_option maxRecDepth 100000
set_option maxHeartbeats 16000000
theorem uQ (A:QA) (n cap:Nat) (l:List af) (x:ae) (D:QA) (m cm:Nat) (w:World) (hs:Sl ee w (blo w) A n cap l) (hx:ak x) (hd:xA w D m cm x.data) :
  Calls prog 3 #[.slice A n cap,.agg (tN x.h x.v x.c D m cm)] w fun e w'=>e=.returned (.bool true)∧Below w w w':=by
 have FW:=zH (fun w hs=>qK A n cap l x.h x.v x.c D m cm w hs)
 have KN:=zH (fun w=>nC w)
 have EV:=zH (fun w hs hd h300 hf=>uV A n cap l x D m cm w hs hx hd h300 hf)
 have RV:=zH (fun w hs hd h300 hf=>oB A n cap l x D m cm w hs hx hd h300 hf)
 obtain ⟨he,VP,VN⟩:=uS l x
 obtain ⟨⟨y,a3,k3⟩,hy⟩:∃ q,uC l x=q:=⟨_,rfl⟩
 obtain ⟨⟨vl,at_,code⟩,hv⟩:∃ q,jY l x=q:=⟨_,rfl⟩
 simp only [hy,hv] at he VP VN
 rw [hy] at EV
 rw [hv] at RV
 obtain ⟨rfl,rfl⟩:=Prod.mk.inj he
 have HP:=zH VP
 have HN:=zH VN
 have HS:=zH (Old.now hs)
 have HD:=zH (Old.now hd)
 have FR:=zW w
 obtain ⟨w1,yw1,BA,yk1⟩:=nB w (tN x.h x.v x.c D m cm) 27
 replace FR:=zF yk1 FR
 clear hs hd hx hv hy he VP VN yk1
 go_in
 go_wp2_with (first|(refine lGJ19 BA.o ?_)|(go_at_call 4;refine (FW.o _ (HS.o.fut FR.u).all).mono ?_;rintro e w2 ⟨bb,rfl,hbb,hb⟩;have FB:=zH hbb;obtain ⟨FR,BA⟩:=uz2 hb FR BA;clear hb hbb yw1;cases bb))
 ·refine qM (KN.o _) fun w5 hb=>?_
  have F5:=zH (FR.o.fut hb)
  clear hb
  go_wp2
  go_ret
  exact ⟨rfl,F5.o.out⟩
 obtain ⟨⟨h12,hf⟩,h300⟩:=FB.o (by trivial)
 have HF:=zH (show r4 l from ⟨h12,hf⟩)
 clear FB FW h12 hf
 go_wp2_with (refine lGJ19 BA.o ?_)
 refine (EV.o _ (HS.o.fut FR.u).all (HD.o.fut FR.u).all h300 HF.o).mono ?_
 rintro e w3 ⟨D3,m3,c3,rfl,s3,hb⟩
 simp only at s3 ⊢
 have S3:=zH (s3.more (S':=blo w3) (fun b h=>h.2))
 clear s3 EV
 obtain ⟨FR,BA⟩:=uz2 hb FR BA
 clear hb
 go_wp2_with (first
  | (refine sF 27 (.tmp 5) (.tmp 20) (tN y.h y.v y.c D3 m3 c3) ?_;intro w6 BY k6;obtain ⟨FR,BA⟩:=uz2 k6 FR BA;replace S3:=zH (S3.o.later k6 (lR _));clear k6)
  | (refine lGJ19 BA.o ?_))
 refine (RV.o _ (HS.o.fut FR.u).all (HD.o.fut FR.u).all h300 HF.o.2).mono ?_
 rintro e w4 ⟨A2,m2,c2,rfl,s2,hb⟩
 simp only at s2 ⊢
 have S2:=zH s2
 have N1:=s2.n_eq
 have M1:m2≤9223372036854775807:=lT s2.cap_le s2.max_le
 obtain ⟨FR,BY⟩:=uz2 hb FR BY
 replace S3:=zH (S3.o.later hb (lR _))
 clear s2 RV HS HD HF BA hb
 by_cases ck:k3=0
 rotate_left
 ·have t4:(k3 != 0)=true:=by simpa using ck
  have hz:=HN.o ck
  subst hz
  simp only [aj] at BY S3 ⊢
  clear ck HP HN S2
  go_wp2_with (first
   | (refine lGJ19 BY.o ?_)
   | (go_at_call 8;refine qM (rJ ⟨0,0,0,[]⟩ D3 none m3 c3 0 0 _ S3.o (Sl.nil _ _ _)) fun w7 hb=>?_;replace FR:=zF hb FR;clear hb)
   | (go_at_call 5;refine qM (KN.o _) fun w8 hb=>?_;replace FR:=zF hb FR;clear hb))
  go_ret
  exact ⟨rfl,FR.u⟩
 subst ck
 have t4:((0:Int) != 0)=false:=rfl
 obtain ⟨hp,hz⟩:=HP.o rfl
 rw [N1] at hp hz
 obtain ⟨j,rfl⟩:∃ j,m2=j+1:=⟨m2 - 1,by omega⟩
 obtain ⟨t,b2,o2,D2,n2,e2,x2,rfl,_,_,_,t2,r2⟩:=S2.o.tensor_at j oM
 have hyt:y=t:=by rw [hz,show j+1 - 1=j from rfl,gD,x2];rfl
 subst hyt
 have g1:((j+1:Nat):Int) - 1=(j:Int):=oM
 have g2:(j:Int)+1 - 1=(j:Int):=oM
 have g3:IntKind.i64.wrap (((j+1:Nat):Int) - 1)=(j:Int):=by rw [g1];exact wJ
 have p2:(j:Int) < ((j+1:Nat):Int):=oM
 have R2:=zH (fun z:Ext w4=>fun j v hv=>lU (r2 j v hv) z)
 have R1:=zH (fun z:Ext w4=>kr (off:=0) (vs:=[.int .i64 y.h,.int .i64 y.v,.int .i64 y.c,.slice D3 m3 c3]) (BY.o.ext z) rfl)
 have E1:=zH (fun z:Ext w4=>aR z (rJ y D3 D2 m3 c3 n2 e2 z.1 (S3.o.later z.2 (lR _)) (t2.later z.2 (lR _))))
 have E2:=zH (fun z:Ext w4=>aR z (KN.o z.1))
 clear hp hz x2 t2 r2 S2 S3 HP HN
 go_upto_region 9 with fail
 (try simp only [Act.put])
 refine aB w4 kM kM (qB _ _) ?_
 refine jg kM 27 (.tmp 5) rfl w3.heap.size (0) rfl _ _ (by rintro _ ⟨z,rfl⟩;exact R1.o z) underlying27 rfl kM ?_
 simp only [pX]
 go_big_quiet_step (first|exact E1.o _|exact E2.o _)
 go_big_quiet_step (first|exact E1.o _|exact E2.o _)
 go_big_quiet_step (first|exact E1.o _|exact E2.o _)
 go_big_quiet_step (first|exact E1.o _|exact E2.o _)
 go_big_quiet_step (first|exact E1.o _|exact E2.o _)
 refine jg kM 27 (.tmp 51) rfl b2 (o2+j*4) rfl _ _ (by rintro _ ⟨z,rfl⟩;exact R2.o z) underlying27 rfl kM ?_
 simp only [pX]
 go_big_quiet_step (first|exact E1.o _|exact E2.o _)
 go_big_quiet_step (first|exact E1.o _|exact E2.o _)
 go_big_quiet_step (first|exact E1.o _|exact E2.o _)
 go_big_quiet_step (first|exact E1.o _|exact E2.o _)
 go_big_quiet_step (first|exact E1.o _|exact E2.o _)
 refine wpQuiet_nil ?_
 rintro _ ⟨⟨wa,hba⟩,rfl⟩
 have F9:=FR.o.fut hba
 clear hba
 go_wp2
 go_ret
 exact ⟨rfl,F9.out⟩
theorem uO (A:QA) (n cap:Nat) (l:List af) {W:World} (hs:Sl ee W (blo W.heap.size) A n cap l) (cs:Array Value) (x:ae) (hx:dE.rep W (blo W.heap.size) cs.toList x) (w:World) (e:W=w) :
  Calls prog 3 #[.slice A n cap,.agg cs] w fun e w'=>e=.returned (.bool true)∧Below w w w':=by
 subst e
 obtain ⟨D,m,cm,e1,k1,k2⟩:=s6 hx
 obtain ⟨cs⟩:=cs
 simp only at e1
 subst e1
 exact uQ A n cap l x D m cm _ hs k1 k2
end Go.Proofs.YtmihnoagagbgaaaGreat
