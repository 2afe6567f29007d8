/-
  A tensor whose pixels are those of another one, or z (layer 9: pad.made).
  A tensor with more around it (layer 9: pad.resized, pad.Around).
-/
import Derived.Test.YtmihnoagagbgaaaGreatJ34
set_option linter.unusedVariables false
set_option linter.unusedSimpArgs false
set_option maxRecDepth 100000
set_option maxHeartbeats 16000000
namespace Go.Proofs.YtmihnoagagbgaaaGreat
open Go.RowKit Go.ChangeShapes Go.WideShapes Fx Tryz
set_option maxRecDepth 100000
set_option maxHeartbeats 16000000
def dX (F:Nat → Int) (z:Int) (N C i:Nat):List Int:=(List.range N).map fun j=>if j / C < i then F j else z
theorem rf (F:Nat → Int) (z:Int) (N C:Nat):dX F z N C 0=List.replicate N z:=by
 unfold dX
 apply List.ext_getElem sM
 intro i h1 h2
 simp
theorem jR (F:Nat → Int) (z:Int) (N C i j:Nat) (h:j < N):(dX F z N C i)[j]?=some (if j / C < i then F j else z):=by
 unfold dX
 rw [List.getElem?_map,List.getElem?_range h];rfl
theorem mn (F:Nat → Int) (z:Int) (N C i:Nat):(dX F z N C i).length=N:=by unfold dX;simp
theorem jD {C i j:Nat} (hC:0 < C):(j / C < i ↔ j < i*C):=Nat.div_lt_iff_lt_mul hC
theorem rd (F:Nat → Int) (z:Int) (N C i:Nat) (hC:0 < C) (h:∀ c,c < C → F (i*C+c)=z):dX F z N C i=dX F z N C (i+1):=by
 unfold dX
 apply List.map_congr_left
 intro j _
 by_cases h1:j / C < i
 ·rw [if_pos h1,if_pos oM]
 ·by_cases h2:j / C < i+1
  ·rw [if_neg h1,if_pos h2]
   have e:j / C=i:=oM
   have:=Nat.div_add_mod j C
   rw [e,Nat.mul_comm] at this
   rw [← this,h _ (Nat.mod_lt _ hC)]
  ·rw [if_neg h1,if_neg h2]
theorem ra (F:Nat → Int) (z:Int) (N C i:Nat) (hC:0 < C) (h:i*C+C≤N):splice (dX F z N C i) (i*C) ((List.range C).map fun c=>F (i*C+c))=dX F z N C (i+1):=by
 have hl:=mn F z N C i
 apply List.ext_getElem?
 intro j
 have hs:(splice (dX F z N C i) (i*C) ((List.range C).map fun c=>F (i*C+c))).length=N:=by rw [length_splice _ _ _ (by simp [hl];omega),hl]
 by_cases hj:j < N
 ·rw [jR F z N C (i+1) j hj]
  have e1:(j / C < i+1)=(j < i*C+C):=by rw [jD hC,Nat.succ_mul]
  simp only [e1]
  unfold splice
  by_cases a:j < i*C
  ·rw [List.getElem?_append_left (by rw [List.length_take];omega),List.getElem?_take,if_pos a,jR F z N C i j hj,if_pos ((jD hC).2 a),if_pos oM]
  ·rw [List.getElem?_append_right (by rw [List.length_take];omega),List.length_take,hl,Nat.min_eq_left oM]
   by_cases b:j < i*C+C
   ·rw [List.getElem?_append_left (by simp;omega),List.getElem?_map,List.getElem?_range oM,if_pos b]
    show some (F (i*C+(j - i*C)))=some (F j)
    rw [show i*C+(j - i*C)=j by omega]
   ·rw [List.getElem?_append_right (by simp;omega),List.length_map,List.length_range,List.getElem?_drop,show i*C+C+(j - i*C - C)=j by omega,jR F z N C i j hj,if_neg (by rw [jD hC];exact a),if_neg b]
 ·rw [List.getElem?_eq_none oM,List.getElem?_eq_none (by rw [mn];omega)]
theorem sE (F:Nat → Int) (z:Int) (N C M:Nat) (hC:0 < C) (h:M*C=N):dX F z N C M=(List.range N).map F:=by
 unfold dX
 apply List.map_congr_left
 intro j hj
 rw [if_pos ((jD hC).2 (by rw [h];exact List.mem_range.1 hj))]
theorem nQ (H V C Ho Wo p M:Nat) (A:QA) (n cap:Nat) (l:List Int) (z:Int) (N:Nat) (a:Addr) (w:World) (ha:xA w A n cap l) (hn:n=H*V*C) (hn2:n≤1024) (hH:1≤H∧H≤16) (hV:1≤V∧V≤16) (hC:1≤C∧C≤1024) (het:decide (0 < ab H V C)=true)
  (hHo:1≤Ho∧Ho≤16) (hWo:1≤Wo∧Wo≤16) (hp:p≤4) (hz:InK .i8 z) (hM:Ho*Wo=M) (hN:M*C=N) (hN2:N≤1024) (hel:ab (Ho:Int) (Wo:Int) (C:Int)=(N:Int)) (hpa:w.cell? a=some (.int .i64 p)) (hab:a.block < w.heap.size) :
  Calls prog 126 #[.agg (sN Ho Wo C),.agg (tN H V C A n cap),.int .i8 z,.func (.func 127) #[] #[.pointer (some a)]] w fun e w'=>∃ Q c,e=.returned (.agg (tN Ho Wo C Q N c))∧Sl (aa .i8) w' (bin w w') Q N c ((List.range N).map (fw H V C l p z Wo))∧Below w w w':=by
 have HA:=zH ha
 have HZ:=zH hz
 have HPA:=zH (And.intro hpa hab)
 have hN1:1≤N:=by rw [← hN,← hM];exact Nat.mul_pos (Nat.mul_pos hHo.1 hWo.1) hC.1
 have FI:=zH (fun w=>r6 Ho Wo C N z w ⟨hHo.1,by omega⟩ ⟨hWo.1,by omega⟩ hC hel ⟨hN1,hN2⟩ hz)
 have IX:=zH (fun (yy xx:Int) (w:World)=>dt H V C yy xx 0 w hH hV hC het hC.1)
 have HN:=zH hn
 have NE:=zH (And.intro hM hN)
 have hMi:(Ho:Int)*(Wo:Int)=(M:Int):=by rw [← hM];simp
 have hMb:M≤256:=by rw [← hM];exact Nat.mul_le_mul hHo.2 hWo.2
 have gM:IntKind.i64.wrap ((Ho:Int)*(Wo:Int))=(M:Int):=by rw [hMi];exact wJ
 obtain ⟨PF,hPF⟩:∃ f,fw H V C l p z Wo=f:=⟨_,rfl⟩
 rw [hPF]
 have HPF:=zH (show ∀ j,PF j=gN H V C l ((j / C / Wo:Nat) - (p:Int)) ((j / C % Wo:Nat) - (p:Int)) (j % C) z from fun j=>by rw [← hPF];rfl)
 have FR:=zW w
 clear ha hz hpa hn hel het hM hN hMi hPF
 obtain ⟨w1,w2,w3,yw1,yw2,yw3,l1,l2,l3,BA,BT,BR,yk3⟩:=bk3 w (sN Ho Wo C) 24 (tN H V C A n cap) 27 (tN 0 0 0 none 0 0) 27
 replace FR:=zF yk3 FR
 clear yk3
 go_in
 go_wp2_with (refine lGJ19 BA.o ?_)
 refine (FI.o _).mono ?_
 rintro e w4 ⟨q,rfl,own,hb⟩
 have ON:=zH own
 have lq:=own.lt _ rfl
 have l4:=hb.size
 clear own yw1 yw2 yw3
 obtain ⟨FR,BA,BT,BR⟩:=uz4 hb FR BA BT BR
 clear hb
 obtain ⟨w5,yw5,BG,yk5⟩:=nB w4 (tN Ho Wo C (some ⟨q,0,none⟩) N N) 27
 obtain ⟨FR,BA,BT,BR⟩:=uz4 yk5 FR BA BT BR
 clear yk5
 have O5:=zH (ON.o.below (show Below w4 w4 w5 by rw [← yw5];exact (qB _ _).alloc (lR _) _) (lR _) (fun _ h=>h.elim))
 have l5:=zL yw5
 obtain ⟨s0,s1⟩:=uc2 BA 0 1
 go_wp2_with fail
 clear yw5 s0 s1 ON FI
 have ON:=zH (show Own (aa .i8) w5 (fun _=>False) w3.heap.size 37 (.slice (some ⟨q,0,none⟩) N N) N (dX PF z N C 0) by rw [rf];exact O5.o)
 clear O5 gM
 go_loopw [30] (fun ii wr=>∃ i:Nat,i≤M∧ii=.int .i64 i∧Far w wr∧Blk wr w.heap.size 24 (sN Ho Wo C)∧Blk wr w1.heap.size 27 (tN H V C A n cap)∧Blk wr w2.heap.size 27 (tN 0 0 0 none 0 0)∧Blk wr w4.heap.size 27 (tN Ho Wo C (some ⟨q,0,none⟩) N N)∧Own (aa .i8) wr (fun _=>False) w3.heap.size 37 (.slice (some ⟨q,0,none⟩) N N) N (dX PF z N C i)) (fun ii _=>M - (intOf ii).toNat)
 case atStart=>exact ⟨0,zl _,rfl,FR.o,BA.o,BT.o,BR.o,BG.o,ON.o⟩
 case round =>
  obtain ⟨i,hi,rfl,f0,f1,f2,f3,f4,f5⟩:=hrel
  clear FR BA BT BR BG ON
  have FR:=zH f0
  have BA:=zH f1
  have BT:=zH f2
  have BR:=zH f3
  have BG:=zH f4
  have ON:=zH f5
  clear f0 f1 f2 f3 f4 f5
  by_cases hlt:i < M
  ·have p1:(i:Int) < (M:Int):=oM
   obtain ⟨yb,hyb⟩:∃ m,i / Wo=m:=⟨_,rfl⟩
   obtain ⟨xb,hxb⟩:∃ m,i % Wo=m:=⟨_,rfl⟩
   have byb:yb≤256:=by rw [← hyb];exact lT (Nat.div_le_self _ _) oM
   have bxb:xb≤16:=by rw [← hxb];have:=Nat.mod_lt i (show Wo > 0 by omega);omega
   have hW0:¬ Wo=0:=oM
   have d1:(i:Int).tdiv (Wo:Int)=(yb:Int):=by rw [← hyb,Int.tdiv_eq_ediv_of_nonneg oM];simp
   have d2:(i:Int).tmod (Wo:Int)=(xb:Int):=by rw [← hxb,Int.tmod_eq_emod_of_nonneg oM];simp
   have e1:IntKind.i64.wrap (yb:Int)=(yb:Int):=wJ
   have e2:IntKind.i64.wrap (xb:Int)=(xb:Int):=wJ
   have HP2:=zH (show ∀ c,c < C → PF (i*C+c)=gN H V C l ((yb:Int) - (p:Int)) ((xb:Int) - (p:Int)) c z from fun c hc=>by
    have dv:(i*C+c) / C=i:=by rw [Nat.mul_comm,Nat.mul_add_div oM,Nat.div_eq_of_lt hc,Nat.add_zero]
    have md:(i*C+c) % C=c:=by rw [Nat.mul_comm,Nat.mul_add_mod,Nat.mod_eq_of_lt hc]
    rw [HPF.o,dv,md,hyb,hxb])
   clear hyb hxb
   have s1:=BA.o.drew.cell 1
   simp only [gX] at s1
   go_wp2_with fail
   refine wp_region_held_drew (S:=fun w'=>w'.cell? ⟨w.heap.size,1,none⟩=some (.int .i64 Wo)∧Below wr wr w') kM ?_ (fun hS=>?_)
   ·exact ⟨s1,(qB _ _).drew⟩
   refine kH' 0 hS ?_
   refine kH' 1 hS ?_
   refine kH' 2 hS ?_
   refine kH' 3 hS ?_
   refine kH' 4 hS ?_
   refine kH' 5 hS ?_
   refine kH' 6 hS ?_
   refine kH' 7 hS ?_
   refine kH' 8 hS ?_
   refine rH 9 rfl (fun K hK=>?_)
   go_simp
   refine qM (nP a (yb:Int) (xb:Int) (p:Int) _ ((FR.o.fut hS.2).out.cell (p:=a) HPA.o.2 |>.trans HPA.o.1) ⟨by omega,by omega⟩ ⟨by omega,by omega⟩ ⟨by omega,by omega⟩) fun wa hb=>?_
   refine hK.out _ _ ⟨ao hb hS.1,ag hb hS.2⟩ (fun hS=>?_)
   clear hK K
   try simp only [pX]
   refine kH' 10 hS ?_
   refine kH' 11 hS ?_
   refine kH' 13 hS ?_
   refine kH' 12 hS ?_
   refine kH' 14 hS ?_
   refine wpAnyH_done kM ?_ _
   have kd:=hS.2
   replace ON:=zH (ON.o.below kd (lR _) (fun _ h=>h.elim))
   obtain ⟨FR,BA,BT,BR,BG⟩:=uz5 kd FR BA BT BR BG
   clear kd
   clear s1 d1 d2 e1 e2 hS hb
   obtain ⟨yy,hyy⟩:∃ y,(yb:Int) - (p:Int)=y:=⟨_,rfl⟩
   obtain ⟨xx,hxx⟩:∃ y,(xb:Int) - (p:Int)=y:=⟨_,rfl⟩
   rw [hyy,hxx] at HP2 ⊢
   clear hyy hxx
   go_wp2_with (refine lQJ 24 (sN H V C) BT.o ?_)
   have E1:=IX.o yy xx wa
   by_cases hin:aK H V yy xx
   ·have hin2:=hin
    unfold aK at hin2
    simp only [if_pos hin,qT hin] at E1
    obtain ⟨at_,hat⟩:∃ m,cH V C yy xx 0=m:=⟨_,rfl⟩
    rw [hat] at E1
    refine E1.mono ?_
    rintro e wb ⟨rfl,hb⟩
    have lb:=hb.size
    replace ON:=zH (ON.o.below hb (lR _) (fun _ h=>h.elim))
    obtain ⟨FR,BA,BT,BR,BG⟩:=uz5 hb FR BA BT BR BG
    clear hb
    obtain ⟨o1,ho1⟩:∃ m,i*C=m:=⟨_,rfl⟩
    have ho1N:o1+C≤N:=by
     rw [← NE.o.2,← ho1]
     have:=Nat.mul_le_mul_right C (show i+1≤M by omega)
     rw [Nat.succ_mul] at this
     exact this
    have hatC:at_+C≤n:=by
     have h1:=dO yy.toNat xx.toNat (C - 1) H V C oM oM oM
     rw [← HN.o] at h1
     rw [← hat]
     unfold cH
     omega
    have hcap:n≤cap:=HA.o.cap_le
    have hcm:cap≤9223372036854775807:=HA.o.max_le
    have g1:IntKind.i64.wrap ((i:Int)*(C:Int))=(o1:Int):=by rw [show (i:Int)*(C:Int)=(o1:Int) by rw [← ho1];simp];exact wJ
    have g2:IntKind.i64.wrap ((i:Int)+1)=(i:Int)+1:=wJ
    obtain ⟨o2,ho2⟩:∃ m,o1+C=m:=⟨_,rfl⟩
    obtain ⟨a2,ha2⟩:∃ m,at_+C=m:=⟨_,rfl⟩
    have g3:IntKind.i64.wrap (((i:Int)+1)*(C:Int))=(o2:Int):=by rw [show ((i:Int)+1)*(C:Int)=(o2:Int) by rw [← ho2,← ho1,Int.add_mul,Int.one_mul];simp];exact wJ
    have g4:IntKind.i64.wrap ((at_:Int)+(C:Int))=(a2:Int):=by rw [show ((at_:Int)+(C:Int))=(a2:Int) by rw [← ha2];simp];exact wJ
    obtain ⟨XS,hXS⟩:∃ x,((List.range C).map fun c=>PF (o1+c))=x:=⟨_,rfl⟩
    have XL:XS.length=C:=by rw [← hXS];simp
    have PC:=zH (ra PF z N C i hC.1 (by rw [ho1];exact ho1N))
    rw [ho1,hXS] at PC
    rw [ho1] at HP2
    have XV:∀ c,c < C → XS.getD c 0=l.getD (at_+c) 0:=fun c hc=>by
     rw [← hXS,gD,List.getElem?_map,List.getElem?_range hc]
     show PF (o1+c)=_
     rw [HP2.o c hc]
     unfold gN
     rw [if_pos hin,← hat]
     rfl
    have SD:=(zO HA FR)
    have S0:=SD.int_at at_ oM
    obtain ⟨b,o,rfl,hb1,-,-,-⟩:=S0
    have OD:=zH (ON.o.heap (w':=wb.drew) rfl)
    have X0:=zH (show ∀ x ∈ XS,InK .i8 x by
     intro x hx
     rw [← hXS] at hx
     obtain ⟨c,hc,rfl⟩:=List.mem_map.1 hx
     rw [HP2.o c (List.mem_range.1 hc)]
     exact oO HA.o.allK HZ.o)
    have X1:=zH (show XS.length=Nat.min C C by rw [XL];exact (Nat.min_self C).symm)
    have X2:=zH (show ∀ j,j < XS.length → wb.drew.cell? ((⟨b,o+at_,none⟩:Addr).add j)=some (.int .i8 (XS.getD j 0)) by
     intro j hj
     rw [XL] at hj
     obtain ⟨b',o',e',-,-,cx,-⟩:=SD.int_at (at_+j) oM
     injection e' with e'
     injection e' with e1 e2 e3
     subst e1 e2
     have ha':(⟨b,o+at_,none⟩:Addr).add j=⟨b,o+(at_+j),none⟩:=by unfold Addr.add;split <;> simp_all <;> omega
     rw [ha',XV j hj]
     exact cx)
    have X3:=zH (show o1+XS.length≤N by rw [XL];exact ho1N)
    have XLh:=zH XL
    clear hXS XL XV SD hat ho1 E1 hin hin2
    have nz1:¬ N=o1:=oM
    have nz2:¬ cap=at_:=oM
    have i1:o1≤o2:=oM
    have i2:o2≤N:=oM
    have i3:at_≤a2:=oM
    have i4:a2≤cap:=oM
    have i5:o2 - o1=C:=oM
    have i6:a2 - at_=C:=oM
    go_wp2_with fail
    refine wp_region_held_drew (S:=fun w'=>Blk w' w4.heap.size 27 (tN Ho Wo C (some ⟨q,0,none⟩) N N)∧Blk w' w.heap.size 24 (sN Ho Wo C)∧Blk w' w1.heap.size 27 (tN H V C (some ⟨b,o,none⟩) n cap)∧Blk w' w2.heap.size 27 (tN 0 0 0 none 0 0)∧Below w w w') kM ?_ (fun hS=>?_)
    ·exact ⟨BG.o.drew,BA.o.drew,BT.o.drew,BR.o.drew,FR.u.drew⟩
    refine kH' 0 hS ?_
    refine tkH 1 rfl (v:=?_) (Or.inl ⟨by rfl,?_⟩) hS ?_
    rotate_left
    ·intro wz hSw;have zz:=hSw.1.cell 3;simp only [gX] at zz;go_simp;try with_reducible rfl
    try simp only [pX]
    refine kH' 2 hS ?_
    refine kH' 3 hS ?_
    refine tkH 4 rfl (v:=?_) (Or.inl ⟨by rfl,?_⟩) hS ?_
    rotate_left
    ·intro wz hSw;have zz:=hSw.2.1.cell 2;simp only [gX] at zz;go_simp;try with_reducible rfl
    try simp only [pX]
    refine kH' 5 hS ?_
    refine kH' 6 hS ?_
    refine kH' 7 hS ?_
    refine kH' 8 hS ?_
    refine tkH 9 rfl (v:=?_) (Or.inl ⟨by rfl,?_⟩) hS ?_
    rotate_left
    ·intro wz hSw;have zz:=hSw.2.1.cell 2;simp only [gX] at zz;go_simp;try with_reducible rfl
    try simp only [pX]
    refine kH' 10 hS ?_
    refine kH' 11 hS ?_
    refine kH' 12 hS ?_
    refine tkH 13 rfl (v:=?_) (Or.inl ⟨by rfl,?_⟩) hS ?_
    rotate_left
    ·intro wz hSw;have zz:=hSw.2.2.1.cell 3;simp only [gX] at zz;go_simp;try with_reducible rfl
    try simp only [pX]
    refine kH' 14 hS ?_
    refine kH' 15 hS ?_
    refine kH' 16 hS ?_
    refine tkH 17 rfl (v:=?_) (Or.inl ⟨by rfl,?_⟩) hS ?_
    rotate_left
    ·intro wz hSw;have zz:=hSw.2.1.cell 2;simp only [gX] at zz;go_simp;try with_reducible rfl
    try simp only [pX]
    refine kH' 18 hS ?_
    refine kH' 19 hS ?_
    refine rH 20 rfl (fun K hK=>?_)
    rw [if_pos (by rfl)]
    refine fD (k:=.i8) (.tmp 66) (.tmp 74) 25 25 rfl 37 underlying25 kM OD.o o1 C (N - o1) rfl ⟨b,o+at_,none⟩ C (cap - at_) rfl XS X0.o X1.o X2.o X3.o ?_
    intro wc own gc
    have OC:=zH own
    clear own
    refine hK.out _ _ ⟨hS.1.rowR gc (fun e=>by injection e with e;omega),hS.2.1.rowR gc (fun e=>by injection e with e;omega),hS.2.2.1.rowR gc (fun e=>by injection e with e;omega),hS.2.2.2.1.rowR gc (fun e=>by injection e with e;omega),hS.2.2.2.2.grown gc hS.2.2.2.2.size (fun j e=>by injection e with e;omega)⟩ (fun hS=>?_)
    clear hK K
    try simp only [pX]
    refine wpAnyH_done kM ?_ _
    have O9:=OC.o
    rw [PC.o] at O9
    go_wp2
    exact ⟨⟨i+1,by omega,by go_num,⟨hS.2.2.2.2⟩,hS.2.1,hS.2.2.1,hS.2.2.2.1,hS.1,O9⟩,by simp [intOf];omega⟩
   ·simp only [if_neg hin,dF hin] at E1
    refine E1.mono ?_
    rintro e wb ⟨rfl,hb⟩
    replace ON:=zH (ON.o.below hb (lR _) (fun _ h=>h.elim))
    obtain ⟨FR,BA,BT,BR,BG⟩:=uz5 hb FR BA BT BR BG
    clear hb
    go_wp2_with fail
    have o3:=ON.o
    rw [rd PF z N C i hC.1 (fun c hc=>by rw [HP2.o c hc];unfold gN;rw [if_neg hin])] at o3
    exact ⟨⟨i+1,by omega,by go_num,FR.o,BA.o,BT.o,BR.o,BG.o,o3⟩,by simp [intOf];omega⟩
  ·obtain rfl:i=M:=oM
   go_wp2_with (first|(refine lGJ19 BG.o ?_)|(refine sGJ19 (tN Ho Wo C (some ⟨q,0,none⟩) N N) BR.o ?_;intro w9 B9 g9))
   have e1:=ON.o
   rw [sE PF z N C i hC.1 NE.o.2] at e1
   have e2:=e1.flat g9 (.inr (by simp [Value.ownBlock];omega)) (fun _ h=>h)
   refine ret_cell rfl B9 rfl underlying27 kM rfl ?_
   have FE:=FR.o.away g9 oM
   obtain ⟨A2,c2,hv,s⟩:=e2.sl (S':=bin w.heap.size _) dM (fun b h1 h2=>⟨by omega,h2⟩) (fun b h=>h.elim)
   injection hv with hv1 hv2 hv3
   subst hv1 hv3
   exact ⟨_,_,rfl,s,FE.out⟩
theorem od (t:ae) (H V C p:Nat) (A:QA) (n cap:Nat) (z:Int) (w:World) (ha:xA w A n cap t.data) (TK:TOk t n H V C) (hp:p≤4) (hz:InK .i8 z) :
  Calls prog 91 #[.agg (tN H V C A n cap),.int .i64 p,.int .i8 z] w (ar .i8 (gL t p z).1 (gL t p z).2 w):=by
 have HA:=zH ha
 have k1:=TK.h1
 have k2:=TK.v1
 have k3:=TK.c1
 unfold gL
 rw [TK.h,TK.v,TK.c]
 simp only [Int.toNat_natCast]
 obtain ⟨Ho,hHo⟩:∃ m,H+2*p=m:=⟨_,rfl⟩
 obtain ⟨Wo,hWo⟩:∃ m,V+2*p=m:=⟨_,rfl⟩
 have i1:(H:Int)+2*(p:Int)=(Ho:Int):=oM
 have i2:(V:Int)+2*(p:Int)=(Wo:Int):=oM
 rw [i1,i2,hWo]
 have SR:=zH (fun w=>aP (Ho:Int) (C:Int) (Wo:Int) w (by rw [ah];omega) (by rw [ah];omega) (by rw [ah];omega))
 have FR:=zW w
 obtain ⟨w1,w2,w3,yw1,yw2,yw3,_,_,_,BT,BP,BR,yk3⟩:=bk3 w (tN H V C A n cap) 27 #[.int .i64 p] 3 (tN 0 0 0 none 0 0) 27
 replace FR:=zF yk3 FR
 clear yk3
 have t0:w3.cell? ⟨w.heap.size,0,none⟩=some (.int .i64 H):=BT.o.cell 0
 have t1:w3.cell? ⟨w.heap.size,1,none⟩=some (.int .i64 V):=BT.o.cell 1
 have t2:w3.cell? ⟨w.heap.size,2,none⟩=some (.int .i64 C):=BT.o.cell 2
 have p0:w3.cell? ⟨w1.heap.size,0,none⟩=some (.int .i64 p):=BP.o.cell 0
 obtain ⟨w4,yw4,BS,yk4⟩:=nB w3 (sN Ho Wo C) 24
 obtain ⟨FR,BT,BP,BR⟩:=uz4 yk4 FR BT BP BR
 clear yk4
 have l1:=zL yw1
 have l2:=zL yw2
 have l3:=zL yw3
 have l4:=zL yw4
 have g1:IntKind.i64.wrap (2*(p:Int))=2*(p:Int):=wJ
 have g2:IntKind.i64.wrap ((H:Int)+2*(p:Int))=(Ho:Int):=by rw [i1];exact wJ
 have g3:IntKind.i64.wrap ((V:Int)+2*(p:Int))=(Wo:Int):=by rw [i2];exact wJ
 by_cases e0:ab (Ho:Int) (Wo:Int) (C:Int)=0
 ·rw [if_pos e0]
  rw [show decide (0 < ab (Ho:Int) (Wo:Int) (C:Int))=false by rw [e0];decide] at SR
  clear e0 ha TK hz i1 i2 hHo hWo
  go_in
  go_wp2_with (first|(refine lGJ19 BS.o ?_)|(go_at_call 36;refine qM (SR.o _) fun w5 hb=>?_;have l5:=hb.size;obtain ⟨FR,BT,BP,BR,BS⟩:=uz5 hb FR BT BP BR BS;clear hb t0 t1 t2 p0 yw1 yw2 yw3 yw4)|(refine sGJ19 (tN 0 0 0 none 0 0) BR.o ?_;intro w9 B9 g9))
  refine rG B9 ?_
  exact ar.none (FR.o.away g9 oM).out
 ·rw [if_neg e0]
  obtain ⟨H',V',C',q1,q2,q3,b1,b2,b3,q4,q5⟩:=et e0
  obtain rfl:Ho=H':=oM
  obtain rfl:Wo=V':=oM
  obtain rfl:C=C':=oM
  obtain ⟨N,hN⟩:∃ N,Ho*Wo*C=N:=⟨_,rfl⟩
  rw [hN] at q4 q5
  have hN0:0 < N:=by
   rcases Nat.eq_zero_or_pos N with e|e
   ·rw [e] at q4;exact absurd q4 e0
   ·exact e
  rw [show decide (0 < ab (Ho:Int) (Wo:Int) (C:Int))=true by rw [q4];simp;omega] at SR
  have MD:=zH (fun wq (h:xA wq A n cap t.data) (a:Addr) hpa hab=>nQ H V C Ho Wo p (Ho*Wo) A n cap t.data z N a wq h TK.n_eq TK.n_le k1 k2 k3 (dw TK) b1 b2 hp hz rfl hN q5 q4 hpa hab)
  rw [q4,Int.toNat_natCast]
  clear e0 ha TK hz q1 q2 q3 q4 hN i1 i2 hHo hWo
  go_in
  go_wp2_with (first|(refine lGJ19 BS.o ?_)|(go_at_call 36;refine qM (SR.o _) fun w5 hb=>?_;have l5:=hb.size;obtain ⟨FR,BT,BP,BR,BS⟩:=uz5 hb FR BT BP BR BS;clear hb t0 t1 t2 p0 yw1 yw2 yw3 yw4)|(refine lGJ19 BT.o ?_))
  refine (MD.o _ (zO HA FR) ⟨w1.heap.size,0,none⟩ (BP.o.cell 0) BP.o.lt).mono ?_
  rintro e wm ⟨RA,rc,rfl,rs,hb⟩
  have RS:=zH (show New w5 (aa .i8) wm RA N rc _ from ⟨rs⟩)
  have lbr:=BR.o.lt
  have lfr:=FR.o.size
  obtain ⟨BR,FR⟩:=uz2 hb BR FR
  clear hb rs
  go_wp2_with (refine sGJ19 (tN Ho Wo C RA N rc) BR.o ?_;intro w9 B9 g9)
  refine rG B9 ?_
  exact ⟨RA,N,rc,rfl,(RS.o.away g9 lbr).out.more (aO lfr (lR _)),(FR.o.away g9 oM).out⟩
def ij (t:ae) (p z:Int):ae × Int:=if p < 0 ∨ 4 < p then (aj,2) else gL t p.toNat z
theorem o7 (t:ae) (p:Int) (A:QA) (n cap:Nat) (z:Int) (w:World) (ht:ak t) (ha:xA w A n cap t.data) (c1:t.ok=true) (hz:InK .i8 z) :
  Calls prog 49 #[.agg (tN t.h t.v t.c A n cap),.int .i64 p,.int .i8 z] w (ar .i8 (ij t p z).1 (ij t p z).2 w):=by
 have HA:=zH ha
 have MA:=zH (fun w (h:xA w A n cap t.data)=>pI t A n cap p w ht h c1)
 have FR:=zW w
 obtain ⟨w1,w2,yw1,yw2,l1,l2,BT,BR,yk2⟩:=bk2 w (tN t.h t.v t.c A n cap) 27 (tN 0 0 0 none 0 0) 27
 replace FR:=zF yk2 FR
 clear yk2
 have HA2:=zH (zO HA FR)
 unfold ij
 by_cases h:p < 0 ∨ 4 < p
 ·rw [if_pos h]
  rw [if_pos h] at MA
  clear h ha c1 hz ht
  go_in
  go_wp2_with (first|(refine lGJ19 BT.o ?_)|(go_at_call 90;refine qM (MA.o _ HA2.o) fun w5 hb=>?_;have l5:=hb.size;obtain ⟨FR,BT,BR⟩:=uz3 hb FR BT BR;clear hb yw1 yw2)|(refine sGJ19 (tN 0 0 0 none 0 0) BR.o ?_;intro w9 B9 g9))
  refine rG B9 ?_
  exact ar.none (FR.o.away g9 oM).out
 ·rw [if_neg h]
  rw [if_neg h] at MA
  obtain ⟨H,V,C,TK⟩:=cY c1
  have en:t.data.length=n:=ha.n_eq
  rw [en] at TK
  have hpn:(p.toNat:Int)=p:=oM
  have RZ:=zH (fun w h'=>od t H V C p.toNat A n cap z w h' TK oM hz)
  rw [← TK.h,← TK.v,← TK.c,hpn] at RZ
  obtain ⟨Q,hQ⟩:∃ q,gL t p.toNat z=q:=⟨_,rfl⟩
  rw [hQ] at RZ ⊢
  clear h ha c1 hz ht TK hpn hQ
  go_in
  go_wp2_with (first|(refine lGJ19 BT.o ?_)|(go_at_call 90;refine qM (MA.o _ HA2.o) fun w5 hb=>?_;have l5:=hb.size;obtain ⟨FR,BT,BR⟩:=uz3 hb FR BT BR;clear hb yw1 yw2))
  refine (RZ.o _ (zO HA FR)).mono ?_
  rintro e wm ⟨RA,rn,rc,rfl,rs,hb⟩
  have RS:=zH (show New w5 (aa .i8) wm RA rn rc _ from ⟨rs⟩)
  have lbr:=BR.o.lt
  have lfr:=FR.o.size
  obtain ⟨BR,FR⟩:=uz2 hb BR FR
  clear hb rs
  go_wp2_with (refine sGJ19 (tN Q.1.h Q.1.v Q.1.c RA rn rc) BR.o ?_;intro w9 B9 g9)
  refine rG B9 ?_
  exact ⟨RA,rn,rc,rfl,(RS.o.away g9 lbr).out.more (aO lfr (lR _)),(FR.o.away g9 oM).out⟩
end Go.Proofs.YtmihnoagagbgaaaGreat
