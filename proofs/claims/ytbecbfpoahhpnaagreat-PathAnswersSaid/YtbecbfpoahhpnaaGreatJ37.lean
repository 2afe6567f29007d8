/- A tensor whose pixels are those of another one, or z (layer 9: pad.made). -/
import Derived.Test.YtbecbfpoahhpnaaGreatJ33
import Derived.Test.YtbecbfpoahhpnaaGreatJ34
import Derived.Test.YtbecbfpoahhpnaaGreatJ36
set_option linter.unusedVariables false
set_option linter.unusedSimpArgs false
set_option maxRecDepth 100000
set_option maxHeartbeats 16000000
namespace Go.Proofs.YtbecbfpoahhpnaaGreat
open Go.RowKit Go.ChangeShapes Go.WideShapes Fx Tryz
def fV (F:Nat → Int) (z:Int) (N C i:Nat):List Int:=(List.range N).map fun j=>if j / C < i then F j else z
theorem zh (F:Nat → Int) (z:Int) (N C:Nat):fV F z N C 0=List.replicate N z:=by
 unfold fV;apply List.ext_getElem sM;intro i e t;simp
theorem qg (F:Nat → Int) (z:Int) (N C i j:Nat) (h:j < N):(fV F z N C i)[j]?=some (if j / C < i then F j else z):=by
 unfold fV;rw [List.getElem?_map,List.getElem?_range h];rfl
theorem tW (F:Nat → Int) (z:Int) (N C i:Nat):(fV F z N C i).length=N:=by unfold fV;simp
theorem pw {C i j:Nat} (e:0 < C):(j / C < i ↔ j < i*C):=Nat.div_lt_iff_lt_mul e
theorem zf (F:Nat → Int) (z:Int) (N C i:Nat) (o:0 < C) (h:∀ c,c < C → F (i*C+c)=z):fV F z N C i=fV F z N C (i+1):=by
 unfold fV;apply List.map_congr_left;intro j _;by_cases t:j / C < i
 ·rw [if_pos t,if_pos oM]
 ·by_cases a:j / C < i+1
  ·rw [if_neg t,if_pos a];have e:j / C=i:=oM;have:=Nat.div_add_mod j C;rw [e,Nat.mul_comm] at this;rw [← this,h _ (Nat.mod_lt _ o)]
  ·rw [if_neg t,if_neg a]
theorem ze (F:Nat → Int) (z:Int) (N C i:Nat) (e:0 < C) (h:i*C+C≤N):splice (fV F z N C i) (i*C) ((List.range C).map fun c=>F (i*C+c))=fV F z N C (i+1):=by
 have o:=tW F z N C i;apply List.ext_getElem?;intro j;have s:(splice (fV F z N C i) (i*C) ((List.range C).map fun c=>F (i*C+c))).length=N:=by rw [length_splice _ _ _ (by simp [o];omega),o]
 by_cases t:j < N
 ·rw [qg F z N C (i+1) j t];have n:(j / C < i+1)=(j < i*C+C):=by rw [pw e,Nat.succ_mul]
  simp only [n];unfold splice;by_cases a:j < i*C
  ·rw [List.getElem?_append_left (by rw [List.length_take];omega),List.getElem?_take,if_pos a,qg F z N C i j t,if_pos ((pw e).2 a),if_pos oM]
  ·rw [List.getElem?_append_right (by rw [List.length_take];omega),List.length_take,o,Nat.min_eq_left oM];by_cases b:j < i*C+C
   ·rw [List.getElem?_append_left (by simp;omega),List.getElem?_map,List.getElem?_range oM,if_pos b];show some (F (i*C+(j - i*C)))=some (F j);rw [show i*C+(j - i*C)=j by omega]
   ·rw [List.getElem?_append_right (by simp;omega),List.length_map,List.length_range,List.getElem?_drop,show i*C+C+(j - i*C - C)=j by omega,qg F z N C i j t,if_neg (by rw [pw e];exact a),if_neg b]
 ·rw [List.getElem?_eq_none oM,List.getElem?_eq_none (by rw [tW];omega)]
theorem Bx (F:Nat → Int) (z:Int) (N C M:Nat) (e:0 < C) (h:M*C=N):fV F z N C M=(List.range N).map F:=by
 unfold fV;apply List.map_congr_left;intro j t;rw [if_pos ((pw e).2 (by rw [h];exact List.mem_range.1 t))]
theorem vu (H V C Ho Wo p M:Nat) (A:QA) (n r:Nat) (l:List Int) (z:Int) (N:Nat) (a:Addr) (w:World) (ha:xA w A n r l) (hn:n=H*V*C) (ct:n≤1024) (hH:1≤H∧H≤16) (hV:1≤V∧V≤16) (hC:1≤C∧C≤1024) (ba:decide (0 < ag H V C)=true)
  (ad:1≤Ho∧Ho≤16) (ac:1≤Wo∧Wo≤16) (hp:p≤4) (hz:InK .i8 z) (hM:Ho*Wo=M) (hN:M*C=N) (bc:N≤1024) (bt:ag (Ho:Int) (Wo:Int) (C:Int)=(N:Int)) (bo:w.cell? a=some (.int .i64 p)) (bb:a.block < w.heap.size) :
  Calls prog 189 #[.agg (sN Ho Wo C),.agg (tN H V C A n r),.int .i8 z,.func (.func 190) #[] #[.pointer (some a)]] w fun e w'=>∃ Q c,e=.returned (.agg (tN Ho Wo C Q N c))∧Sl (ab .i8) w' (bin w w') Q N c ((List.range N).map (Bw H V C l p z Wo))∧Below w w w':=by
 obtain ⟨HA,HZ,ax⟩:=zh3 ha hz (And.intro bo bb);have bl:1≤N:=by rw [← hN,← hM];exact Nat.mul_pos (Nat.mul_pos ad.1 ac.1) hC.1
 obtain ⟨FI,IX,HN,NE⟩:=zh4 (fun w=>AU Ho Wo C N z w ⟨ad.1,by omega⟩ ⟨ac.1,by omega⟩ hC bt ⟨bl,bc⟩ hz) (fun (yy xx:Int) (w:World)=>fQ H V C yy xx 0 w hH hV hC ba hC.1) hn (And.intro hM hN);have be:(Ho:Int)*(Wo:Int)=(M:Int):=by rw [← hM];simp
 have bO:M≤256:=by rw [← hM];exact Nat.mul_le_mul ad.2 ac.2
 have gM:IntKind.i64.wrap ((Ho:Int)*(Wo:Int))=(M:Int):=by rw [be];exact wJ
 obtain ⟨U,al⟩:∃ f,Bw H V C l p z Wo=f:=⟨_,rfl⟩;rw [al];have bd:=zH (show ∀ j,U j=oe H V C l ((j / C / Wo:Nat) - (p:Int)) ((j / C % Wo:Nat) - (p:Int)) (j % C) z from fun j=>by rw [← al];rfl);have d:=zW w;clear ha hz bo hn bt ba hM hN be al;obtain ⟨w1,w2,w3,bx,bz,bA,l1,l2,l3,B,F,E,bh⟩:=bk3 w (sN Ho Wo C) 23 (tN H V C A n r) 29 (tN 0 0 0 none 0 0) 29;replace d:=zF bh d;clear bh;go_in
 go_wp2_with (refine lG B.o ?_)
 refine (FI.o _).mono ?_;rintro e w4 ⟨q,rfl,L,G⟩;have I:=zH L;have lq:=L.lt _ rfl;have l4:=G.size;clear L bx bz bA;obtain ⟨d,B,F,E⟩:=uz4 G d B F E;clear G;obtain ⟨w5,ay,O,br⟩:=nB w4 (tN Ho Wo C (some ⟨q,0,none⟩) N N) 29;obtain ⟨d,B,F,E⟩:=uz4 br d B F E;clear br;have O5:=zH (I.o.below (show Below w4 w4 w5 by rw [← ay];exact (qB _ _).alloc (lR _) _) (lR _) (fun _ h=>h.elim));have l5:=zL ay;obtain ⟨s0,s1⟩:=uc2 B 0 1;go_wp2_with fail;clear ay s0 s1 I FI;have I:=zH (show Own (ab .i8) w5 (fun _=>False) w3.heap.size 80 (.slice (some ⟨q,0,none⟩) N N) N (fV U z N C 0) by rw [zh];exact O5.o);clear O5 gM;go_loopw [30] (fun ii wr=>∃ i:Nat,i≤M∧ii=.int .i64 i∧Far w wr∧Blk wr w.heap.size 23 (sN Ho Wo C)∧Blk wr w1.heap.size 29 (tN H V C A n r)∧Blk wr w2.heap.size 29 (tN 0 0 0 none 0 0)∧Blk wr w4.heap.size 29 (tN Ho Wo C (some ⟨q,0,none⟩) N N)∧Own (ab .i8) wr (fun _=>False) w3.heap.size 80 (.slice (some ⟨q,0,none⟩) N N) N (fV U z N C i)) (fun ii _=>M - (intOf ii).toNat)
 case atStart=>exact ⟨0,zl _,rfl,d.o,B.o,F.o,E.o,O.o,I.o⟩
 case round =>
  obtain ⟨i,hi,rfl,f0,f1,f2,f3,f4,f5⟩:=hrel;clear d B F E O I;obtain ⟨d,B,F,E,O,I⟩:=zh6 f0 f1 f2 f3 f4 f5;clear f0 f1 f2 f3 f4 f5;by_cases ce:i < M
  ·have p1:(i:Int) < (M:Int):=oM;obtain ⟨yb,Z⟩:∃ m,i / Wo=m:=⟨_,rfl⟩;obtain ⟨xb,Y⟩:∃ m,i % Wo=m:=⟨_,rfl⟩;have bN:yb≤256:=by rw [← Z];exact lT (Nat.div_le_self _ _) oM
   have bM:xb≤16:=by rw [← Y];have:=Nat.mod_lt i (show Wo > 0 by omega);omega
   have bR:¬ Wo=0:=oM;have d1:(i:Int).tdiv (Wo:Int)=(yb:Int):=by rw [← Z,Int.tdiv_eq_ediv_of_nonneg oM];simp
   have d2:(i:Int).tmod (Wo:Int)=(xb:Int):=by rw [← Y,Int.tmod_eq_emod_of_nonneg oM];simp
   have e1:IntKind.i64.wrap (yb:Int)=(yb:Int):=wJ;have e2:IntKind.i64.wrap (xb:Int)=(xb:Int):=wJ;have R:=zH (show ∀ c,c < C → U (i*C+c)=oe H V C l ((yb:Int) - (p:Int)) ((xb:Int) - (p:Int)) c z from fun c X=>by
    have dv:(i*C+c) / C=i:=by rw [Nat.mul_comm,Nat.mul_add_div oM,Nat.div_eq_of_lt X,Nat.add_zero]
    have md:(i*C+c) % C=c:=by rw [Nat.mul_comm,Nat.mul_add_mod,Nat.mod_eq_of_lt X]
    rw [bd.o,dv,md,Z,Y])
   clear Z Y;have s1:=B.o.drew.cell 1;simp only [gX] at s1;go_wp2_with fail;refine wp_region_held_drew (S:=fun w'=>w'.cell? ⟨w.heap.size,1,none⟩=some (.int .i64 Wo)∧Below wr wr w') kM ?_ (fun t=>?_)
   ·exact ⟨s1,(qB _ _).drew⟩
   refine kH' 0 t ?_;refine kH' 1 t ?_;refine kH' 2 t ?_;refine kH' 3 t ?_;refine kH' 4 t ?_;refine kH' 5 t ?_;refine kH' 6 t ?_;refine kH' 7 t ?_;refine kH' 8 t ?_;refine rH 9 rfl (fun K hK=>?_);go_simp;refine qM (vr a (yb:Int) (xb:Int) (p:Int) _ ((d.o.fut t.2).out.cell (p:=a) ax.o.2 |>.trans ax.o.1) ⟨by omega,by omega⟩ ⟨by omega,by omega⟩ ⟨by omega,by omega⟩) fun wa G=>?_;refine hK.out _ _ ⟨au G t.1,aa G t.2⟩ (fun t=>?_);clear hK K;try simp only [pX]
   refine kH' 10 t ?_;refine kH' 11 t ?_;refine kH' 13 t ?_;refine kH' 12 t ?_;refine kH' 14 t ?_;refine wpAnyH_done kM ?_ _;have kd:=t.2;replace I:=zH (I.o.below kd (lR _) (fun _ h=>h.elim));obtain ⟨d,B,F,E,O⟩:=uz5 kd d B F E O;clear kd;clear s1 d1 d2 e1 e2 t G;obtain ⟨yy,bs⟩:∃ y,(yb:Int) - (p:Int)=y:=⟨_,rfl⟩;obtain ⟨xx,bn⟩:∃ y,(xb:Int) - (p:Int)=y:=⟨_,rfl⟩;rw [bs,bn] at R ⊢;clear bs bn
   go_wp2_with (refine lP 23 (sN H V C) F.o ?_)
   have E1:=IX.o yy xx wa;by_cases D:bY H V yy xx
   ·have an:=D;unfold bY at an;simp only [if_pos D,qT D] at E1;obtain ⟨at_,W⟩:∃ m,eB V C yy xx 0=m:=⟨_,rfl⟩;rw [W] at E1;refine E1.mono ?_;rintro e wb ⟨rfl,G⟩;have lb:=G.size;replace I:=zH (I.o.below G (lR _) (fun _ h=>h.elim));obtain ⟨d,B,F,E,O⟩:=uz5 G d B F E O;clear G;obtain ⟨P,J⟩:∃ m,i*C=m:=⟨_,rfl⟩;have ah:P+C≤N:=by
     rw [← NE.o.2,← J];have:=Nat.mul_le_mul_right C (show i+1≤M by omega);rw [Nat.succ_mul] at this;exact this
    have bB:at_+C≤n:=by
     have h1:=jE yy.toNat xx.toNat (C - 1) H V C oM oM oM;rw [← HN.o] at h1;rw [← W];unfold eB;omega
    have bD:n≤r:=HA.o.cap_le;have bW:r≤9223372036854775807:=HA.o.max_le;have g1:IntKind.i64.wrap ((i:Int)*(C:Int))=(P:Int):=by rw [show (i:Int)*(C:Int)=(P:Int) by rw [← J];simp];exact wJ
    have g2:IntKind.i64.wrap ((i:Int)+1)=(i:Int)+1:=wJ;obtain ⟨o2,bg⟩:∃ m,P+C=m:=⟨_,rfl⟩;obtain ⟨a2,bp⟩:∃ m,at_+C=m:=⟨_,rfl⟩;have g3:IntKind.i64.wrap (((i:Int)+1)*(C:Int))=(o2:Int):=by rw [show ((i:Int)+1)*(C:Int)=(o2:Int) by rw [← bg,← J,Int.add_mul,Int.one_mul];simp];exact wJ
    have g4:IntKind.i64.wrap ((at_:Int)+(C:Int))=(a2:Int):=by rw [show ((at_:Int)+(C:Int))=(a2:Int) by rw [← bp];simp];exact wJ
    obtain ⟨XS,T⟩:∃ x,((List.range C).map fun c=>U (P+c))=x:=⟨_,rfl⟩;have XL:XS.length=C:=by rw [← T];simp
    have PC:=zH (ze U z N C i hC.1 (by rw [J];exact ah));rw [J,T] at PC;rw [J] at R;have XV:∀ c,c < C → XS.getD c 0=l.getD (at_+c) 0:=fun c X=>by
     rw [← T,gD,List.getElem?_map,List.getElem?_range X];show U (P+c)=_;rw [R.o c X];unfold oe;rw [if_pos D,← W];rfl
    have SD:=(zO HA d);have S0:=SD.int_at at_ oM;obtain ⟨b,o,rfl,bT,-,-,-⟩:=S0;have OD:=zH (I.o.heap (w':=wb.drew) rfl);have X0:=zH (show ∀ x ∈ XS,InK .i8 x by
     intro x hx;rw [← T] at hx;obtain ⟨c,X,rfl⟩:=List.mem_map.1 hx;rw [R.o c (List.mem_range.1 X)];exact Dd HA.o.allK HZ.o)
    have X1:=zH (show XS.length=Nat.min C C by rw [XL];exact (Nat.min_self C).symm);have X2:=zH (show ∀ j,j < XS.length → wb.drew.cell? ((⟨b,o+at_,none⟩:Addr).add j)=some (.int .i8 (XS.getD j 0)) by
     intro j hj;rw [XL] at hj;obtain ⟨b',o',e',-,-,cx,-⟩:=SD.int_at (at_+j) oM;injection e' with e'
     injection e' with e1 e2 e3
     subst e1 e2;have bw:(⟨b,o+at_,none⟩:Addr).add j=⟨b,o+(at_+j),none⟩:=by unfold Addr.add;split <;> simp_all <;> omega
     rw [bw,XV j hj];exact cx)
    obtain ⟨X3,bH⟩:=zh2 (show P+XS.length≤N by rw [XL];exact ah) XL;clear T XL XV SD W J E1 D an;have ca:¬ N=P:=oM;have co:¬ r=at_:=oM;have i1:P≤o2:=oM;have i2:o2≤N:=oM;have i3:at_≤a2:=oM;have i4:a2≤r:=oM;have i5:o2 - P=C:=oM;have i6:a2 - at_=C:=oM;go_wp2_with fail;refine wp_region_held_drew (S:=fun w'=>Blk w' w4.heap.size 29 (tN Ho Wo C (some ⟨q,0,none⟩) N N)∧Blk w' w.heap.size 23 (sN Ho Wo C)∧Blk w' w1.heap.size 29 (tN H V C (some ⟨b,o,none⟩) n r)∧Blk w' w2.heap.size 29 (tN 0 0 0 none 0 0)∧Below w w w') kM ?_ (fun t=>?_)
    ·exact ⟨O.o.drew,B.o.drew,F.o.drew,E.o.drew,d.u.drew⟩
    refine kH' 0 t ?_;refine tkH 1 rfl (v:=?_) (Or.inl ⟨by rfl,?_⟩) t ?_;rotate_left
    ·intro wz g;have zz:=g.1.cell 3;simp only [gX] at zz;go_simp;try with_reducible rfl
    try simp only [pX]
    refine kH' 2 t ?_;refine kH' 3 t ?_;refine tkH 4 rfl (v:=?_) (Or.inl ⟨by rfl,?_⟩) t ?_;rotate_left
    ·intro wz g;have zz:=g.2.1.cell 2;simp only [gX] at zz;go_simp;try with_reducible rfl
    try simp only [pX]
    refine kH' 5 t ?_;refine kH' 6 t ?_;refine kH' 7 t ?_;refine kH' 8 t ?_;refine tkH 9 rfl (v:=?_) (Or.inl ⟨by rfl,?_⟩) t ?_;rotate_left
    ·intro wz g;have zz:=g.2.1.cell 2;simp only [gX] at zz;go_simp;try with_reducible rfl
    try simp only [pX]
    refine kH' 10 t ?_;refine kH' 11 t ?_;refine kH' 12 t ?_;refine tkH 13 rfl (v:=?_) (Or.inl ⟨by rfl,?_⟩) t ?_;rotate_left
    ·intro wz g;have zz:=g.2.2.1.cell 3;simp only [gX] at zz;go_simp;try with_reducible rfl
    try simp only [pX]
    refine kH' 14 t ?_;refine kH' 15 t ?_;refine kH' 16 t ?_;refine tkH 17 rfl (v:=?_) (Or.inl ⟨by rfl,?_⟩) t ?_;rotate_left
    ·intro wz g;have zz:=g.2.1.cell 2;simp only [gX] at zz;go_simp;try with_reducible rfl
    try simp only [pX]
    refine kH' 18 t ?_;refine kH' 19 t ?_;refine rH 20 rfl (fun K hK=>?_);rw [if_pos (by rfl)];refine lf (k:=.i8) (.tmp 66) (.tmp 74) 27 27 rfl 80 underlying27 kM OD.o P C (N - P) rfl ⟨b,o+at_,none⟩ C (r - at_) rfl XS X0.o X1.o X2.o X3.o ?_;intro wc L gc;have OC:=zH L;clear L;refine hK.out _ _ ⟨t.1.rowR gc (fun e=>by injection e with e;omega),t.2.1.rowR gc (fun e=>by injection e with e;omega),t.2.2.1.rowR gc (fun e=>by injection e with e;omega),t.2.2.2.1.rowR gc (fun e=>by injection e with e;omega),t.2.2.2.2.grown gc t.2.2.2.2.size (fun j e=>by injection e with e;omega)⟩ (fun t=>?_);clear hK K;try simp only [pX]
    refine wpAnyH_done kM ?_ _;have O9:=OC.o;rw [PC.o] at O9;go_wp2;exact ⟨⟨i+1,by omega,by go_num,⟨t.2.2.2.2⟩,t.2.1,t.2.2.1,t.2.2.2.1,t.1,O9⟩,by simp [intOf];omega⟩
   ·simp only [if_neg D,dF D] at E1;refine E1.mono ?_;rintro e wb ⟨rfl,G⟩;replace I:=zH (I.o.below G (lR _) (fun _ h=>h.elim));obtain ⟨d,B,F,E,O⟩:=uz5 G d B F E O;clear G;go_wp2_with fail;have o3:=I.o;rw [zf U z N C i hC.1 (fun c X=>by rw [R.o c X];unfold oe;rw [if_neg D])] at o3;exact ⟨⟨i+1,by omega,by go_num,d.o,B.o,F.o,E.o,O.o,o3⟩,by simp [intOf];omega⟩
  ·obtain rfl:i=M:=oM
   go_wp2_with (first|(refine lG O.o ?_)|(refine sG (tN Ho Wo C (some ⟨q,0,none⟩) N N) E.o ?_;intro w9 B9 g9))
   have e1:=I.o;rw [Bx U z N C i hC.1 NE.o.2] at e1;have e2:=e1.flat g9 (.inr (by simp [Value.ownBlock];omega)) (fun _ h=>h);refine ret_cell rfl B9 rfl underlying29 kM rfl ?_;have FE:=d.o.away g9 oM;obtain ⟨A2,c2,hv,s⟩:=e2.sl (S':=bin w.heap.size _) dM (fun b h1 h2=>⟨by omega,h2⟩) (fun b h=>h.elim);injection hv with hv1 hv2 hv3
   subst hv1 hv3;exact ⟨_,_,rfl,s,FE.out⟩
theorem vB (t:ae) (H V C p:Nat) (A:QA) (n d:Nat) (z:Int) (w:World) (R:xA w A n d t.data) (r:TOk t n H V C) (hp:p≤4) (U:InK .i8 z) :
  Calls prog 158 #[.agg (tN H V C A n d),.int .i64 p,.int .i8 z] w (aT .i8 (oc t p z).1 (oc t p z).2 w):=by
 have HA:=zH R;have k1:=r.h1;have k2:=r.v1;have k3:=r.c1;unfold oc;rw [r.h,r.v,r.c];simp only [Int.toNat_natCast];obtain ⟨Ho,E⟩:∃ m,H+2*p=m:=⟨_,rfl⟩;obtain ⟨Wo,g⟩:∃ m,V+2*p=m:=⟨_,rfl⟩;have L:(H:Int)+2*(p:Int)=(Ho:Int):=oM;have M:(V:Int)+2*(p:Int)=(Wo:Int):=oM;rw [L,M,g];have J:=zH (fun w=>aV (Ho:Int) (C:Int) (Wo:Int) w (by rw [ai];omega) (by rw [ai];omega) (by rw [ai];omega));have i:=zW w;obtain ⟨w1,w2,F,j,q,x,_,_,_,l,y,s,G⟩:=bk3 w (tN H V C A n d) 29 #[.int .i64 p] 3 (tN 0 0 0 none 0 0) 29;replace i:=zF G i;clear G;have t0:F.cell? ⟨w.heap.size,0,none⟩=some (.int .i64 H):=l.o.cell 0;have t1:F.cell? ⟨w.heap.size,1,none⟩=some (.int .i64 V):=l.o.cell 1;have t2:F.cell? ⟨w.heap.size,2,none⟩=some (.int .i64 C):=l.o.cell 2;have Z:F.cell? ⟨w1.heap.size,0,none⟩=some (.int .i64 p):=y.o.cell 0;obtain ⟨w4,B,D,I⟩:=nB F (sN Ho Wo C) 23;obtain ⟨i,l,y,s⟩:=uz4 I i l y s;clear I;have l1:=zL j;have l2:=zL q;have l3:=zL x;have l4:=zL B;have g1:IntKind.i64.wrap (2*(p:Int))=2*(p:Int):=wJ;have g2:IntKind.i64.wrap ((H:Int)+2*(p:Int))=(Ho:Int):=by rw [L];exact wJ
 have g3:IntKind.i64.wrap ((V:Int)+2*(p:Int))=(Wo:Int):=by rw [M];exact wJ
 by_cases b:ag (Ho:Int) (Wo:Int) (C:Int)=0
 ·rw [if_pos b];rw [show decide (0 < ag (Ho:Int) (Wo:Int) (C:Int))=false by rw [b];decide] at J;clear b R r U L M E g;go_in
  go_wp2_with (first|(refine lG D.o ?_)|(go_at_call 77;refine qM (J.o _) fun w5 f=>?_;have l5:=f.size;obtain ⟨i,l,y,s,D⟩:=uz5 f i l y s D;clear f t0 t1 t2 Z j q x B)|(refine sG (tN 0 0 0 none 0 0) s.o ?_;intro w9 O K))
  refine rG O ?_;exact aT.none (i.o.away K oM).out
 ·rw [if_neg b];obtain ⟨H',V',C',q1,q2,q3,b1,b2,b3,k,q5⟩:=iP b;obtain rfl:Ho=H':=oM;obtain rfl:Wo=V':=oM;obtain rfl:C=C':=oM;obtain ⟨N,Q⟩:∃ N,Ho*Wo*C=N:=⟨_,rfl⟩;rw [Q] at k q5;have an:0 < N:=by
   rcases Nat.eq_zero_or_pos N with e|e
   ·rw [e] at k;exact absurd k b
   ·exact e
  rw [show decide (0 < ag (Ho:Int) (Wo:Int) (C:Int))=true by rw [k];simp;omega] at J;have MD:=zH (fun wq (h:xA wq A n d t.data) (a:Addr) T S=>vu H V C Ho Wo p (Ho*Wo) A n d t.data z N a wq h r.n_eq r.n_le k1 k2 k3 (gP r) b1 b2 hp U rfl Q q5 k T S);rw [k,Int.toNat_natCast];clear b R r U q1 q2 q3 k Q L M E g;go_in
  go_wp2_with (first|(refine lG D.o ?_)|(go_at_call 77;refine qM (J.o _) fun w5 f=>?_;have l5:=f.size;obtain ⟨i,l,y,s,D⟩:=uz5 f i l y s D;clear f t0 t1 t2 Z j q x B)|(refine lG l.o ?_))
  refine (MD.o _ (zO HA i) ⟨w1.heap.size,0,none⟩ (y.o.cell 0) y.o.lt).mono ?_;rintro e wm ⟨P,Y,rfl,rs,f⟩;have RS:=zH (show New w5 (ab .i8) wm P N Y _ from ⟨rs⟩);have W:=s.o.lt;have X:=i.o.size;obtain ⟨s,i⟩:=uz2 f s i;clear f rs
  go_wp2_with (refine sG (tN Ho Wo C P N Y) s.o ?_;intro w9 O K)
  refine rG O ?_;exact ⟨P,N,Y,rfl,(RS.o.away K W).out.more (aW X (lR _)),(i.o.away K oM).out⟩
def nZ (t:ae) (p z:Int):ae × Int:=if p < 0 ∨ 4 < p then (ak,2) else oc t p.toNat z
theorem wn (t:ae) (p:Int) (A:QA) (n i:Nat) (z:Int) (w:World) (G:aw t) (B:xA w A n i t.data) (j:t.ok=true) (I:InK .i8 z) :
  Calls prog 119 #[.agg (tN t.h t.v t.c A n i),.int .i64 p,.int .i8 z] w (aT .i8 (nZ t p z).1 (nZ t p z).2 w):=by
 obtain ⟨N,k⟩:=zh2 B (fun w (h:xA w A n i t.data)=>xm t A n i p w G h j);have a:=zW w;obtain ⟨w1,w2,b,g,Y,Z,d,r,y⟩:=bk2 w (tN t.h t.v t.c A n i) 29 (tN 0 0 0 none 0 0) 29;replace a:=zF y a;clear y;have m:=zH (zO N a);unfold nZ;by_cases h:p < 0 ∨ 4 < p
 ·rw [if_pos h];rw [if_pos h] at k;clear h B j I G;go_in
  go_wp2_with (first|(refine lG d.o ?_)|(go_at_call 157;refine qM (k.o _ m.o) fun P s=>?_;have U:=s.size;obtain ⟨a,d,r⟩:=uz3 s a d r;clear s b g)|(refine sG (tN 0 0 0 none 0 0) r.o ?_;intro W D x))
  refine rG D ?_;exact aT.none (a.o.away x oM).out
 ·rw [if_neg h];rw [if_neg h] at k;obtain ⟨H,V,C,l⟩:=fK j;have S:t.data.length=n:=B.n_eq;rw [S] at l;have f:(p.toNat:Int)=p:=oM;have F:=zH (fun w T=>vB t H V C p.toNat A n i z w T l oM I);rw [← l.h,← l.v,← l.c,f] at F;obtain ⟨Q,O⟩:∃ q,oc t p.toNat z=q:=⟨_,rfl⟩;rw [O] at F ⊢;clear h B j I G l f O;go_in
  go_wp2_with (first|(refine lG d.o ?_)|(go_at_call 157;refine qM (k.o _ m.o) fun P s=>?_;have U:=s.size;obtain ⟨a,d,r⟩:=uz3 s a d r;clear s b g))
  refine (F.o _ (zO N a)).mono ?_;rintro e X ⟨E,M,L,rfl,rs,s⟩;have R:=zH (show New P (ab .i8) X E M L _ from ⟨rs⟩);have J:=r.o.lt;have K:=a.o.size;obtain ⟨r,a⟩:=uz2 s r a;clear s rs
  go_wp2_with (refine sG (tN Q.1.h Q.1.v Q.1.c E M L) r.o ?_;intro W D x)
  refine rG D ?_;exact ⟨E,M,L,rfl,(R.o.away x J).out.more (aW K (lR _)),(a.o.away x oM).out⟩
def fA (d:af) (a b:ae):ae × Int :=
 if ¬ bu d=0 then (ak,bu d) else if a.ok=false then (ak,5) else if d.kind=4 then cU ja a d else if d.kind=5 then cU fO a d else if d.kind=6 then jg a b d else if d.kind=7 then kN a d else if d.kind=8 then nZ a d.p d.za else if d.kind=9 then (⟨1,1,a.data.length,a.data⟩,0) else oy a d
theorem vD (d:af) (W:QA) (nw Z:Nat) (B:QA) (nb cb:Nat) (a b:ae) (A A':QA) (n g n' L:Nat) (w:World) (ht:aw a) (hu:aw b) (hd:aQ d)
  (hw:xA w W nw Z d.w) (ad:xB w B nb cb d.bias) (F:xA w A n g a.data) (an:xA w A' n' L b.data) (mw:nw≤2000∧nb≤200) :
  Calls prog 88 #[.agg (nD d W nw Z B nb cb),.agg (tN a.h a.v a.c A n g),.agg (tN b.h b.v b.c A' n' L)] w (aT .i8 (fA d a b).1 (fA d a b).2 w):=by
 obtain ⟨X,V,HA,ay,U⟩:=zh5 hw ad F an (fun w hw i=>kY d W nw Z B nb cb w hw i oM oM);have ah:decide (0 < ag a.h a.v a.c∧ag a.h a.v a.c=n)=a.ok:=by unfold ae.ok;rw [HA.o.n_eq]
 have m:=zH (fun w=>av a.h a.v a.c A n g w ht.h ht.v ht.c (lT F.cap_le F.max_le));rw [ah] at m;have en:a.data.length=n:=F.n_eq;have f:=zH (show fA d a b=if ¬ bu d=0 then (ak,bu d) else if a.ok=false then (ak,5) else if d.kind=4 then cU ja a d else if d.kind=5 then cU fO a d else if d.kind=6 then jg a b d else if d.kind=7 then kN a d else if d.kind=8 then nZ a d.p d.za else if d.kind=9 then (⟨1,1,n,a.data⟩,0) else oy a d by unfold fA;rw [en]);obtain ⟨x,hx⟩:∃ x,fA d a b=x:=⟨_,rfl⟩;rw [hx] at f ⊢;have t:=zW w;obtain ⟨w1,w2,w3,w4,G,H,I,J,l1,l2,l3,l4,r,l,y,s,ac⟩:=bk4 w (nD d W nw Z B nb cb) 84 (tN a.h a.v a.c A n g) 29 (tN b.h b.v b.c A' n' L) 29 (tN 0 0 0 none 0 0) 29;replace t:=zF ac t;clear ac;have Q:=zH (And.intro ht (And.intro hu (And.intro hd mw)));have bt:n≤9223372036854775807:=lT F.cap_le F.max_le;have ax:=zH (show a.ok=true → a.ok=true from id);clear ah en hx ht hu hd hw ad F an mw;obtain ⟨ck,al⟩:∃ k,bu d=k:=⟨_,rfl⟩;rw [al] at U f;clear al;by_cases q1:¬ ck=0
 ·rw [if_pos q1] at f;rw [f.o];have be:(ck != 0)=true:=by rw [bne_iff_ne];exact q1
  clear q1 f;go_in
  go_wp2_with (first|(refine lG r.o ?_)|(go_at_call 106;refine qM (U.o _ (zO X t) (zO V t)) fun w5 i=>?_;have l5:=i.size;obtain ⟨t,r,l,y,s⟩:=uz5 i t r l y s;clear i G H I J)|(refine sG (tN 0 0 0 none 0 0) s.o ?_;intro w9 K E))
  refine rG K ?_;exact aT.none (t.o.away E oM).out
 rw [if_neg q1] at f;rw [Decidable.not_not] at q1;subst q1;by_cases M:a.ok=false
 ·rw [if_pos M] at f;rw [M] at m;rw [f.o];clear M f;go_in
  go_wp2_with (first|(refine lG r.o ?_)|(go_at_call 106;refine qM (U.o _ (zO X t) (zO V t)) fun w5 i=>?_;have l5:=i.size;obtain ⟨t,r,l,y,s⟩:=uz5 i t r l y s;clear i G H I J)|(refine lG l.o ?_)|(go_at_call 58;refine qM (m.o _) fun N i=>?_;have l6:=i.size;obtain ⟨t,r,l,y,s⟩:=uz5 i t r l y s;clear i)|(refine sG (tN 0 0 0 none 0 0) s.o ?_;intro w9 K E))
  refine rG K ?_;exact aT.none (t.o.away E oM).out
 rw [if_neg M] at f;rw [Bool.not_eq_false] at M;rw [M] at m;have C1:=zH M;by_cases T:d.kind=4
 ·rw [if_pos T] at f;have S:=zH (fun w F=>vy a A n g d W nw Z B nb cb w F C1.o);rw [← f.o] at S;have R:=zH T;clear T  f M;go_in
  go_wp2_with (first|(refine lG r.o ?_)|(go_at_call 106;refine qM (U.o _ (zO X t) (zO V t)) fun w5 i=>?_;have l5:=i.size;obtain ⟨t,r,l,y,s⟩:=uz5 i t r l y s;clear i G H I J)|(refine lG l.o ?_)|(go_at_call 58;refine qM (m.o _) fun N i=>?_;have l6:=i.size;obtain ⟨t,r,l,y,s⟩:=uz5 i t r l y s;clear i;have D:=r.o.cell 0;simp only [gX] at D;rw [R.o] at D))
  refine (S.o _ (zO HA t)).mono ?_;rintro e P ⟨m,C,z,rfl,rs,i⟩;have O:=zH (show New N (ab .i8) P m C z x.1.data from ⟨rs⟩);have j:=s.o.lt;have q:=t.o.size;obtain ⟨s,t⟩:=uz2 i s t;clear i rs D
  go_wp2_with (refine sG (tN x.1.h x.1.v x.1.c m C z) s.o ?_;intro w9 K E)
  refine rG K ?_;exact ⟨m,C,z,rfl,(O.o.away E j).out.more (aW q (lR _)),(t.o.away E oM).out⟩
 rw [if_neg T] at f;have t4:(d.kind == 4)=false:=by simpa using T
 by_cases Y:d.kind=5
 ·rw [if_pos Y] at f;have S:=zH (fun w F=>rV a A n g d W nw Z B nb cb w F C1.o);rw [← f.o] at S;have R:=zH Y;clear Y  T t4 f M;go_in
  go_wp2_with (first|(refine lG r.o ?_)|(go_at_call 106;refine qM (U.o _ (zO X t) (zO V t)) fun w5 i=>?_;have l5:=i.size;obtain ⟨t,r,l,y,s⟩:=uz5 i t r l y s;clear i G H I J)|(refine lG l.o ?_)|(go_at_call 58;refine qM (m.o _) fun N i=>?_;have l6:=i.size;obtain ⟨t,r,l,y,s⟩:=uz5 i t r l y s;clear i;have D:=r.o.cell 0;simp only [gX] at D;rw [R.o] at D))
  refine (S.o _ (zO HA t)).mono ?_;rintro e P ⟨m,C,z,rfl,rs,i⟩;have O:=zH (show New N (ab .i8) P m C z x.1.data from ⟨rs⟩);have j:=s.o.lt;have q:=t.o.size;obtain ⟨s,t⟩:=uz2 i s t;clear i rs D
  go_wp2_with (refine sG (tN x.1.h x.1.v x.1.c m C z) s.o ?_;intro w9 K E)
  refine rG K ?_;exact ⟨m,C,z,rfl,(O.o.away E j).out.more (aW q (lR _)),(t.o.away E oM).out⟩
 rw [if_neg Y] at f;have t5:(d.kind == 5)=false:=by simpa using Y
 by_cases k6:d.kind=6
 ·rw [if_pos k6] at f;have S:=zH (fun w F an=>wP a b A A' n g n' L d W nw Z B nb cb w Q.o.1 Q.o.2.1 Q.o.2.2.1 F an C1.o);rw [← f.o] at S;have R:=zH k6;clear k6  T t4 Y t5 f M;go_in
  go_wp2_with (first|(refine lG r.o ?_)|(go_at_call 106;refine qM (U.o _ (zO X t) (zO V t)) fun w5 i=>?_;have l5:=i.size;obtain ⟨t,r,l,y,s⟩:=uz5 i t r l y s;clear i G H I J)|(refine lG l.o ?_)|(go_at_call 58;refine qM (m.o _) fun N i=>?_;have l6:=i.size;obtain ⟨t,r,l,y,s⟩:=uz5 i t r l y s;clear i;have D:=r.o.cell 0;simp only [gX] at D;rw [R.o] at D)|(refine lG y.o ?_))
  refine (S.o _ (zO HA t) (zO ay t)).mono ?_;rintro e P ⟨m,C,z,rfl,rs,i⟩;have O:=zH (show New N (ab .i8) P m C z x.1.data from ⟨rs⟩);have j:=s.o.lt;have q:=t.o.size;obtain ⟨s,t⟩:=uz2 i s t;clear i rs D
  go_wp2_with (refine sG (tN x.1.h x.1.v x.1.c m C z) s.o ?_;intro w9 K E)
  refine rG K ?_;exact ⟨m,C,z,rfl,(O.o.away E j).out.more (aW q (lR _)),(t.o.away E oM).out⟩
 rw [if_neg k6] at f;have t6:(d.kind == 6)=false:=by simpa using k6
 by_cases k7:d.kind=7
 ·rw [if_pos k7] at f;have S:=zH (fun w F=>yf a A n g d W nw Z B nb cb w Q.o.1 Q.o.2.2.1 F C1.o);rw [← f.o] at S;have R:=zH k7;clear k7  T t4 Y t5 k6 t6 f M;go_in
  go_wp2_with (first|(refine lG r.o ?_)|(go_at_call 106;refine qM (U.o _ (zO X t) (zO V t)) fun w5 i=>?_;have l5:=i.size;obtain ⟨t,r,l,y,s⟩:=uz5 i t r l y s;clear i G H I J)|(refine lG l.o ?_)|(go_at_call 58;refine qM (m.o _) fun N i=>?_;have l6:=i.size;obtain ⟨t,r,l,y,s⟩:=uz5 i t r l y s;clear i;have D:=r.o.cell 0;simp only [gX] at D;rw [R.o] at D))
  refine (S.o _ (zO HA t)).mono ?_;rintro e P ⟨m,C,z,rfl,rs,i⟩;have O:=zH (show New N (ab .i8) P m C z x.1.data from ⟨rs⟩);have j:=s.o.lt;have q:=t.o.size;obtain ⟨s,t⟩:=uz2 i s t;clear i rs D
  go_wp2_with (refine sG (tN x.1.h x.1.v x.1.c m C z) s.o ?_;intro w9 K E)
  refine rG K ?_;exact ⟨m,C,z,rfl,(O.o.away E j).out.more (aW q (lR _)),(t.o.away E oM).out⟩
 rw [if_neg k7] at f;have t7:(d.kind == 7)=false:=by simpa using k7
 by_cases k8:d.kind=8
 ·rw [if_pos k8] at f;have S:=zH (fun w F=>wn a d.p A n g d.za w Q.o.1 F C1.o Q.o.2.2.1.za);rw [← f.o] at S;have R:=zH k8;clear k8  T t4 Y t5 k6 t6 k7 t7 f M;go_in
  go_wp2_with (first|(refine lG r.o ?_)|(go_at_call 106;refine qM (U.o _ (zO X t) (zO V t)) fun w5 i=>?_;have l5:=i.size;obtain ⟨t,r,l,y,s⟩:=uz5 i t r l y s;clear i G H I J)|(refine lG l.o ?_)|(go_at_call 58;refine qM (m.o _) fun N i=>?_;have l6:=i.size;obtain ⟨t,r,l,y,s⟩:=uz5 i t r l y s;clear i;have D:=r.o.cell 0;simp only [gX] at D;rw [R.o] at D;obtain ⟨c5,c7⟩:=uc2 r 5 7;simp only [gX] at c5 c7))
  refine (S.o _ (zO HA t)).mono ?_;rintro e P ⟨m,C,z,rfl,rs,i⟩;have O:=zH (show New N (ab .i8) P m C z x.1.data from ⟨rs⟩);have j:=s.o.lt;have q:=t.o.size;obtain ⟨s,t⟩:=uz2 i s t;clear i rs D c5 c7
  go_wp2_with (refine sG (tN x.1.h x.1.v x.1.c m C z) s.o ?_;intro w9 K E)
  refine rG K ?_;exact ⟨m,C,z,rfl,(O.o.away E j).out.more (aW q (lR _)),(t.o.away E oM).out⟩
 rw [if_neg k8] at f;have t8:(d.kind == 8)=false:=by simpa using k8
 by_cases k9:d.kind=9
 ·rw [if_pos k9] at f;have S:=zH (show ∀ w,xA w A n g a.data → Calls prog 120 #[.agg (tN a.h a.v a.c A n g)] w (aT .i8 ((⟨1,1,n,a.data⟩,0):ae × Int).1 ((⟨1,1,n,a.data⟩,0):ae × Int).2 w) from fun w F=>qF a A n g w Q.o.1 F C1.o);rw [← f.o] at S;have R:=zH k9;clear k9  T t4 Y t5 k6 t6 k7 t7 k8 t8 f M;go_in
  go_wp2_with (first|(refine lG r.o ?_)|(go_at_call 106;refine qM (U.o _ (zO X t) (zO V t)) fun w5 i=>?_;have l5:=i.size;obtain ⟨t,r,l,y,s⟩:=uz5 i t r l y s;clear i G H I J)|(refine lG l.o ?_)|(go_at_call 58;refine qM (m.o _) fun N i=>?_;have l6:=i.size;obtain ⟨t,r,l,y,s⟩:=uz5 i t r l y s;clear i;have D:=r.o.cell 0;simp only [gX] at D;rw [R.o] at D))
  refine (S.o _ (zO HA t)).mono ?_;rintro e P ⟨m,C,z,rfl,rs,i⟩;have O:=zH (show New N (ab .i8) P m C z x.1.data from ⟨rs⟩);have j:=s.o.lt;have q:=t.o.size;obtain ⟨s,t⟩:=uz2 i s t;clear i rs D
  go_wp2_with (refine sG (tN x.1.h x.1.v x.1.c m C z) s.o ?_;intro w9 K E)
  refine rG K ?_;exact ⟨m,C,z,rfl,(O.o.away E j).out.more (aW q (lR _)),(t.o.away E oM).out⟩
 rw [if_neg k9] at f;have t9:(d.kind == 9)=false:=by simpa using k9
 have S:=zH (fun w F hw i=>xP a A n g d W nw Z B nb cb w Q.o.1 Q.o.2.2.1 F hw i Q.o.2.2.2);rw [← f.o] at S;clear T Y k6 k7 k8 k9 f M;go_in
 go_wp2_with (first|(refine lG r.o ?_)|(go_at_call 106;refine qM (U.o _ (zO X t) (zO V t)) fun w5 i=>?_;have l5:=i.size;obtain ⟨t,r,l,y,s⟩:=uz5 i t r l y s;clear i G H I J)|(refine lG l.o ?_)|(go_at_call 58;refine qM (m.o _) fun N i=>?_;have l6:=i.size;obtain ⟨t,r,l,y,s⟩:=uz5 i t r l y s;clear i;have D:=r.o.cell 0;simp only [gX] at D))
 ·refine (S.o _ (zO HA t) (zO X t) (zO V t)).mono ?_;rintro e P ⟨m,C,z,rfl,rs,i⟩;have O:=zH (show New N (ab .i8) P m C z x.1.data from ⟨rs⟩);have j:=s.o.lt;have q:=t.o.size;obtain ⟨s,t⟩:=uz2 i s t;clear i rs D
  go_wp2_with (refine sG (tN x.1.h x.1.v x.1.c m C z) s.o ?_;intro w9 K E)
  refine rG K ?_;exact ⟨m,C,z,rfl,(O.o.away E j).out.more (aW q (lR _)),(t.o.away E oM).out⟩
end Go.Proofs.YtbecbfpoahhpnaaGreat
